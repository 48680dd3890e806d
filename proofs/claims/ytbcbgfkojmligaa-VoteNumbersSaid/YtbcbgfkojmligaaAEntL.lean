import Derived.Test.YtbcbgfkojmligaaACode2
/- Part of an abstract machine for Go code and of its soundness, for any program of the model; no condition. -/
set_option linter.unusedVariables false
set_option linter.unusedSimpArgs false
set_option linter.unusedSimpArgs false
set_option linter.constructorNameAsVariable false
namespace Go.AM

def mget : List (Nat × Nat) → Nat → Option Nat
  | [], _ => none
  | (k, k0) :: m, j => if k = j then some k0 else mget m j

mutual
/-- The new value (second) says no more than the old one. m: where the new keys come from. -/
def VM (m : List (Nat × Nat)) (H H' : Heap) : AV → AV → Prop
  | _, .undef => True
  | .int k n, .int k' n' => k' = k ∧ n' = n
  | .bool b, .bool b' => b' = b
  | .str s, .str s' => s' = s
  | .sl t xs f, .sl t' xs' f' => castL? t t' xs = some xs' ∧ (f' = true → f = true)
  | .sl t xs true, .own k lo n => xs = [] ∧ lo = 0 ∧ n = 0 ∧ mget m k = none ∧ (match hget H' k with | some (.row _ _ _) => True | _ => False)
  | .own k0 lo0 n0, .sl t xs f => f = false ∧ plain t = true ∧ match hget H k0 with
    | some (.row t0 ys true) => castL? t0 t ((ys.drop lo0).take n0) = some xs
    | _ => False
  | .own k0 lo0 n0, .own k lo n => mget m k = some k0 ∧ lo = lo0 ∧ n = n0 ∧ (hget H' k).isSome = true
  | .ptr k0 off0, .ptr k off => mget m k = some k0 ∧ off = off0 ∧ (hget H' k).isSome = true
  | .rptr k0 i0 off0, .rptr k i off => mget m k = some k0 ∧ i = i0 ∧ off = off0 ∧ (hget H' k).isSome = true
  | .el t x off, .el t' x' off' => cast? t t' x = some x' ∧ off' = off
  | .agg cs, .agg cs' => VML m H H' cs cs'
  | .tup cs, .tup cs' => VML m H H' cs cs'
  | .clo f cs, .clo f' cs' => f' = f ∧ VML m H H' cs cs'
  | .fv a r p, .fv a' r' p' => a' = a ∧ r' = r ∧ HEq p' p
  | .g b v, .g b' v' => b' = b ∧ VM m H H' v v'
  | _, _ => False
def VML (m : List (Nat × Nat)) (H H' : Heap) : List AV → List AV → Prop
  | [], [] => True
  | c :: cs, c' :: cs' => VM m H H' c c' ∧ VML m H H' cs cs'
  | _, _ => False
end

def OM (m : List (Nat × Nat)) (H H' : Heap) (k : Nat) (o : Obj) : Prop :=
  match mget m k with
  | some k0 => match hget H k0, o with
    | some (.box cs), .box cs' => VML m H H' cs cs'
    | some (.row t xs f), .row t' xs' f' => castL? t t' xs = some xs' ∧ f' = f
    | _, _ => False
  | none => match o with
    | .row t xs f => xs = [] ∧ f = false ∧ plain t = true ∧ 0 < AM.size t
    | _ => False
def EntE (m : List (Nat × Nat)) (H H' : Heap) (E : Env) : Env → Prop
  | [] => True
  | (t, v) :: e => VM m H H' (eget E t) v ∧ EntE m H H' E e
def EntH (m : List (Nat × Nat)) (H H' : Heap) : Heap → Prop
  | [] => True
  | (k, o) :: h => OM m H H' k o ∧ EntH m H H' h
def inj2 : List (Nat × Nat) → Bool
  | [] => true
  | (_, k0) :: m => m.all (fun p => p.2 != k0) && inj2 m

variable {P : Program} {X : Ctx} {σ : St} {a : Act} {w : World} {φ : Nat → Loc} {G M : Nat → Prop}

def phi (m : List (Nat × Nat)) (φ : Nat → Loc) (k : Nat) : Loc := match mget m k with
  | some k0 => φ k0
  | none => ⟨0, 0, 0⟩

theorem EntH_get {m : List (Nat × Nat)} {H H' : Heap} : ∀ {h : Heap} {k : Nat} {o : Obj}, EntH m H H' h → hget h k = some o → OM m H H' k o := by
  intro h
  induction h with
  | nil => intro k o _ hk; simp [hget] at hk
  | cons p h ih =>
    intro k o hE hk
    obtain ⟨j, o'⟩ := p
    simp only [hget] at hk
    split at hk
    · rename_i e; cases hk; subst e; exact hE.1
    · exact ih hE.2 hk

mutual
theorem VM_sound {m : List (Nat × Nat)} {H H' : Heap} (hR : RelH P φ G M w H) (hE : ∀ k o, hget H' k = some o → OM m H H' k o) : ∀ (v' v : AV) (u : Value), VM m H H' v v' → RA P φ G M w H v u → RA P (phi m φ) G M w H' v' u
  | .undef, v, u, h, hr => by simp only [RA]
  | .int k' n', v, u, h, hr => by
    cases v <;> simp only [VM] at h
    obtain ⟨rfl, rfl⟩ := h
    simpa only [RA] using hr
  | .bool b', v, u, h, hr => by
    cases v <;> simp only [VM] at h
    subst h
    simpa only [RA] using hr
  | .str s', v, u, h, hr => by
    cases v <;> simp only [VM] at h
    subst h
    simpa only [RA] using hr
  | .sl t' xs' f', v, u, h, hr => by
    cases v with
    | sl t xs f =>
      have h2 : castL? t t' xs = some xs' ∧ (f' = true → f = true) := by cases f <;> simpa only [VM] using h
      obtain ⟨h1, h2⟩ := h2
      obtain ⟨e, he⟩ := castL?_eq h1
      subst e
      simp only at he
      subst he
      simp only [RA] at hr ⊢
      exact ⟨hr.1, hr.2.1, hr.2.2.1, fun hf => hr.2.2.2 (h2 hf)⟩
    | own k0 lo0 n0 =>
      simp only [VM] at h
      obtain ⟨rfl, hp, h⟩ := h
      split at h
      · rename_i t0 ys hk
        obtain ⟨e, he⟩ := castL?_eq h
        subst e
        simp only at he
        have hso : slOf H t0 (.own k0 lo0 n0) = some xs' := by simp only [slOf, hk, castL?_self, he]
        have hz : 0 < AM.size t0 := by
          have := hR.obj k0 _ hk
          simp only [RObj] at this
          exact this.1.2.1
        have hrt := slOf_sound hR (G1 := G) (fun _ h => h) (.inr (fun j hj t1 xs1 f1 hj' => by
          simp only [keys1, List.mem_singleton] at hj
          subst hj
          rw [hk] at hj'
          cases hj'; rfl)) hr hso
        simp only [RA]
        exact ⟨hp, hz, hrt.2.2, fun hf => (by cases hf)⟩
      · exact h.elim
    | _ => simp [VM] at h
  | .own k lo n, v, u, h, hr => by
    cases v with
    | own k0 lo0 n0 =>
      simp only [VM] at h
      obtain ⟨hm, rfl, rfl, hs⟩ := h
      obtain ⟨o, ho⟩ := Option.isSome_iff_exists.1 hs
      have := hE k o ho
      simp only [OM, hm] at this
      simp only [RA] at hr ⊢
      rw [ho]
      cases hk0 : hget H k0 with
      | none => rw [hk0] at hr; exact hr.elim
      | some o0 =>
        rw [hk0] at hr this
        cases o0 with
        | box cs => exact hr.elim
        | row t xs f =>
          cases o with
          | box cs => exact this.elim
          | row t' xs' f' =>
            obtain ⟨e, he⟩ := castL?_eq this.1
            subst e
            simp only at he
            subst he
            simp only at hr ⊢
            have : phi m φ k = φ k0 := by simp only [phi, hm]
            rw [this]; exact hr
    | sl t xs f =>
      cases f with
      | false => simp [VM] at h
      | true =>
        simp only [VM] at h
        obtain ⟨rfl, rfl, rfl, hm, hs⟩ := h
        simp only [RA] at hr ⊢
        split at hs
        · rename_i t' xs' f' ho
          rw [ho]
          obtain ⟨A, hA⟩ := hr.2.2.2 trivial
          simp only [phi, hm, SlV]
          exact ⟨Nat.zero_le _, A, by simpa using hA, by simp, .inl (by simp)⟩
        · exact hs.elim
    | _ => simp [VM] at h
  | .ptr k off, v, u, h, hr => by
    cases v <;> simp only [VM] at h
    rename_i k0 off0
    obtain ⟨hm, rfl, hs⟩ := h
    obtain ⟨o, ho⟩ := Option.isSome_iff_exists.1 hs
    have := hE k o ho
    simp only [OM, hm] at this
    simp only [RA] at hr ⊢
    rw [ho]
    have e : phi m φ k = φ k0 := by simp only [phi, hm]
    rw [e]
    refine ⟨hr.1, ?_⟩
    have h2 := hr.2
    cases hk0 : hget H k0 with
    | none => rw [hk0] at h2; exact h2.elim
    | some o0 =>
      rw [hk0] at h2 this
      cases o0 with
      | row t xs f => exact h2.elim
      | box cs => cases o with
        | box cs' => trivial
        | row t xs f => exact this.elim
  | .rptr k i off, v, u, h, hr => by
    cases v <;> simp only [VM] at h
    rename_i k0 i0 off0
    obtain ⟨hm, rfl, rfl, hs⟩ := h
    obtain ⟨o, ho⟩ := Option.isSome_iff_exists.1 hs
    have := hE k o ho
    simp only [OM, hm] at this
    simp only [RA] at hr ⊢
    rw [ho]
    have e : phi m φ k = φ k0 := by simp only [phi, hm]
    rw [e]
    cases hk0 : hget H k0 with
    | none => rw [hk0] at hr; exact hr.elim
    | some o0 =>
      rw [hk0] at hr this
      cases o0 with
      | box cs => exact hr.elim
      | row t xs f => cases o with
        | box cs' => exact this.elim
        | row t' xs' f' =>
          obtain ⟨e, he⟩ := castL?_eq this.1
          subst e
          simp only at he
          subst he
          exact hr
  | .el t' x' off', v, u, h, hr => by
    cases v <;> simp only [VM] at h
    obtain ⟨h1, rfl⟩ := h
    obtain ⟨e, he⟩ := cast?_eq h1
    subst e
    simp only at he
    subst he
    simpa only [RA] using hr
  | .agg cs', v, u, h, hr => by
    cases v <;> simp only [VM] at h
    simp only [RA] at hr ⊢
    obtain ⟨us, rfl, h2⟩ := hr
    exact ⟨us, rfl, VML_sound hR hE _ _ _ h h2⟩
  | .tup cs', v, u, h, hr => by
    cases v <;> simp only [VM] at h
    simp only [RA] at hr ⊢
    obtain ⟨us, rfl, h2⟩ := hr
    exact ⟨us, rfl, VML_sound hR hE _ _ _ h h2⟩
  | .clo f' cs', v, u, h, hr => by
    cases v <;> simp only [VM] at h
    obtain ⟨rfl, h⟩ := h
    simp only [RA] at hr ⊢
    obtain ⟨us, rfl, h2⟩ := hr
    exact ⟨us, rfl, VML_sound hR hE _ _ _ h h2⟩
  | .fv a' r' p', v, u, h, hr => by
    cases v <;> simp only [VM] at h
    obtain ⟨rfl, rfl, h⟩ := h
    cases h
    simpa only [RA] using hr
  | .g b' v', v, u, h, hr => by
    cases v <;> simp only [VM] at h
    obtain ⟨rfl, h⟩ := h
    simp only [RA] at hr ⊢
    exact ⟨fun hb => VM_sound hR hE _ _ _ h (hr.1 hb), hr.2⟩
theorem VML_sound {m : List (Nat × Nat)} {H H' : Heap} (hR : RelH P φ G M w H) (hE : ∀ k o, hget H' k = some o → OM m H H' k o) : ∀ (vs' vs : List AV) (us : List Value), VML m H H' vs vs' → RAL P φ G M w H vs us → RAL P (phi m φ) G M w H' vs' us
  | [], vs, us, h, hr => by
    cases vs <;> simp only [VML] at h
    simpa only [RAL] using hr
  | v' :: vs', vs, us, h, hr => by
    cases vs <;> simp only [VML] at h
    simp only [RAL] at hr ⊢
    obtain ⟨u, us', rfl, h1, h2⟩ := hr
    exact ⟨u, us', rfl, VM_sound hR hE _ _ _ h.1 h1, VML_sound hR hE _ _ _ h.2 h2⟩
end

theorem mget_mem {m : List (Nat × Nat)} {k k0 : Nat} (h : mget m k = some k0) : (k, k0) ∈ m := by
  induction m with
  | nil => simp [mget] at h
  | cons p m ih =>
    obtain ⟨j, j0⟩ := p
    simp only [mget] at h
    split at h
    · rename_i e; cases h; subst e; exact List.mem_cons_self ..
    · exact List.mem_cons_of_mem _ (ih h)
theorem inj2_spec {m : List (Nat × Nat)} (h : inj2 m = true) {k k' k0 : Nat} (h1 : mget m k = some k0) (h2 : mget m k' = some k0) : k = k' := by
  induction m with
  | nil => simp [mget] at h1
  | cons p m ih =>
    obtain ⟨j, j0⟩ := p
    simp only [inj2, Bool.and_eq_true, List.all_eq_true, bne_iff_ne, ne_eq] at h
    simp only [mget] at h1 h2
    split at h1
    · rename_i e1
      cases h1
      split at h2
      · rename_i e2; rw [← e1, ← e2]
      · exact absurd rfl (h.1 _ (mget_mem h2))
    · split at h2
      · cases h2; exact absurd rfl (h.1 _ (mget_mem h1))
      · exact ih h.2 h1 h2

/-- A state that says no more. -/
theorem Ent_of {σ σ' : St} (m : List (Nat × Nat)) (hm : inj2 m = true) (hh : EntH m σ.heap σ'.heap σ'.heap) (he : EntE m σ.heap σ'.heap σ.env σ'.env) : Ent σ σ' := by
  intro P X a w φ G M hR
  have hE : ∀ k o, hget σ'.heap k = some o → OM m σ.heap σ'.heap k o := fun k o hk => EntH_get hh hk
  refine ⟨phi m φ, G, M, ?_⟩
  have hloc : ∀ k o, hget σ'.heap k = some o → alloc (phi m φ) k o → ∃ k0 o0, mget m k = some k0 ∧ hget σ.heap k0 = some o0 ∧ alloc φ k0 o0 := by
    intro k o hk ha
    have := hE k o hk
    simp only [OM] at this
    cases hmk : mget m k with
    | none =>
      rw [hmk] at this
      cases o with
      | box cs => exact this.elim
      | row t xs f => simp [alloc, phi, hmk] at ha
    | some k0 =>
      rw [hmk] at this
      simp only at this
      cases h0 : hget σ.heap k0 with
      | none => rw [h0] at this; exact this.elim
      | some o0 =>
        rw [h0] at this
        refine ⟨k0, o0, rfl, h0, ?_⟩
        cases o0 with
        | box cs => trivial
        | row t xs f => cases o with
          | box cs => exact this.elim
          | row t' xs' f' => simpa [alloc, phi, hmk] using ha
  have hH : RelH P (phi m φ) G M w σ'.heap := by
    refine ⟨fun k o hk => ?_, fun k k' o o' hk hk' hne ha ha' => ?_, hR.heap.bnd, hR.heap.mnd, hR.heap.sep⟩
    · have := hE k o hk
      simp only [OM] at this
      cases hmk : mget m k with
      | none =>
        rw [hmk] at this
        cases o with
        | box cs => exact this.elim
        | row t xs f =>
          obtain ⟨rfl, rfl, hp, hz⟩ := this
          have e : phi m φ k = ⟨0, 0, 0⟩ := by simp only [phi, hmk]
          simp only [RObj, e]
          exact ⟨⟨hp, hz, .inl ⟨rfl, rfl⟩⟩, fun h => absurd h (by simp)⟩
      | some k0 =>
        rw [hmk] at this
        simp only at this
        have e : phi m φ k = φ k0 := by simp only [phi, hmk]
        cases h0 : hget σ.heap k0 with
        | none => rw [h0] at this; exact this.elim
        | some o0 =>
          rw [h0] at this
          have hob := hR.heap.obj k0 _ h0
          cases o0 with
          | box cs => cases o with
            | row t xs f => exact this.elim
            | box cs' =>
              simp only [RObj, e] at hob ⊢
              obtain ⟨c, ty, h1, h2, h3⟩ := hob
              exact ⟨c, ty, h1, h2, VML_sound hR.heap hE _ _ _ this h3⟩
          | row t xs f => cases o with
            | box cs => exact this.elim
            | row t' xs' f' =>
              obtain ⟨h1, rfl⟩ := this
              obtain ⟨e1, he1⟩ := castL?_eq h1
              subst e1
              simp only at he1
              subst he1
              simpa only [RObj, e] using hob
    · obtain ⟨k0, o0, h1, h2, h3⟩ := hloc k o hk ha
      obtain ⟨k1, o1, h4, h5, h6⟩ := hloc k' o' hk' ha'
      have e : phi m φ k = φ k0 := by simp only [phi, h1]
      have e' : phi m φ k' = φ k1 := by simp only [phi, h4]
      rw [e, e']
      refine hR.heap.inj k0 k1 o0 o1 h2 h5 (fun hk => hne ?_) h3 h6
      subst hk
      exact inj2_spec hm h1 h4
  have hen : ∀ (E : Env), EntE m σ.heap σ'.heap σ.env E → ∀ t, RA P (phi m φ) G M w σ'.heap (eget E t) (a.tmps.getD t undef) := by
    intro E
    induction E with
    | nil => intro _ t; simp only [eget, RA]
    | cons p E ih =>
      intro hEE t
      obtain ⟨j, v⟩ := p
      simp only [eget]
      split
      · rename_i e; subst e; exact VM_sound hR.heap hE _ _ _ hEE.1 (hR.env j)
      · exact ih hEE.2 t
  exact { env := hen _ he, heap := hH, sz := hR.sz, def_ := hR.def_, old := hR.old, size := hR.size, os := hR.os, tape := hR.tape, output := hR.output, g0 := hR.g0, mt := hR.mt }

/-- Rows are frozen. -/
theorem Ent_frz (σ : St) (ks : List Nat) : Ent σ ⟨σ.env, frzH σ.heap ks⟩ := by
  intro P X a w φ G M hR
  obtain ⟨G', M', _, h⟩ := Rel.frz ks hR
  exact ⟨φ, G', M', h⟩
theorem Ent.refl (σ : St) : Ent σ σ := fun _ _ _ _ φ G M h => ⟨φ, G, M, h⟩
theorem Ent.trans {a b c : St} (h : Ent a b) (h' : Ent b c) : Ent a c := fun P X act w φ G M hR => by
  obtain ⟨φ1, G1, M1, h1⟩ := h P X act w φ G M hR
  exact h' P X act w φ1 G1 M1 h1
end Go.AM
