import Derived.Test.YtbcbgfkojmligaaAOps8
/- Part of an abstract machine for Go code and of its soundness, for any program of the model; no condition. -/
set_option linter.unusedVariables false
set_option linter.unusedSimpArgs false
set_option linter.unusedSimpArgs false
namespace Go.AM
open Go.RowKit
section
variable {P : Program} {TT : TyTab} {N : Nat} {rowAt : List Nat} {X : Ctx} {σ : St} {a : Act} {w : World} {φ : Nat → Loc} {G M : Nat → Prop} {o : Oper} {next : Act → World → Prop} {Q : Exit → Act → World → Prop}

/-- Behind a call: blocks of one's own have come. -/
theorem Rel.callO {w' : World} (h : Rel P X σ a w φ G M) (hb : Below w.heap.size w w') (G' O : Nat → Prop) (hG : ∀ b, G' b → b < w'.heap.size ∧ (b < w.heap.size → G b)) (hO : ∀ b, O b → w.heap.size ≤ b ∧ b < w'.heap.size ∧ ¬ G' b) :
    Rel P X σ a w' φ (fun b => G b ∨ G' b) (fun b => M b ∨ O b) ∧ ∀ v u, RA P φ G M w σ.heap v u → RA P φ (fun b => G b ∨ G' b) (fun b => M b ∨ O b) w' σ.heap v u := by
  have E : Ext φ φ G (fun b => G b ∨ G' b) M (fun b => M b ∨ O b) w w' σ.heap σ.heap :=
    { g := fun b hb => .inl hb
      ag := fun b hg => hb.block b (h.heap.bnd b hg)
      keep := fun b hlt _ => hb.block b hlt
      keys := fun k o' hk => ⟨rfl, o', hk, by cases o' <;> simp [shape]⟩
      mt := fun b hlt hm => hm.elim id (fun ho => by have := (hO b ho).1; omega)
      size := hb.size }
  refine ⟨h.step E ⟨fun k o' hk => ?_, h.heap.inj, fun b hg => ?_, fun b hm => ?_, fun b hg hm => ?_⟩ hb.os hb.tape hb.output (fun b hg hlt => hg.elim .inl (fun hg => .inl ((hG b hg).2 hlt))), fun v u hv => RA.mono E v u hv⟩
  · exact (h.heap.obj k o' hk).mono E rfl (fun ha => hb.block _ (RObj.lt h.heap hk ha)) .inl
  · exact hg.elim (fun hg => Nat.lt_of_lt_of_le (h.heap.bnd b hg) hb.size) (fun hg => (hG b hg).1)
  · exact hm.elim (fun hm => Nat.lt_of_lt_of_le (h.heap.mnd b hm) hb.size) (fun ho => (hO b ho).2.1)
  · rcases hm with hm | hm
    · exact hg.elim (fun hg => h.heap.sep b hg hm) (fun hg => h.heap.sep b ((hG b hg).2 (h.heap.mnd b hm)) hm)
    · exact hg.elim (fun hg => by have := h.heap.bnd b hg; have := (hO b hm).1; omega) (fun hg => (hO b hm).2.2 hg)

/-- A row that a call handed over gets its name. -/
theorem Rel.adopt (h : Rel P X σ a w φ G M) {d : Nat} {t : Ty} {xs : List (den t)} {L : Loc} (hd : hget σ.heap d = none) (hr : RowAt P t G w xs L)
    (hM : 0 < L.cap → M L.blk ∧ ∀ k o, hget σ.heap k = some o → alloc φ k o → (φ k).blk ≠ L.blk) {v : Value} (hv : SlV L (AM.size t) 0 xs.length v) :
    ∃ φ', Rel P X ⟨σ.env, hput σ.heap d (.row t xs false)⟩ a w φ' G M ∧ RA P φ' G M w (hput σ.heap d (.row t xs false)) (.own d 0 xs.length) v ∧
      (∀ v u, RA P φ G M w σ.heap v u → RA P φ' G M w (hput σ.heap d (.row t xs false)) v u) ∧ ∀ k o, hget (hput σ.heap d (.row t xs false)) k = some o → alloc φ' k o → (k = d ∧ 0 < L.cap ∧ (φ' k).blk = L.blk) ∨ (k ≠ d ∧ hget σ.heap k = some o ∧ alloc φ k o ∧ (φ' k).blk = (φ k).blk) := by
  have keys : ∀ L', ∀ k o', hget σ.heap k = some o' → setφ φ d L' k = φ k ∧ ∃ o'', hget (hput σ.heap d (.row t xs false)) k = some o'' ∧ shape o' o'' := by
    intro L' k o' hk
    have hne : k ≠ d := fun e => by rw [e, hd] at hk; cases hk
    exact ⟨setφ_ne φ L' hne, o', by rw [hget_hput_ne _ _ _ _ hne]; exact hk, by cases o' <;> simp [shape]⟩
  have E : ∀ L', Ext φ (setφ φ d L') G G M M w w σ.heap (hput σ.heap d (.row t xs false)) := fun L' =>
    { g := fun b hb => hb, ag := fun _ _ => rfl, keep := fun _ _ _ => rfl, keys := keys L', mt := fun _ _ hm => hm, size := Nat.le_refl _ }
  have look : ∀ L' : Loc, ∀ k o, hget (hput σ.heap d (.row t xs false)) k = some o → alloc (setφ φ d L') k o → (k = d ∧ 0 < L'.cap ∧ (setφ φ d L' k).blk = L'.blk) ∨ (k ≠ d ∧ hget σ.heap k = some o ∧ alloc φ k o ∧ (setφ φ d L' k).blk = (φ k).blk) := by
    intro L' k o hk ha
    by_cases e : k = d
    · subst e
      rw [hget_hput_self] at hk; cases hk
      exact .inl ⟨rfl, by simpa [alloc, setφ_self] using ha, by rw [setφ_self]⟩
    · rw [hget_hput_ne _ _ _ _ e] at hk
      refine .inr ⟨e, hk, ?_, by rw [setφ_ne φ _ e]⟩
      cases o <;> simp_all [alloc, setφ]
  by_cases hc : 0 < L.cap
  · obtain ⟨hm, hno⟩ := hM hc
    refine ⟨setφ φ d L, h.newAt L.blk hm hno (OneB.refl w _) d _ L hd rfl (fun H' E' => ?_), ?_, fun v u hv => RA.mono (E L) v u hv, fun k o hk ha => look L k o hk ha⟩
    · simp only [RObj, setφ_self]
      exact ⟨hr, fun _ => ⟨fun hf => (by cases hf), fun _ => hm⟩⟩
    · simp only [RA, hget_hput_self, setφ_self]
      exact ⟨by simp, hv⟩
  · obtain ⟨hpl, hz, hrow⟩ := hr
    have hx : xs = [] := by
      rcases hrow with ⟨_, hx⟩ | ⟨c, e, hc', _⟩
      · exact hx
      · exact absurd hc' hc
    subst hx
    refine ⟨setφ φ d ⟨0, 0, 0⟩, h.newNo d t false hpl hz hd, ?_, fun v u hv => RA.mono (E _) v u hv, fun k o hk ha => ?_⟩
    · simp only [RA, hget_hput_self, setφ_self]
      obtain ⟨A, rfl, hle, hA⟩ := hv
      exact ⟨by simp, A, by simp; omega, by simp, .inl (by simp)⟩
    · rcases look _ k o hk ha with ⟨rfl, h0, _⟩ | h2
      · simp at h0
      · exact .inr h2

theorem go_key {r : Ty} : ∀ {k : Nat} {y : den r}, ∀ p ∈ (ofRes.go k r y).2, k ≤ p.1 := by
  induction r with
  | pair t b _ ih =>
    intro k y p hp
    cases t <;> simp only [ofRes.go] at hp <;> first
      | (rcases List.mem_cons.1 hp with rfl | hp
         · exact Nat.le_refl _
         · have := ih p hp; omega)
      | (have := ih p hp; omega)
  | _ => intro k y p hp; simp [ofRes.go] at hp

theorem hasAny_cons {H : Heap} {p : Nat × Obj} {ps : List (Nat × Obj)} (h : hasAny H (p :: ps) = false) : hget H p.1 = none ∧ hasAny H ps = false := by
  obtain ⟨k, o⟩ := p
  simp only [hasAny, Bool.or_eq_false_iff] at h
  exact ⟨by simpa using h.1, h.2⟩
theorem hasAny_hput {H : Heap} {k : Nat} {o : Obj} : ∀ {ps : List (Nat × Obj)}, hasAny H ps = false → (∀ p ∈ ps, p.1 ≠ k) → hasAny (hput H k o) ps = false := by
  intro ps
  induction ps with
  | nil => intro _ _; rfl
  | cons p ps ih =>
    intro h hk
    obtain ⟨h1, h2⟩ := hasAny_cons h
    obtain ⟨j, oj⟩ := p
    simp only [hasAny, Bool.or_eq_false_iff]
    exact ⟨by rw [hget_hput_ne _ _ _ _ (hk (j, oj) (by simp))]; simpa using h1, ih h2 (fun p hp => hk p (by simp [hp]))⟩

theorem RVL.plainV {t : Ty} {G : Nat → Prop} {w : World} {x : den t} {v : Value} {Ls : List Loc} (hp : ∀ s, t ≠ .olist s) (h : RVL P t G w x v Ls) : Ls = [] ∧ RV P t G w x v := by
  cases t with
  | olist s => exact absurd rfl (hp s)
  | _ => simpa only [RVL] using h

/-- What is asked of the places that come. -/
def Free (σ : St) (φ : Nat → Loc) (M : Nat → Prop) (L : Loc) : Prop := 0 < L.cap → M L.blk ∧ ∀ k o, hget σ.heap k = some o → alloc φ k o → (φ k).blk ≠ L.blk

theorem go_sound {r : Ty} : ∀ {σ : St} {φ : Nat → Loc} {k : Nat} {y : den r} {vs : List Value} {Ls : List Loc}, Rel P X σ a w φ G M → okRes r = true → hasAny σ.heap (ofRes.go k r y).2 = false → ROs P r G w y vs Ls →
    (∀ L ∈ Ls, Free σ φ M L) → (Ls.Pairwise fun a b => 0 < a.cap → 0 < b.cap → a.blk ≠ b.blk) →
    ∃ φ', Rel P X ⟨σ.env, putAll σ.heap (ofRes.go k r y).2⟩ a w φ' G M ∧ RAL P φ' G M w (putAll σ.heap (ofRes.go k r y).2) (ofRes.go k r y).1 vs ∧
      ∀ v u, RA P φ G M w σ.heap v u → RA P φ' G M w (putAll σ.heap (ofRes.go k r y).2) v u := by
  induction r with
  | pair t b _ ih =>
    intro σ φ k y vs Ls h hok hany hros hfree hpw
    simp only [ROs] at hros
    obtain ⟨v, vs', L1, L2, rfl, rfl, hv, hros⟩ := hros
    by_cases ho : ∃ s, t = .olist s
    · obtain ⟨s, rfl⟩ := ho
      simp only [RVL] at hv
      obtain ⟨L, rfl, hsl, hrow⟩ := hv
      simp only [okRes, Bool.and_eq_true] at hok
      simp only [ofRes.go] at hany ⊢
      obtain ⟨hk, hany⟩ := hasAny_cons hany
      obtain ⟨φ1, hR1, hra1, hmono1, hlook⟩ := h.adopt (d := k) hk hrow (hfree L (by simp)) hsl
      have hany1 : hasAny (hput σ.heap k (.row s y.1 false)) (ofRes.go (k + 1) b y.2).2 = false := hasAny_hput hany (fun p hp => by have := go_key p hp; omega)
      obtain ⟨φ2, hR2, hral2, hmono2⟩ := ih (σ := ⟨σ.env, hput σ.heap k (.row s y.1 false)⟩) hR1 hok.2 hany1 hros (fun L' hL' hc => by
        obtain ⟨hm, hno⟩ := hfree L' (by simp [hL']) hc
        refine ⟨hm, fun j oj hj ha => ?_⟩
        rcases hlook j oj hj ha with ⟨rfl, hc1, hb⟩ | ⟨_, hj1, ha1, hb⟩
        · rw [hb]
          exact (List.pairwise_append.1 hpw).2.2 L (by simp) L' hL' hc1 hc
        · rw [hb]; exact hno j oj hj1 ha1) (List.pairwise_append.1 hpw).2.1
      simp only [putAll]
      refine ⟨φ2, hR2, ?_, fun v u hvu => hmono2 v u (hmono1 v u hvu)⟩
      simp only [RAL]
      exact ⟨v, vs', rfl, hmono2 _ _ hra1, hral2⟩
    · have hno : ∀ s, t ≠ .olist s := fun s e => ho ⟨s, e⟩
      obtain ⟨hL0, hv'⟩ := RVL.plainV hno hv
      subst hL0
      have hgo : ofRes.go k (.pair t b) y = (ofV t y.1 :: (ofRes.go (k + 1) b y.2).1, (ofRes.go (k + 1) b y.2).2) := by
        cases t with
        | olist s => exact absurd rfl (hno s)
        | _ => rfl
      have hok' : plain t = true ∧ okRes b = true := by simpa only [okRes, Bool.and_eq_true] using hok
      rw [hgo] at hany ⊢
      simp only [List.nil_append] at hfree hpw
      obtain ⟨φ2, hR2, hral2, hmono2⟩ := ih h hok'.2 hany hros hfree hpw
      refine ⟨φ2, hR2, ?_, hmono2⟩
      simp only [RAL]
      exact ⟨v, vs', rfl, hmono2 _ _ (RV.ra hok'.1 hv'), hral2⟩
  | unit =>
    intro σ φ k y vs Ls h _ _ hros _ _
    simp only [ROs] at hros
    obtain ⟨rfl, rfl⟩ := hros
    simp only [ofRes.go, putAll, RAL]
    exact ⟨φ, h, trivial, fun v u h => h⟩
  | _ => intro σ φ k y vs Ls h hok; simp [okRes] at hok

/-- A call's results: the values, and the rows that come with them. -/
theorem ofRes_sound {r : Ty} {d : Nat} {y : den r} {v : Value} {Ls : List Loc} (h : Rel P X σ a w φ G M) (hok : okRes r = true) (hany : hasAny σ.heap (ofRes d r y).2 = false) (hres : ResV P r G w y v Ls)
    (hfree : ∀ L ∈ Ls, Free σ φ M L) (hpw : Ls.Pairwise fun a b => 0 < a.cap → 0 < b.cap → a.blk ≠ b.blk) :
    ∃ φ', Rel P X ⟨σ.env, putAll σ.heap (ofRes d r y).2⟩ a w φ' G M ∧ RA P φ' G M w (putAll σ.heap (ofRes d r y).2) (ofRes d r y).1 v := by
  cases r with
  | pair t b =>
    cases b with
    | unit =>
      simp only [ResV] at hres
      by_cases ho : ∃ s, t = .olist s
      · obtain ⟨s, rfl⟩ := ho
        simp only [RVL] at hres
        obtain ⟨L, rfl, hsl, hrow⟩ := hres
        simp only [ofRes] at hany ⊢
        obtain ⟨hk, _⟩ := hasAny_cons hany
        obtain ⟨φ1, hR1, hra1, _, _⟩ := h.adopt (d := d) hk hrow (hfree L (by simp)) hsl
        exact ⟨φ1, hR1, hra1⟩
      · have hno : ∀ s, t ≠ .olist s := fun s e => ho ⟨s, e⟩
        obtain ⟨hL0, hv'⟩ := RVL.plainV hno hres
        subst hL0
        have hgo : ofRes d (.pair t .unit) y = (ofV t y.1, []) := by
          cases t with
          | olist s => exact absurd rfl (hno s)
          | _ => rfl
        have hok' : plain t = true := by simp only [okRes, Bool.and_eq_true] at hok; exact hok.1
        rw [hgo]
        exact ⟨φ, h, RV.ra hok' hv'⟩
    | pair s c =>
      have hgo : ofRes d (.pair t (.pair s c)) y = (.tup (ofRes.go (10000 + 100 * d) (.pair t (.pair s c)) y).1, (ofRes.go (10000 + 100 * d) (.pair t (.pair s c)) y).2) := by
        cases t <;> rfl
      simp only [ResV] at hres
      obtain ⟨vs, rfl, hros⟩ := hres
      rw [hgo] at hany ⊢
      obtain ⟨φ', hR, hral, _⟩ := go_sound h hok hany hros hfree hpw
      exact ⟨φ', hR, by simp only [RA]; exact ⟨vs, rfl, hral⟩⟩
    | _ => cases t <;> simp [okRes] at hok
  | unit =>
    simp only [ResV] at hres
    obtain ⟨vs, rfl, hros⟩ := hres
    obtain ⟨φ', hR, hral, _⟩ := go_sound (k := 10000 + 100 * d) h hok hany hros hfree hpw
    exact ⟨φ', hR, by simp only [ofRes, RA]; exact ⟨vs, rfl, hral⟩⟩
  | _ => simp [okRes] at hok

theorem flat_put {r : Ty} (hf : flat r = true) {d : Nat} {y : den r} : (ofRes d r y).2 = [] := by
  have go : ∀ {r : Ty} {k : Nat} {y : den r}, flat r = true → (ofRes.go k r y).2 = [] := by
    intro r
    induction r with
    | pair t b _ ih =>
      intro k y hf
      simp only [AM.flat, Bool.and_eq_true] at hf
      cases t <;> simp_all [ofRes.go, AM.flat]
    | _ => intro k y hf; rfl
  cases r with
  | pair t b =>
    have hf' := hf
    simp only [AM.flat, Bool.and_eq_true] at hf
    cases b with
    | unit => cases t <;> first | rfl | simp [AM.flat] at hf
    | _ => cases t <;> exact go hf'
  | _ => exact go hf
end
end Go.AM
