import Derived.Test.YtbcbgfkojmligaaAStep2
/- Part of an abstract machine for Go code and of its soundness, for any program of the model; no condition. -/
set_option linter.unusedVariables false
set_option linter.unusedSimpArgs false
namespace Go.AM
open Go.RowKit
section
variable {P : Program} {φ : Nat → Loc} {G M : Nat → Prop} {w : World} {H : Heap}

theorem RAL.append {as bs : List AV} : ∀ {us vs : List Value}, RAL P φ G M w H as us → RAL P φ G M w H bs vs → RAL P φ G M w H (as ++ bs) (us ++ vs) := by
  induction as with
  | nil => intro us vs h1 h2; simp only [RAL] at h1; subst h1; exact h2
  | cons a as ih =>
    intro us vs h1 h2
    simp only [RAL] at h1
    obtain ⟨u, us', rfl, h, h'⟩ := h1
    exact ⟨u, us' ++ vs, rfl, h, ih h' h2⟩

theorem RAL.len {as : List AV} : ∀ {us : List Value}, RAL P φ G M w H as us → us.length = as.length := by
  induction as with
  | nil => intro us h; simp only [RAL] at h; subst h; rfl
  | cons a as ih =>
    intro us h
    simp only [RAL] at h
    obtain ⟨u, us', rfl, h, h'⟩ := h
    simp [ih h']

theorem RAL.get {as : List AV} : ∀ {us : List Value} {i : Nat} {v : AV}, RAL P φ G M w H as us → as[i]? = some v → ∃ u, us[i]? = some u ∧ RA P φ G M w H v u := by
  induction as with
  | nil => intro us i v h hv; simp at hv
  | cons a as ih =>
    intro us i v h hv
    simp only [RAL] at h
    obtain ⟨u, us', rfl, h, h'⟩ := h
    cases i with
    | zero => simp at hv; subst hv; exact ⟨u, rfl, h⟩
    | succ i => simpa using ih h' (by simpa using hv)

/-- Typed data as cells. -/
theorem RT.cells {t : Ty} : ∀ {x : den t} {us : List Value} {l : List AV} {vs : List Value}, plain t = true → RT P t G w x us → RAL P φ G M w H l vs → RAL P φ G M w H (cellsA t x l) (us ++ vs) := by
  induction t with
  | int k => intro x us l vs _ h hl; simp only [RT] at h; subst h; exact ⟨_, _, rfl, by simp only [RA], hl⟩
  | bool => intro x us l vs _ h hl; simp only [RT] at h; subst h; exact ⟨_, _, rfl, by simp only [RA], hl⟩
  | str => intro x us l vs _ h hl; simp only [RT] at h; subst h; exact ⟨_, _, rfl, by simp only [RA], hl⟩
  | list t _ =>
    intro x us l vs hp h hl
    have hp' : plain t = true ∧ 0 < size t := by simpa [plain] using hp
    have h' := h
    simp only [RT] at h
    obtain ⟨A, c, rfl, _⟩ := h
    exact ⟨_, _, rfl, by simp only [RA]; exact ⟨hp'.1, hp'.2, h', fun hf => by cases hf⟩, hl⟩
  | olist t _ =>
    intro x us l vs hp h hl
    have hp' : plain t = true ∧ 0 < size t := by simpa [plain] using hp
    have h' : RT P (.list t) G w x us := by simpa only [RT] using h
    simp only [RT] at h
    obtain ⟨A, c, rfl, _⟩ := h
    exact ⟨_, _, rfl, by simp only [RA]; exact ⟨hp'.1, hp'.2, h', fun hf => by cases hf⟩, hl⟩
  | unit => intro x us l vs _ h hl; simp only [RT] at h; subst h; exact hl
  | pair a b iha ihb =>
    intro x us l vs hp h hl
    simp only [plain, Bool.and_eq_true] at hp
    simp only [RT] at h
    obtain ⟨v1, v2, rfl, h1, h2⟩ := h
    rw [List.append_assoc]
    exact iha hp.1 h1 (ihb hp.2 h2 hl)
  | fn a r _ _ => intro x us l vs hp; simp [plain] at hp
  | ref t _ =>
    intro x us l vs hp h hl
    simp only [RT] at h
    obtain ⟨ad, rfl, hs, hg, cs, hc, hr, hcell⟩ := h
    obtain ⟨b, o, s⟩ := ad
    simp only at hs hg
    subst hs
    exact ⟨_, _, rfl, by simp only [RA]; exact ⟨by simpa [plain] using hp, b, o, rfl, hg, cs, hc, hr, hcell⟩, hl⟩

theorem RT.cells' {t : Ty} {x : den t} {us : List Value} (hp : plain t = true) (h : RT P t G w x us) : RAL P φ G M w H (AM.cells t x) us := by
  have := RT.cells (φ := φ) (G := G) (M := M) (w := w) (H := H) (l := []) (vs := []) hp h rfl
  simpa [AM.cells] using this

/-- One value of a type of data. -/
theorem RV.ra {t : Ty} {x : den t} {u : Value} (hp : plain t = true) (h : RV P t G w x u) : RA P φ G M w H (ofV t x) u := by
  have one : ∀ v : AV, AM.cells t x = [v] → RT P t G w x [u] → RA P φ G M w H v u := by
    intro v hv hr
    have := RT.cells' (φ := φ) (M := M) (H := H) hp hr
    rw [hv] at this
    simp only [RAL] at this
    obtain ⟨u', us', he, h1, _⟩ := this
    cases he
    exact h1
  unfold RV at h
  cases t with
  | unit =>
    simp only [isSt, if_true] at h
    obtain ⟨cs, rfl, h⟩ := h
    simp only [ofV, RA]
    exact ⟨cs, rfl, by simpa only [RT, RAL] using h⟩
  | pair a b =>
    simp only [isSt, if_true] at h
    obtain ⟨cs, rfl, h⟩ := h
    simp only [ofV, RA]
    exact ⟨cs, rfl, RT.cells' hp h⟩
  | _ => exact one _ rfl (by simpa [isSt] using h)

/-! ### data out of values -/
theorem castL?_eq {t' t : Ty} {xs : List (den t')} {ys : List (den t)} (h : castL? t' t xs = some ys) : ∃ e : t' = t, e ▸ xs = ys := by
  unfold castL? at h
  split at h
  · rename_i e; cases h; exact ⟨e, rfl⟩
  · cases h
theorem cast?_eq {t' t : Ty} {xs : den t'} {ys : den t} (h : cast? t' t xs = some ys) : ∃ e : t' = t, e ▸ xs = ys := by
  unfold cast? at h
  split at h
  · rename_i e; cases h; exact ⟨e, rfl⟩
  · cases h

/-- Are the rows that are named there written no more? -/
def Frozen (H : Heap) (ks : List Nat) : Prop := ∀ k ∈ ks, ∀ t xs f, hget H k = some (.row t xs f) → f = true

theorem keysC_cons (v : AV) (cs : List AV) : keysC (v :: cs) = keys1 v ++ keysC cs := by simp [keysC]

theorem slOf_sound {t : Ty} {v : AV} {u : Value} {xs : List (den t)} (hH : RelH P φ G M w H) {G1 : Nat → Prop} (hG : ∀ b, G b → G1 b) (hf : (∀ b, M b → G1 b) ∨ Frozen H (keys1 v)) (hv : RA P φ G M w H v u) (h : slOf H t v = some xs) :
    plain t = true ∧ 0 < size t ∧ RT P (.list t) G1 w xs [u] := by
  have ag : Ag G w w := fun _ _ => rfl
  cases v with
  | sl t' ys full =>
    simp only [slOf] at h
    obtain ⟨rfl, rfl⟩ := castL?_eq h
    simp only [RA] at hv
    exact ⟨hv.1, hv.2.1, RT.mono (t := .list t') (by simp [plain, hv.1, hv.2.1]) hv.2.2.1 hG ag⟩
  | own k lo len =>
    simp only [slOf] at h
    split at h
    · rename_i t' ys f hk
      obtain ⟨rfl, rfl⟩ := castL?_eq h
      simp only [RA, hk] at hv
      obtain ⟨hlen, A, rfl, hcap, hA⟩ := hv
      have ho := hH.obj k _ hk
      simp only [RObj] at ho
      obtain ⟨⟨hp, hz, hrow⟩, hg⟩ := ho
      refine ⟨hp, hz, ?_⟩
      simp only [RT]
      have hl : ((ys.drop lo).take len).length = len := by simp; omega
      refine ⟨A, (φ k).cap - lo, by simp only [hl], by rw [hl]; omega, ?_⟩
      rcases Nat.eq_zero_or_pos len with h0 | h0
      · left; subst h0; simp
      · right
        rcases hrow with ⟨hc0, rfl⟩ | ⟨c, e, hc, _, hblk, hfit, hle, hcells⟩
        · simp at hlen; omega
        · have hA' : A = some ⟨(φ k).blk, (φ k).base + lo * size t', none⟩ := hA.resolve_left (by omega)
          have hin : G1 (φ k).blk := by
            cases f with
            | true => exact hG _ ((hg hc).1 rfl)
            | false =>
              rcases hf with hf | hf
              · exact hf _ ((hg hc).2 rfl)
              · have := hf k (by simp [keys1]) _ _ _ hk
                cases this
          refine ⟨_, hA', rfl, hin, fun i hi => ?_⟩
          rw [hl] at hi
          refine ⟨_, ?_, by
            have := (hcells (lo + i) (by omega)).mono hp hG ag
            simpa [List.getElem_take, List.getElem_drop] using this, ?_⟩
          · have := (hcells (lo + i) (by omega)).len
            exact this
          · intro j u hu
            have hj : j < size t' := by
              have := List.getElem?_eq_some_iff.1 hu
              obtain ⟨hj, _⟩ := this
              simp at hj
              omega
            rw [List.getElem?_take_of_lt hj, List.getElem?_drop] at hu
            simp only [World.cell?, hblk]
            simp only [Option.isSome_none, Bool.false_eq_true, if_false]
            rw [← Array.getElem?_toList, ← hu]
            congr 1
            rw [Nat.add_mul]
            omega
    · cases h
  | _ => simp [slOf] at h

/-- Data out of cells. G1: what may be read for it. -/
theorem toCells_sound (hH : RelH P φ G M w H) {G1 : Nat → Prop} (hG : ∀ b, G b → G1 b) {t : Ty} :
    ∀ {cs : List AV} {us : List Value} {x : den t} {rest : List AV}, (∀ b, M b → G1 b) ∨ (noRef t = true ∧ Frozen H (keysC cs)) → RAL P φ G M w H cs us → toCells H t cs = some (x, rest) →
      ∃ us1 us2, us = us1 ++ us2 ∧ RT P t G1 w x us1 ∧ RAL P φ G M w H rest us2 ∧ ∃ cs1, cs = cs1 ++ rest := by
  have ag : Ag G w w := fun _ _ => rfl
  induction t with
  | int k =>
    intro cs us x rest _ hr h
    cases cs with
    | nil => simp [toCells] at h
    | cons c cs =>
      cases c with
      | int k' n =>
        simp only [toCells] at h
        split at h
        · rename_i e; subst e; cases h
          simp only [RAL, RA] at hr
          obtain ⟨u, us', rfl, rfl, hr⟩ := hr
          exact ⟨[_], us', rfl, by simp only [RT], hr, [_], rfl⟩
        · cases h
      | _ => simp [toCells] at h
  | bool =>
    intro cs us x rest _ hr h
    cases cs with
    | nil => simp [toCells] at h
    | cons c cs =>
      cases c with
      | bool n =>
        simp only [toCells] at h
        cases h
        simp only [RAL, RA] at hr
        obtain ⟨u, us', rfl, rfl, hr⟩ := hr
        exact ⟨[_], us', rfl, by simp only [RT], hr, [_], rfl⟩
      | _ => simp [toCells] at h
  | str =>
    intro cs us x rest _ hr h
    cases cs with
    | nil => simp [toCells] at h
    | cons c cs =>
      cases c with
      | str n =>
        simp only [toCells] at h
        cases h
        simp only [RAL, RA] at hr
        obtain ⟨u, us', rfl, rfl, hr⟩ := hr
        exact ⟨[_], us', rfl, by simp only [RT], hr, [_], rfl⟩
      | _ => simp [toCells] at h
  | list t _ =>
    intro cs us x rest hm hr h
    cases cs with
    | nil => simp [toCells] at h
    | cons c cs =>
      simp only [toCells] at h
      split at h
      · rename_i xs hx
        simp only [RAL] at hr
        obtain ⟨u, us', rfl, hu, hr⟩ := hr
        obtain ⟨hp, hz, hrt⟩ := slOf_sound hH hG (hm.imp id fun hm k hk => hm.2 k (by rw [keysC_cons]; exact List.mem_append_left _ hk)) hu hx
        cases h
        exact ⟨[u], us', rfl, hrt, hr, [_], rfl⟩
      · cases h
  | olist t _ =>
    intro cs us x rest _ hr h
    cases cs with
    | nil => simp [toCells] at h
    | cons c cs => cases c <;> simp [toCells] at h
  | unit =>
    intro cs us x rest _ hr h
    simp only [toCells] at h
    cases h
    exact ⟨[], us, rfl, by simp only [RT], hr, [], rfl⟩
  | pair a b iha ihb =>
    intro cs us x rest hm hr h
    simp only [toCells] at h
    split at h
    · rename_i xa cs1 ha
      split at h
      · rename_i xb cs2 hb
        cases h
        obtain ⟨us1, us2, rfl, h1, h2, cc, rfl⟩ := iha (hm.imp id fun hm => ⟨by have := hm.1; simp only [noRef, Bool.and_eq_true] at this; exact this.1, hm.2⟩) hr ha
        obtain ⟨us3, us4, rfl, h3, h4, cc2, rfl⟩ := ihb (hm.imp id fun hm => ⟨by have := hm.1; simp only [noRef, Bool.and_eq_true] at this; exact this.2, fun k hk => hm.2 k (by unfold keysC at *; rw [List.flatMap_append]; exact List.mem_append_right _ hk)⟩) h2 hb
        refine ⟨us1 ++ us3, us4, by simp, ?_, h4, cc ++ cc2, by simp⟩
        simp only [RT]
        exact ⟨us1, us3, rfl, h1, h3⟩
      · cases h
    · cases h
  | fn a r _ _ =>
    intro cs us x rest _ hr h
    cases cs with
    | nil => simp [toCells] at h
    | cons c cs =>
      cases c with
      | fv a' r' p =>
        simp only [toCells] at h
        split at h
        · rename_i e
          obtain ⟨rfl, rfl⟩ := e
          cases h
          simp only [RAL, RA] at hr
          obtain ⟨u, us', rfl, ⟨f, caps, wd, rfl, h1, h2, hf, h3, h4⟩, hr⟩ := hr
          refine ⟨[_], us', rfl, ?_, hr, [_], rfl⟩
          simp only [RT]
          exact ⟨f, caps, wd, rfl, h1, h2, hf, h4⟩
        · cases h
      | _ => simp [toCells] at h
  | ref t ih =>
    intro cs us x rest hm hr h
    cases cs with
    | nil => simp [toCells] at h
    | cons c cs =>
      cases c with
      | el t' y off =>
        cases off with
        | zero =>
          simp only [toCells] at h
          split at h
          · rename_i z hz
            cases h
            obtain ⟨rfl, rfl⟩ := cast?_eq hz
            simp only [RAL, RA] at hr
            obtain ⟨u, us', rfl, ⟨hp, b, o, rfl, hg, cc, hl, hrt, hcell⟩, hr⟩ := hr
            refine ⟨[_], us', rfl, ?_, hr, [_], rfl⟩
            simp only [RT]
            exact ⟨⟨b, o + 0, none⟩, rfl, rfl, hG _ hg, cc, hl, hrt.mono hp hG ag, hcell⟩
          · cases h
        | succ n => simp [toCells] at h
      | ptr k off =>
        cases off with
        | zero =>
          have hM := hm.resolve_right (fun h => by simp [noRef] at h)
          simp only [toCells] at h
          split at h
          · split at h
            · rename_i bs hk
              split at h
              · rename_i z hz
                cases h
                simp only [RAL, RA, hk] at hr
                obtain ⟨u, us', rfl, ⟨rfl, _⟩, hr⟩ := hr
                have ho := hH.obj k _ hk
                simp only [RObj] at ho
                obtain ⟨c, e, hblk, hmb, hcs⟩ := ho
                obtain ⟨us1, us2, e2, h1, h2, _⟩ := ih (.inl hM) hcs hz
                simp only [RAL] at h2
                subst h2
                rw [List.append_nil] at e2
                refine ⟨[_], us', rfl, ?_, hr, [_], rfl⟩
                simp only [RT]
                refine ⟨⟨(φ k).blk, 0, none⟩, rfl, rfl, hM _ hmb, c.toList, by rw [e2]; exact h1.len, by rw [e2]; exact h1, fun j u hu => ?_⟩
                simp only [World.cell?, hblk]
                simpa using hu
              · cases h
            · cases h
          · cases h
        | succ n => simp [toCells] at h
      | _ => simp [toCells] at h

theorem toV_sound (hH : RelH P φ G M w H) {G1 : Nat → Prop} (hG : ∀ b, G b → G1 b) {t : Ty} {v : AV} {u : Value} {x : den t}
    (hm : (∀ b, M b → G1 b) ∨ (noRef t = true ∧ Frozen H (keysC (cellsOf v)))) (hv : RA P φ G M w H v u) (h : toV H t v = some x) : RV P t G1 w x u := by
  have one : ∀ (v : AV), cellsOf v = [v] → RA P φ G M w H v u → (∀ b, M b → G1 b) ∨ (noRef t = true ∧ Frozen H (keysC (cellsOf v))) → toCells H t [v] = some (x, []) → RT P t G1 w x [u] := by
    intro v hc hv hm h
    rw [hc] at hm
    obtain ⟨us1, us2, e, h1, h2, _⟩ := toCells_sound hH hG hm (us := [u]) (by simp only [RAL]; exact ⟨u, [], rfl, hv, rfl⟩) h
    simp only [RAL] at h2
    subst h2
    rw [List.append_nil] at e
    rw [e]; exact h1
  have two : ∀ (v : AV), (match toCells H t [v] with | some (x, []) => some x | _ => none) = some x → toCells H t [v] = some (x, []) := by
    intro v h
    split at h
    · rename_i y e; cases h; exact e
    · cases h
  unfold RV
  cases t with
  | unit =>
    simp only [isSt, if_true]
    cases v with
    | agg cs =>
      cases cs with
      | nil =>
        simp only [RA, RAL] at hv
        obtain ⟨us, rfl, hu⟩ := hv
        exact ⟨us, rfl, by simp only [RT]; exact hu⟩
      | cons c cs => simp [toV] at h
    | _ => simp [toV] at h
  | pair a b =>
    simp only [isSt, if_true]
    cases v with
    | agg cs =>
      simp only [toV] at h
      split at h
      · rename_i y e
        cases h
        simp only [RA] at hv
        obtain ⟨us, rfl, hu⟩ := hv
        obtain ⟨us1, us2, e2, h1, h2, _⟩ := toCells_sound hH hG hm hu e
        simp only [RAL] at h2
        subst h2
        rw [List.append_nil] at e2
        exact ⟨us, rfl, by rw [e2]; exact h1⟩
      · cases h
    | _ => simp [toV] at h
  | int k =>
    simp only [isSt, Bool.false_eq_true, if_false]
    cases v <;> first | exact one _ rfl hv hm (two _ h) | simp [toV, toCells] at h
  | bool =>
    simp only [isSt, Bool.false_eq_true, if_false]
    cases v <;> first | exact one _ rfl hv hm (two _ h) | simp [toV, toCells] at h
  | str =>
    simp only [isSt, Bool.false_eq_true, if_false]
    cases v <;> first | exact one _ rfl hv hm (two _ h) | simp [toV, toCells] at h
  | list t =>
    simp only [isSt, Bool.false_eq_true, if_false]
    cases v <;> first | exact one _ rfl hv hm (two _ h) | simp [toV, toCells, slOf] at h
  | olist t =>
    simp only [isSt, Bool.false_eq_true, if_false]
    cases v <;> first | exact one _ rfl hv hm (two _ h) | simp [toV, toCells] at h
  | fn a r =>
    simp only [isSt, Bool.false_eq_true, if_false]
    cases v <;> first | exact one _ rfl hv hm (two _ h) | simp [toV, toCells] at h
  | ref t =>
    simp only [isSt, Bool.false_eq_true, if_false]
    cases v <;> first | exact one _ rfl hv hm (two _ h) | simp [toV, toCells] at h

theorem toArgs0_sound (hH : RelH P φ G M w H) {G1 : Nat → Prop} (hG : ∀ b, G b → G1 b) {a : Ty} : ∀ {vs : List AV} {us : List Value} {x : den a},
    (∀ b, M b → G1 b) ∨ (noRef a = true ∧ Frozen H (vs.flatMap fun v => keysC (cellsOf v))) → RAL P φ G M w H vs us → toArgs0 H a vs = some x → RArgs P a G1 w x us := by
  induction a with
  | unit =>
    intro vs us x _ hr h
    cases vs with
    | nil => simp only [RAL] at hr; subst hr; simp only [RArgs]
    | cons v vs => simp [toArgs0] at h
  | pair t b _ ih =>
    intro vs us x hm hr h
    cases vs with
    | nil => simp [toArgs0] at h
    | cons v vs =>
      simp only [toArgs0] at h
      split at h
      · rename_i y hy
        split at h
        · rename_i z hz
          cases h
          simp only [RAL] at hr
          obtain ⟨u, us', rfl, hu, hr⟩ := hr
          simp only [RArgs]
          refine ⟨u, us', rfl, toV_sound hH hG (hm.imp id fun hm => ⟨by have := hm.1; simp only [noRef, Bool.and_eq_true] at this; exact this.1, fun k hk => hm.2 k (by rw [List.flatMap_cons]; exact List.mem_append_left _ hk)⟩) hu hy,
            ih (hm.imp id fun hm => ⟨by have := hm.1; simp only [noRef, Bool.and_eq_true] at this; exact this.2, fun k hk => hm.2 k (by rw [List.flatMap_cons]; exact List.mem_append_right _ hk)⟩) hr hz⟩
        · cases h
      · cases h
  | _ => intro vs us x _ _ h; cases vs <;> simp [toArgs0] at h
end
end Go.AM
