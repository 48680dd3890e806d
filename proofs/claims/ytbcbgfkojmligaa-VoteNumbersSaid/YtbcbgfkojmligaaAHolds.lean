import Derived.Test.YtbcbgfkojmligaaAData
/- Part of an abstract machine for Go code and of its soundness, for any program of the model; no condition. -/
set_option linter.unusedVariables false
set_option linter.unusedSimpArgs false
namespace Go.AM
open Go.RowKit
section
variable (P : Program)

/-- One result; an owned list comes with its place. -/
def RVL : (t : Ty) → (Nat → Prop) → World → den t → Value → List Loc → Prop
  | .olist t, G, w, xs, v, Ls => ∃ L, Ls = [L] ∧ SlV L (size t) 0 xs.length v ∧ RowAt P t G w xs L
  | .int k, G, w, x, v, Ls => Ls = [] ∧ RV P (.int k) G w x v
  | .bool, G, w, x, v, Ls => Ls = [] ∧ RV P .bool G w x v
  | .str, G, w, x, v, Ls => Ls = [] ∧ RV P .str G w x v
  | .list t, G, w, x, v, Ls => Ls = [] ∧ RV P (.list t) G w x v
  | .unit, G, w, x, v, Ls => Ls = [] ∧ RV P .unit G w x v
  | .pair a b, G, w, x, v, Ls => Ls = [] ∧ RV P (.pair a b) G w x v
  | .fn a b, G, w, x, v, Ls => Ls = [] ∧ RV P (.fn a b) G w x v
  | .ref a, G, w, x, v, Ls => Ls = [] ∧ RV P (.ref a) G w x v

def ROs : (r : Ty) → (Nat → Prop) → World → den r → List Value → List Loc → Prop
  | .pair t b, G, w, y, vs, Ls => ∃ v vs' L1 L2, vs = v :: vs' ∧ Ls = L1 ++ L2 ∧ RVL P t G w y.1 v L1 ∧ ROs b G w y.2 vs' L2
  | _, _, _, _, vs, Ls => vs = [] ∧ Ls = []

def ResV (r : Ty) (G : Nat → Prop) (w : World) (y : den r) (v : Value) (Ls : List Loc) : Prop :=
  match r, y with
  | .pair t .unit, y => RVL P t G w y.1 v Ls
  | r, y => ∃ vs : Array Value, v = .tuple vs ∧ ROs P r G w y vs.toList Ls

def OwnLs (w w' : World) (G' : Nat → Prop) (Ls : List Loc) : Prop :=
  (∀ L ∈ Ls, 0 < L.cap → w.heap.size ≤ L.blk ∧ L.blk < w'.heap.size ∧ ¬ G' L.blk) ∧ Ls.Pairwise fun a b => 0 < a.cap → 0 < b.cap → a.blk ≠ b.blk

structure Holds (f : Nat) (fn : Fn) : Prop where
  tot : fn.tot = true → ∀ x, fn.pre x
  res : okRes fn.r = true
  code : Callable P f
  calls : ∀ w G x args, fn.pre x → (∀ b, G b → b < w.heap.size) → RArgs P fn.a G w x args →
    Calls P f args.toArray w fun e w' => ∃ v G' Ls, e = .returned v ∧ Below w.heap.size w w' ∧ (∀ b, G' b → b < w'.heap.size ∧ (b < w.heap.size → G b)) ∧
      ResV P fn.r G' w' (fn.f x) v Ls ∧ OwnLs w w' G' Ls

def TabOK (T : Tab) : Prop := ∀ f fn, tget T f = some fn → Holds P f fn
theorem TabOK.nil : TabOK P [] := fun f fn h => by simp [tget] at h
theorem TabOK.cons {T : Tab} {f : Nat} {fn : Fn} (h : Holds P f fn) (hT : TabOK P T) : TabOK P ((f, fn) :: T) := fun g gn hg => by
  simp only [tget] at hg
  split at hg
  · rename_i e; subst e; cases hg; exact h
  · exact hT g gn hg
end

section
variable {P : Program} {φ : Nat → Loc} {G M : Nat → Prop} {w : World} {H : Heap}

theorem RArgs.mono {a : Ty} : ∀ {G G' : Nat → Prop} {w w' : World} {x : den a} {vs : List Value}, plain a = true → RArgs P a G w x vs → (∀ b, G b → G' b) → Ag G w w' → RArgs P a G' w' x vs := by
  induction a with
  | pair t b _ ih =>
    intro G G' w w' x vs hp h hG hA
    simp only [plain, Bool.and_eq_true] at hp
    simp only [RArgs] at h ⊢
    obtain ⟨v, vs', rfl, h1, h2⟩ := h
    exact ⟨v, vs', rfl, RV.mono (P := P) hp.1 h1 hG hA, ih hp.2 h2 hG hA⟩
  | _ => intro G G' w w' x vs _ h _ _; simp only [RArgs] at h ⊢; exact h

theorem RArgs.join {a c : Ty} {G : Nat → Prop} {w : World} {x : den a} {y : den c} : ∀ {us vs : List Value}, RArgs P a G w x us → RArgs P c G w y vs → RArgs P (appTy a c) G w (join a c x y) (us ++ vs) := by
  induction a with
  | pair t b _ ih =>
    intro us vs h1 h2
    simp only [RArgs] at h1
    obtain ⟨v, vs', rfl, h, h'⟩ := h1
    simp only [appTy, AM.join, List.cons_append, RArgs]
    exact ⟨v, vs' ++ vs, rfl, h, ih h' h2⟩
  | _ => intro us vs h1 h2; simp only [RArgs] at h1; subst h1; simpa [appTy, AM.join] using h2

theorem RVL.flat {t : Ty} (hf : flat t = true) {G G' : Nat → Prop} {w w' : World} {x : den t} {v : Value} {Ls : List Loc} (h : RVL P t G w x v Ls) : Ls = [] ∧ RV P t G' w' x v := by
  have one : ∀ {t : Ty} (hf : AM.flat t = true) {x : den t}, RV P t G w x v → RV P t G' w' x v := by
    intro t hf x hh
    unfold RV at *
    split
    · rename_i hs
      simp only [hs, if_true] at hh
      obtain ⟨cs, e, hh⟩ := hh
      exact ⟨cs, e, RT.flat hf hh⟩
    · rename_i hs
      simp only [hs] at hh
      exact RT.flat hf (by simpa using hh)
  cases t with
  | olist t => simp [AM.flat] at hf
  | _ => simp only [RVL] at h; exact ⟨h.1, one hf h.2⟩

theorem ROs.flat {r : Ty} {G G' : Nat → Prop} {w w' : World} : ∀ {y : den r} {vs : List Value} {Ls : List Loc}, flat r = true → ROs P r G w y vs Ls → RArgs P r G' w' y vs := by
  induction r with
  | pair t b _ ih =>
    intro y vs Ls hf h
    simp only [AM.flat, Bool.and_eq_true] at hf
    simp only [ROs] at h
    obtain ⟨v, vs', L1, L2, rfl, rfl, h1, h2⟩ := h
    simp only [RArgs]
    exact ⟨v, vs', rfl, (RVL.flat hf.1 h1).2, ih hf.2 h2⟩
  | _ => intro y vs Ls hf h; simp only [ROs] at h; simp only [RArgs]; exact h.1

theorem ResV.flat {r : Ty} (hf : flat r = true) {G G' : Nat → Prop} {w w' : World} {y : den r} {v : Value} {Ls : List Loc} (hr : okRes r = true) (h : ResV P r G w y v Ls) : RRes P r G' w' y v := by
  cases r with
  | pair t b =>
    cases b with
    | unit =>
      simp only [AM.flat, Bool.and_eq_true] at hf
      simp only [ResV] at h
      simp only [RRes]
      exact (RVL.flat hf.1 h).2
    | pair s c =>
      simp only [ResV] at h
      obtain ⟨vs, rfl, h⟩ := h
      have := ROs.flat (G' := G') (w' := w') hf h
      simp only [RArgs] at this
      simp only [RRes, RArgs]
      exact ⟨vs, rfl, this⟩
    | _ => simp [okRes] at hr
  | unit =>
    simp only [ResV] at h
    obtain ⟨vs, rfl, h⟩ := h
    simp only [ROs] at h
    simp only [RRes]
    congr 1
    exact Array.toList_inj.1 (by simpa using h.1)
  | _ => simp [okRes] at hr

theorem dropTy_eq {a b c : Ty} (h : dropTy a b = some c) : b = appTy a c := by
  induction a generalizing b with
  | pair t a _ ih =>
    cases b with
    | pair t' b =>
      simp only [dropTy] at h
      split at h
      · rename_i e; subst e; rw [ih h]; rfl
      · cases h
    | _ => simp [dropTy] at h
  | unit => cases b <;> (simp only [dropTy] at h; cases h; rfl)
  | _ => cases b <;> simp [dropTy] at h

/-- A closure of known code is a function. -/
theorem fnAs_sound {f : Nat} {fn : Fn} (hH : Holds P f fn) {a r c : Ty} {y : den c} {p : den a → den r} {caps : Array Value} (h : fnAs a r fn c y = some p)
    {G1 : Nat → Prop} (hb : ∀ b, G1 b → b < w.heap.size) (hy : RArgs P c G1 w y caps.toList) :
    flat r = true ∧ RFn P f caps w a r p (RArgs P a) (fun w2 y v => RRes P r (fun _ => False) w2 y v) := by
  obtain ⟨fa, fr, fpre, ff, ft⟩ := fn
  simp only [fnAs] at h
  split at h
  · rename_i hc
    obtain ⟨e1, e2, e3, e4, e5, e6⟩ := hc
    subst e1; subst e2; subst e3
    cases h
    refine ⟨e4, hH.code, fun w1 hold hsz G2 x args hG2 hx => ?_⟩
    have hj : RArgs P (appTy a c) (fun b => b < w1.heap.size) w1 (AM.join a c x y) (args ++ caps.toList) :=
      RArgs.join (hx.mono e5 hG2 (fun _ _ => rfl)) (hy.mono e6 (fun b hg => Nat.lt_of_lt_of_le (hb b hg) hsz) (fun b hg => hold b (hb b hg)))
    have := hH.calls w1 (fun b => b < w1.heap.size) _ _ (hH.tot rfl _) (fun _ h => h) hj
    have e : (args ++ caps.toList).toArray = args.toArray ++ caps := by simp
    rw [e] at this
    refine this.mono fun e w2 => ?_
    rintro ⟨v, G', Ls, rfl, hbel, hG', hres, _⟩
    exact ⟨v, rfl, ResV.flat e4 hH.res hres, hbel⟩
  · cases h

theorem toP_sound {T : Tab} (hT : TabOK P T) (hH : RelH P φ G M w H) {G1 : Nat → Prop} (hG : ∀ b, G b → G1 b) {t : Ty} {v : AV} {u : Value} {x : den t}
    (hm : (∀ b, M b → G1 b) ∨ (noRef t = true ∧ Frozen H (keysC (cellsOf v)))) (hv : RA P φ G M w H v u) (h : toP T H t v = some x) : RV P t G1 w x u := by
  cases t with
  | fn a r =>
    cases v with
    | clo f caps =>
      simp only [toP] at h
      split at h
      · rename_i fn hf
        split at h
        · rename_i c hc
          split at h
          · rename_i y hy
            simp only [RA] at hv
            obtain ⟨us, rfl, hu⟩ := hv
            have ha := toArgs0_sound hH (G1 := fun b => b < w.heap.size) hH.bnd (.inl hH.mnd) hu hy
            obtain ⟨e1, e2⟩ := fnAs_sound (hT f fn hf) h (fun _ h => h) ha
            simp only [RV, isSt, Bool.false_eq_true, if_false, RT]
            exact ⟨f, us, w, rfl, fun _ _ => rfl, Nat.le_refl _, e1, e2⟩
          · cases h
        · cases h
      · cases h
    | _ => exact toV_sound hH hG hm hv (by simpa only [toP] using h)
  | _ => exact toV_sound hH hG hm hv (by simpa only [toP] using h)

theorem toArgs_sound {T : Tab} (hT : TabOK P T) (hH : RelH P φ G M w H) {G1 : Nat → Prop} (hG : ∀ b, G b → G1 b) {a : Ty} : ∀ {vs : List AV} {us : List Value} {x : den a},
    (∀ b, M b → G1 b) ∨ (noRef a = true ∧ Frozen H (vs.flatMap fun v => keysC (cellsOf v))) → RAL P φ G M w H vs us → toArgs T H a vs = some x → RArgs P a G1 w x us := by
  induction a with
  | unit =>
    intro vs us x _ hr h
    cases vs with
    | nil => simp only [RAL] at hr; subst hr; simp only [RArgs]
    | cons v vs => simp [toArgs] at h
  | pair t b _ ih =>
    intro vs us x hm hr h
    cases vs with
    | nil => simp [toArgs] at h
    | cons v vs =>
      simp only [toArgs] at h
      split at h
      · rename_i y hy
        split at h
        · rename_i z hz
          cases h
          simp only [RAL] at hr
          obtain ⟨u, us', rfl, hu, hr⟩ := hr
          simp only [RArgs]
          refine ⟨u, us', rfl, toP_sound hT hH hG (hm.imp id fun hm => ⟨by have := hm.1; simp only [noRef, Bool.and_eq_true] at this; exact this.1, fun k hk => hm.2 k (by rw [List.flatMap_cons]; exact List.mem_append_left _ hk)⟩) hu hy,
            ih (hm.imp id fun hm => ⟨by have := hm.1; simp only [noRef, Bool.and_eq_true] at this; exact this.2, fun k hk => hm.2 k (by rw [List.flatMap_cons]; exact List.mem_append_right _ hk)⟩) hr hz⟩
        · cases h
      · cases h
  | _ => intro vs us x _ _ h; cases vs <;> simp [toArgs] at h

/-! ### rows that are frozen -/
def oSame : Option Obj → Option Obj → Prop
  | none, none => True
  | some (.box a), some (.box b) => a = b
  | some (.row t xs _), o => ∃ f, o = some (.row t xs f)
  | _, _ => False
def HS (H H' : Heap) : Prop := ∀ k, oSame (hget H k) (hget H' k)

theorem oSame.refl (o : Option Obj) : oSame o o := by
  cases o with
  | none => trivial
  | some o => cases o <;> simp [oSame]
theorem oSame.trans {a b c : Option Obj} (h1 : oSame a b) (h2 : oSame b c) : oSame a c := by
  cases a with
  | none => cases b with
    | none => exact h2
    | some b => simp [oSame] at h1
  | some a => cases a with
    | box x => cases b with
      | none => simp [oSame] at h1
      | some b => cases b with
        | box y => simp only [oSame] at h1; subst h1; exact h2
        | row t y f => simp [oSame] at h1
    | row t x f =>
      simp only [oSame] at h1
      obtain ⟨f', rfl⟩ := h1
      simp only [oSame] at h2 ⊢
      exact h2

theorem HS.frz (ks : List Nat) : ∀ H, HS H (frzH H ks) := by
  induction ks with
  | nil => exact fun H k => oSame.refl _
  | cons k ks ih =>
    intro H
    simp only [frzH]
    split
    · rename_i t xs f hk
      intro j
      refine oSame.trans ?_ (ih _ j)
      by_cases e : j = k
      · subst e; rw [hget_hput_self, hk]; simp [oSame]
      · rw [hget_hput_ne _ _ _ _ e]; exact oSame.refl _
    · exact ih H

theorem slOf_same {H H' : Heap} (h : HS H H') (t : Ty) (v : AV) : slOf H' t v = slOf H t v := by
  cases v with
  | own k lo len =>
    have := h k
    simp only [slOf]
    cases hk : hget H k with
    | none => rw [hk] at this; cases hk' : hget H' k with
      | none => rfl
      | some o => simp [hk', oSame] at this
    | some o => cases o with
      | box cs => rw [hk] at this; cases hk' : hget H' k with
        | none => simp [hk', oSame] at this
        | some o => cases o with
          | box c => rfl
          | row t' xs f => simp [hk', oSame] at this
      | row t' xs f => rw [hk] at this; simp only [oSame] at this; obtain ⟨f', e⟩ := this; rw [e]
  | _ => rfl

theorem toCells_same {H H' : Heap} (h : HS H H') (t : Ty) : ∀ cs : List AV, toCells H' t cs = toCells H t cs := by
  induction t with
  | int k => intro cs; cases cs with
    | nil => rfl
    | cons c cs => cases c <;> rfl
  | bool => intro cs; cases cs with
    | nil => rfl
    | cons c cs => cases c <;> rfl
  | str => intro cs; cases cs with
    | nil => rfl
    | cons c cs => cases c <;> rfl
  | list t _ => intro cs; cases cs with
    | nil => rfl
    | cons c cs => simp only [toCells, slOf_same h]
  | olist t _ => intro cs; cases cs with
    | nil => rfl
    | cons c cs => cases c <;> rfl
  | unit => intro cs; rfl
  | pair a b iha ihb => intro cs; simp only [toCells, iha, ihb]
  | fn a r _ _ => intro cs; cases cs with
    | nil => rfl
    | cons c cs => cases c <;> rfl
  | ref t ih =>
    intro cs
    cases cs with
    | nil => rfl
    | cons c cs =>
      cases c with
      | ptr k off =>
        cases off with
        | zero =>
          simp only [toCells]
          split
          · have := h k
            cases hk : hget H k with
            | none => rw [hk] at this; cases hk' : hget H' k with
              | none => rfl
              | some o => simp [hk', oSame] at this
            | some o => cases o with
              | box c => rw [hk] at this; cases hk' : hget H' k with
                | none => simp [hk', oSame] at this
                | some o => cases o with
                  | box c' => rw [hk'] at this; simp only [oSame] at this; subst this; simp only [ih]
                  | row t' xs f => simp [hk', oSame] at this
              | row t' xs f => rw [hk] at this; simp only [oSame] at this; obtain ⟨f', e⟩ := this; rw [e]
          · rfl
        | succ n => rfl
      | el t x off => cases off <;> rfl
      | _ => rfl

theorem toV_same {H H' : Heap} (h : HS H H') (t : Ty) (v : AV) : toV H' t v = toV H t v := by
  cases t <;> cases v <;> first | rfl | (simp only [toV, toCells_same h]; done) | (rename_i cs; cases cs <;> rfl)
theorem toArgs0_same {H H' : Heap} (h : HS H H') (a : Ty) : ∀ vs : List AV, toArgs0 H' a vs = toArgs0 H a vs := by
  induction a with
  | pair t b _ ih => intro vs; cases vs with
    | nil => rfl
    | cons v vs => simp only [toArgs0, toV_same h, ih]
  | _ => intro vs; cases vs <;> rfl
theorem toP_same {T : Tab} {H H' : Heap} (h : HS H H') (t : Ty) (v : AV) : toP T H' t v = toP T H t v := by
  cases t <;> cases v <;> simp only [toP, toV_same h, toArgs0_same h]
theorem toArgs_same {T : Tab} {H H' : Heap} (h : HS H H') (a : Ty) : ∀ vs : List AV, toArgs T H' a vs = toArgs T H a vs := by
  induction a with
  | pair t b _ ih => intro vs; cases vs with
    | nil => rfl
    | cons v vs => simp only [toArgs, toP_same h, ih]
  | _ => intro vs; cases vs <;> rfl

theorem frzH_frozen (ks : List Nat) : ∀ H, Frozen (frzH H ks) ks := by
  have stay : ∀ (ks : List Nat) (H : Heap) (k : Nat), (∀ t xs f, hget H k = some (.row t xs f) → f = true) → ∀ t xs f, hget (frzH H ks) k = some (.row t xs f) → f = true := by
    intro ks
    induction ks with
    | nil => intro H k h; exact h
    | cons j js ih =>
      intro H k h
      simp only [frzH]
      split
      · refine ih _ _ fun t xs f hk => ?_
        by_cases e : k = j
        · subst e; rw [hget_hput_self] at hk; cases hk; rfl
        · rw [hget_hput_ne _ _ _ _ e] at hk; exact h t xs f hk
      · exact ih _ _ h
  induction ks with
  | nil => intro H k hk; cases hk
  | cons j js ih =>
    intro H k hk
    rcases List.mem_cons.1 hk with rfl | hk
    · simp only [frzH]
      split
      · refine stay _ _ _ fun t xs f h => ?_
        rw [hget_hput_self] at h; cases h; rfl
      · rename_i hno
        refine stay _ _ _ fun t xs f h => ?_
        exact absurd h (hno t xs f)
    · simp only [frzH]
      split <;> exact ih _ k hk
end
end Go.AM
