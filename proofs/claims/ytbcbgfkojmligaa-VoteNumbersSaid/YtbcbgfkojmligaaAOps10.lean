import Derived.Test.YtbcbgfkojmligaaAOps9
/- Part of an abstract machine for Go code and of its soundness, for any program of the model; no condition. -/
set_option linter.unusedVariables false
set_option linter.unusedSimpArgs false
set_option linter.unusedSimpArgs false
namespace Go.AM
open Go.RowKit
section
variable {P : Program} {TT : TyTab} {N : Nat} {rowAt : List Nat} {X : Ctx} {σ : St} {a : Act} {w : World} {φ : Nat → Loc} {G M : Nat → Prop} {o : Oper} {next : Act → World → Prop} {Q : Exit → Act → World → Prop}

theorem RVL_nil {t : Ty} {G : Nat → Prop} {w : World} {x : den t} {v : Value} (h : RVL P t G w x v []) : RV P t G w x v := by
  cases t with
  | olist s => simp only [RVL] at h; obtain ⟨L, hL, _⟩ := h; cases hL
  | _ => simp only [RVL] at h; exact h.2

/-- Results without memory, from the other relation. -/
theorem RRes.res {r : Ty} (hf : flat r = true) {G G' : Nat → Prop} {w w' : World} {y : den r} {v : Value} (h : RRes P r G w y v) (hok : okRes r = true) : ResV P r G' w' y v [] := by
  have one : ∀ {t : Ty} (hf : AM.flat t = true) {x : den t} {v : Value}, RV P t G w x v → RVL P t G' w' x v [] := by
    intro t hf x v hv
    have hv' : RV P t G' w' x v := by
      unfold RV at *
      split
      · rename_i hs
        simp only [hs, if_true] at hv
        obtain ⟨cs, e, hh⟩ := hv
        exact ⟨cs, e, RT.flat hf hh⟩
      · rename_i hs
        simp only [hs] at hv
        exact RT.flat hf (by simpa using hv)
    cases t <;> first | (simp [AM.flat] at hf; done) | (simp only [RVL]; exact ⟨trivial, hv'⟩)
  have many : ∀ {r : Ty} {y : den r} {vs : List Value}, AM.flat r = true → okRes r = true → RArgs P r G w y vs → ROs P r G' w' y vs [] := by
    intro r
    induction r with
    | pair t b _ ih =>
      intro y vs hf hok h
      simp only [AM.flat, Bool.and_eq_true] at hf
      simp only [okRes, Bool.and_eq_true] at hok
      simp only [RArgs] at h
      obtain ⟨v, vs', rfl, h1, h2⟩ := h
      simp only [ROs]
      exact ⟨v, vs', [], [], rfl, rfl, one hf.1 h1, ih hf.2 hok.2 h2⟩
    | unit => intro y vs _ _ h; simp only [RArgs] at h; simp only [ROs]; exact ⟨h, trivial⟩
    | _ => intro y vs _ hok; simp [okRes] at hok
  cases r with
  | pair t b =>
    cases b with
    | unit =>
      simp only [AM.flat, Bool.and_eq_true] at hf
      simp only [RRes] at h
      simp only [ResV]
      exact one hf.1 h
    | pair s c =>
      simp only [RRes] at h
      obtain ⟨vs, rfl, u, vs', hvs, h1, h2⟩ := h
      simp only [ResV]
      refine ⟨vs, rfl, many hf hok ?_⟩
      rw [hvs]
      simp only [RArgs]
      exact ⟨u, vs', rfl, h1, by simpa only [RArgs] using h2⟩
    | _ => simp [okRes] at hok
  | unit =>
    simp only [RRes] at h
    subst h
    simp only [ResV, ROs]
    exact ⟨#[], rfl, rfl, trivial⟩
  | _ => simp [okRes] at hok

/-- The end of any call. -/
theorem call_cont {d : Nat} {vs : List AV} {ar r : Ty} {y : den r} {pre need : Prop} {v : AV} {e : Eff} (hr : callR d σ.heap vs pre ar r y = .ok need v e) (hok : okRes r = true) (h : Rel P X σ a w φ G M)
    {f : Nat} {args : Array Value}
    (hcalls : need → ∀ G1, (∀ b, G1 b → b < w.heap.size) → (∀ b, G b → G1 b) → ((∀ b, M b → G1 b) ∨ (noRef ar = true ∧ ∃ σ' M', σ'.env = σ.env ∧ Rel P X σ' a w φ G1 M' ∧ HS σ.heap σ'.heap ∧ Frozen σ'.heap (vs.flatMap (keysV σ.heap)))) →
      Calls P f args w fun en w' => ∃ v G' Ls, en = .returned v ∧ Below w.heap.size w w' ∧ (∀ b, G' b → b < w'.heap.size ∧ (b < w.heap.size → G1 b)) ∧ ResV P r G' w' y v Ls ∧ OwnLs w w' G' Ls)
    (hn : need) (hk : Cont P X σ e v a o next) :
    Calls P f args w fun
      | .returned v, w'' => next (a.put o.dst v) w''
      | .panicked chain, w'' => Q (.panic chain) a w''
      | .outgrown, _ => LetsOut Q := by
  unfold callR at hr
  split at hr
  · cases hr
  · rename_i hcond
    have hany : hasAny σ.heap (ofRes d r y).2 = false := by
      cases hq : hasAny σ.heap (ofRes d r y).2 with
      | false => rfl
      | true => simp [hq] at hcond
    have hmode : (flat r || noRef ar) = true := by
      cases hq : (flat r || noRef ar) with
      | true => rfl
      | false => simp [hq] at hcond
    cases hr
    by_cases hf : flat r = true
    · -- nothing of memory comes back
      refine (hcalls hn (fun b => b < w.heap.size) (fun _ h => h) h.heap.bnd (.inl h.heap.mnd)).mono fun en w' => ?_
      rintro ⟨u, G', Ls, rfl, hb, hG', hres, _⟩
      have hres' := RRes.res (G' := G) (w' := w') hf (ResV.flat (G' := G) (w' := w') hf hok hres) hok
      have hR := h.call hb (fun _ => False) (fun b hb => hb.elim)
      obtain ⟨φ', hR', hra⟩ := ofRes_sound (d := d) (a := a) (X := X) hR hok (by rw [flat_put hf]; rfl) (RRes.res (G' := fun b => G b ∨ False) (w' := w') hf (ResV.flat (G' := G) (w' := w') hf hok hres) hok) (fun L hL => by cases hL) List.Pairwise.nil
      have he : σ.eff { frz := if flat r = true then [] else vs.flatMap (keysV σ.heap), put := (ofRes d r y).2 } = ⟨σ.env, putAll σ.heap (ofRes d r y).2⟩ := by
        rw [if_pos hf]; rfl
      refine hk w' u φ' (fun b => G b ∨ False) M ?_ ?_
      · rw [he]; exact hR'
      · rw [he]; exact hra
    · have hnr : noRef ar = true := by simpa [hf] using hmode
      obtain ⟨G1, M1, hg1, h1⟩ := h.frz (vs.flatMap (keysV σ.heap))
      refine (hcalls hn G1 h1.heap.bnd hg1 (.inr ⟨hnr, ⟨σ.env, frzH σ.heap (vs.flatMap (keysV σ.heap))⟩, M1, rfl, h1, HS.frz _ _, frzH_frozen _ _⟩)).mono fun en w' => ?_
      rintro ⟨u, G', Ls, rfl, hb, hG', hres, hown, hpw⟩
      obtain ⟨hR, _⟩ := h1.callO hb G' (fun b => ∃ L ∈ Ls, 0 < L.cap ∧ L.blk = b) hG' (fun b hb => by
        obtain ⟨L, hL, hc, rfl⟩ := hb; exact hown L hL hc)
      have hany' : hasAny (frzH σ.heap (vs.flatMap (keysV σ.heap))) (ofRes d r y).2 = false := by
        have hs := HS.frz (vs.flatMap (keysV σ.heap)) σ.heap
        generalize (ofRes d r y).2 = ps at hany
        induction ps with
        | nil => rfl
        | cons p ps ih =>
          obtain ⟨h1, h2⟩ := hasAny_cons hany
          have := hs p.1
          rw [h1] at this
          obtain ⟨j, oj⟩ := p
          simp only [hasAny, Bool.or_eq_false_iff]
          refine ⟨?_, ih h2⟩
          cases hq : hget (frzH σ.heap (vs.flatMap (keysV σ.heap))) j with
          | none => rfl
          | some q => simp only at this; rw [hq] at this; simp [oSame] at this
      have hresM : ResV P r (fun b => G1 b ∨ G' b) w' y u Ls := by
        have okv : ∀ {t : Ty} {x : den t} {v : Value} {Ls : List Loc}, plain t = true → RVL P t G' w' x v Ls → RVL P t (fun b => G1 b ∨ G' b) w' x v Ls := by
          intro t x v Ls hp hv
          cases t with
          | olist s =>
            simp only [RVL] at hv ⊢
            obtain ⟨L, rfl, h1, h2⟩ := hv
            exact ⟨L, rfl, h1, h2.mono (fun b hb => .inr hb) (fun _ _ => rfl) (fun _ => rfl)⟩
          | _ => simp only [RVL] at hv ⊢; exact ⟨hv.1, RV.mono (P := P) hp hv.2 (fun b hb => .inr hb) (fun _ _ => rfl)⟩
        have okm : ∀ {r : Ty} {y : den r} {vs : List Value} {Ls : List Loc}, okRes r = true → ROs P r G' w' y vs Ls → ROs P r (fun b => G1 b ∨ G' b) w' y vs Ls := by
          intro r
          induction r with
          | pair t b _ ih =>
            intro y vs Ls hok h
            simp only [okRes, Bool.and_eq_true] at hok
            simp only [ROs] at h ⊢
            obtain ⟨v, vs', L1, L2, rfl, rfl, h1, h2⟩ := h
            exact ⟨v, vs', L1, L2, rfl, rfl, okv hok.1 h1, ih hok.2 h2⟩
          | _ => intro y vs Ls hok h; simp only [ROs] at h ⊢; exact h
        cases r with
        | pair t b =>
          cases b with
          | unit =>
            simp only [okRes, Bool.and_eq_true] at hok
            simp only [ResV] at hres ⊢
            exact okv hok.1 hres
          | _ =>
            simp only [ResV] at hres ⊢
            obtain ⟨vs, rfl, h⟩ := hres
            exact ⟨vs, rfl, okm hok h⟩
        | _ =>
          simp only [ResV] at hres ⊢
          obtain ⟨vs, rfl, h⟩ := hres
          exact ⟨vs, rfl, okm hok h⟩
      obtain ⟨φ', hR', hra⟩ := ofRes_sound (d := d) hR hok hany' hresM (fun L hL hc => ⟨.inr ⟨L, hL, hc, rfl⟩, fun k ob hkk ha => by
        have := RObj.lt h1.heap hkk ha
        have := (hown L hL hc).1
        omega⟩) hpw
      have he : σ.eff { frz := if flat r = true then [] else vs.flatMap (keysV σ.heap), put := (ofRes d r y).2 } = ⟨σ.env, putAll (frzH σ.heap (vs.flatMap (keysV σ.heap))) (ofRes d r y).2⟩ := by
        rw [if_neg hf]; rfl
      refine hk w' u φ' (fun b => G1 b ∨ G' b) (fun b => M1 b ∨ ∃ L ∈ Ls, 0 < L.cap ∧ L.blk = b) ?_ ?_
      · rw [he]; exact hR'
      · rw [he]; exact hra

/-- A call of a function that is known. -/
theorem sound_callF {T : Tab} (hT : TabOK P T) (h : Rel P X σ a w φ G M) {d f : Nat} {vs : List AV} {args : Array Value} (hx : (execOp a.eval o).run P w = .ok (.enter f args) w)
    (hv : ∀ {σ' : St} {G' M' : Nat → Prop}, σ'.env = σ.env → Rel P X σ' a w φ G' M' → RAL P φ G' M' w σ'.heap vs args.toList) {need : Prop} {v : AV} {e : Eff} (hr : callF T d f σ.heap vs = .ok need v e) (hn : need)
    (hk : Cont P X σ e v a o next) : o.wp P a w next Q := by
  unfold callF at hr
  split at hr
  · rename_i fn hfn
    split at hr
    · rename_i x hxa
      unfold Oper.wp
      rw [hx]
      have hneed : need = fn.pre x := by
        unfold callR at hr
        split at hr
        · cases hr
        · cases hr; rfl
      refine call_cont hr (hT f fn hfn).res h (fun hn G1 hb hG hm => ?_) hn hk
      have ha : RArgs P fn.a G1 w x args.toList := by
        rcases hm with hm | ⟨hnr, σ', M', he, hR, hs, hfz⟩
        · exact toArgs_sound hT h.heap hG (.inl hm) (hv rfl h) hxa
        · exact toArgs_sound hT hR.heap (fun _ h => h) (.inr ⟨hnr, hfz.sub (flatKeys_sub σ.heap vs)⟩) (hv he hR) (by rw [toArgs_same hs]; exact hxa)
      exact (hT f fn hfn).calls w G1 x args.toList (by rw [← hneed]; exact hn) hb ha
    · cases hr
  · cases hr

theorem exec_callF {c : Call} (ho : o.op = .call c) {f : Nat} {fn : Func} (hf : P.funcs[f]? = some fn) (hname : fn.name ≠ "runtime.NumGoroutine") (hbody : fn.body.isSome = true) {first caps : Array Value} {args : Array Operand}
    (hc : (∃ g, c.callee = .value g ∧ a.eval g = .func (.func f) first caps) ∧ c.args = args) : (execOp a.eval o).run P w = .ok (.enter f (first ++ args.map a.eval ++ caps)) w := by
  obtain ⟨callee, args', ats⟩ := c
  obtain ⟨⟨g, hg, hga⟩, hargs⟩ := hc
  simp only at hg hargs
  subst hg; subst hargs
  have hb : ¬ (fn.body = none) := by intro hb; rw [hb] at hbody; cases hbody
  simp [execOp, ho, resolve, Deferred.ofValue, hga, invoke, callFunc, hf, hname, hb]

/-- A call of a function value. -/
theorem sound_callfv (h : Rel P X σ a w φ G M) {T : Tab} (hT : TabOK P T) {c : Call} (ho : o.op = .call c) {g : Operand} (hc : c.callee = .value g) {d : Nat} {ar r : Ty} {p : den ar → den r} (hok : okRes r = true) (hg : RA P φ G M w σ.heap (.fv ar r p) (a.eval g)) {vs : List AV}
    (hv : ∀ {σ' : St} {G' M' : Nat → Prop}, σ'.env = σ.env → Rel P X σ' a w φ G' M' → RAL P φ G' M' w σ'.heap vs (c.args.toList.map a.eval)) {x : den ar} (hx : toArgs T σ.heap ar vs = some x)
    {need : Prop} {v : AV} {e : Eff} (hr : callR d σ.heap vs True ar r (p x) = .ok need v e) (hk : Cont P X σ e v a o next) : o.wp P a w next Q := by
  simp only [RA] at hg
  obtain ⟨f, caps, wd, hga, hag, hsz, hf, _, hfn⟩ := hg
  obtain ⟨⟨fn, hf1, hf2, hf3⟩, hfn⟩ := hfn
  have hx1 := exec_callF (P := P) (w := w) (a := a) ho hf1 hf2 hf3 (args := c.args) ⟨⟨g, hc, hga⟩, rfl⟩
  unfold Oper.wp
  rw [hx1]
  have hneed : need = True := by
    unfold callR at hr
    split at hr
    · cases hr
    · cases hr; rfl
  refine call_cont hr hok h (fun hn G1 hb hG hm => ?_) (by rw [hneed]; trivial) hk
  have ha : RArgs P ar G1 w x (c.args.toList.map a.eval) := by
    rcases hm with hm | ⟨hnr, σ', M', he, hR, hs, hfz⟩
    · exact toArgs_sound hT h.heap hG (.inl hm) (hv rfl h) hx
    · exact toArgs_sound hT hR.heap (fun _ h => h) (.inr ⟨hnr, hfz.sub (flatKeys_sub σ.heap vs)⟩) (hv he hR) (by rw [toArgs_same hs]; exact hx)
  have := hfn w hag hsz G1 x _ hb ha
  have e1 : (#[] : Array Value) ++ c.args.map a.eval ++ caps = (c.args.toList.map a.eval).toArray ++ caps := by
    apply Array.toList_inj.1; simp
  rw [e1]
  refine this.mono fun en w' => ?_
  rintro ⟨u, rfl, hres, hb⟩
  exact ⟨u, fun _ => False, [], rfl, hb, fun b hb => hb.elim, RRes.res hf hres hok, ⟨fun L hL => (by cases hL), List.Pairwise.nil⟩⟩
end
end Go.AM
