import Derived.Test.YtbcbgfkojmligaaAOps3
/- Part of an abstract machine for Go code and of its soundness, for any program of the model; no condition. -/
set_option linter.unusedVariables false
set_option linter.unusedSimpArgs false
namespace Go.AM
open Go.RowKit
section
variable {P : Program} {TT : TyTab} {N : Nat} {rowAt : List Nat} {X : Ctx} {σ : St} {a : Act} {w : World} {φ : Nat → Loc} {G M : Nat → Prop} {o : Oper} {next : Act → World → Prop} {Q : Exit → Act → World → Prop}

inductive All2 {α β : Type} (R : α → β → Prop) : List α → List β → Prop where
  | nil : All2 R [] []
  | cons {x : α} {y : β} {xs : List α} {ys : List β} (h : R x y) (t : All2 R xs ys) : All2 R (x :: xs) (y :: ys)

theorem fold_lay (off : Nat) : ∀ (us : List Value) (i : Nat) (cs : Array Value), off + i + us.length ≤ cs.size →
    ((us.zipIdx i).foldl (fun cs (p : Value × Nat) => cs.setIfInBounds (off + p.2) p.1) cs).toList = cs.toList.take (off + i) ++ us ++ cs.toList.drop (off + i + us.length) := by
  intro us
  induction us with
  | nil => intro i cs h; simp
  | cons u us ih =>
    intro i cs h
    simp only [List.zipIdx_cons, List.foldl_cons]
    rw [ih (i + 1) _ (by simp at h ⊢; omega)]
    have e := list_seg_step cs.toList (off + i) u us (by simp at h ⊢; omega)
    simpa [Array.toList_setIfInBounds, Nat.add_assoc] using e

theorem fill_cons {place : Nat → Option (Nat × Nat)} {cells : Array Value} {i off n : Nat} {v : Value} {rest : List (Nat × Value)} (hp : place i = some (off, n)) (hn : v.cells.size = n) (hf : off + n ≤ cells.size) :
    Instr.fill place cells ((i, v) :: rest) = Instr.fill place (cells.toList.take off ++ v.cells.toList ++ cells.toList.drop (off + n)).toArray rest := by
  have hl := fold_lay off v.cells.toList 0 cells (by simpa [hn] using hf)
  simp only [Nat.add_zero, Array.length_toList, hn] at hl
  have he : v.cells.zipIdx.foldl (fun cs (p : Value × Nat) => cs.setIfInBounds (off + p.2) p.1) cells = (cells.toList.take off ++ v.cells.toList ++ cells.toList.drop (off + n)).toArray := by
    apply Array.toList_inj.1
    rw [← hl, ← Array.foldl_toList]
    simp
  simp only [Instr.fill, hp]
  rw [if_neg (by simp [hn]; omega)]
  simp only [he]

/-- What a struct's, an array's parts are laid at. -/
theorem fill_sound {H : Heap} {place : Nat → Option (Nat × Nat)} : ∀ {ps : List (Nat × Operand)} {qs : List (Nat × Nat)} {os : List Opd} {zs r : List AV} {c : Array Value},
    (∀ i x, (i, x) ∈ ps → True) → RAL P φ G M w H zs c.toList → RAL P φ G M w H (bareL (vals σ.env os)) (ps.map fun p => a.eval p.2) →
    (All2 (fun (p : Nat × Operand) (q : Nat × Nat) => place p.1 = some q) ps qs) → layAll zs qs (bareL (vals σ.env os)) = some r →
    ∃ c', Instr.fill place c (ps.map fun p => (p.1, a.eval p.2)) = some c' ∧ RAL P φ G M w H r c'.toList := by
  intro ps
  induction ps with
  | nil =>
    intro qs os zs r c _ hz hv hq hl
    cases hq
    simp only [List.map_nil] at hv ⊢
    cases hb : bareL (vals σ.env os) with
    | nil => rw [hb] at hl; simp only [layAll] at hl; cases hl; exact ⟨c, rfl, hz⟩
    | cons v vs => rw [hb] at hv; simp only [RAL] at hv; obtain ⟨_, _, he, _⟩ := hv; cases he
  | cons p ps ih =>
    intro qs os zs r c _ hz hv hq hl
    cases hq with
    | cons hp hq =>
      rename_i q qs
      cases os with
      | nil => simp [vals, bareL, layAll] at hl
      | cons y os =>
        simp only [vals, bareL, List.map_cons, RAL] at hv
        obtain ⟨u, us', he, hu, hv⟩ := hv
        simp only [List.cons.injEq] at he
        obtain ⟨rfl, rfl⟩ := he
        obtain ⟨off, n⟩ := q
        simp only [vals, bareL, layAll] at hl
        split at hl
        · rename_i hc
          split at hl
          · rename_i zs' hlay
            obtain ⟨h1, _⟩ := one_cells hu hc.2
            obtain ⟨h3, h4, _⟩ := lay_sound hz h1 hlay
            have hn : (a.eval p.2).cells.size = n := by rw [← hc.1, ← h1.len]; simp
            have hlen : (a.eval p.2).cells.toList.length = n := by simpa using hn
            rw [hlen] at h3 h4
            obtain ⟨c', hf, hr⟩ := ih (c := (c.toList.take off ++ (a.eval p.2).cells.toList ++ c.toList.drop (off + n)).toArray) (fun _ _ _ => trivial) (by simpa using h3) hv hq hl
            refine ⟨c', ?_, hr⟩
            simp only [List.map_cons]
            rw [fill_cons hp hn (by simpa using h4)]
            exact hf
          · cases hl
        · cases hl

theorem parts_vals (h : Rel P X σ a w φ G M) {t : TypeId} : ∀ {ps : List (Nat × Operand)} {qs : List (Nat × Nat)} {os : List Opd}, partsOf P TT N t ps = some (qs, os) →
    RAL P φ G M w σ.heap (vals σ.env os) (ps.map fun p => a.eval p.2) := by
  intro ps
  induction ps with
  | nil => intro qs os hp; simp only [partsOf] at hp; cases hp; simp only [vals, List.map_nil, RAL]
  | cons p ps ih =>
    intro qs os hp
    obtain ⟨i, x⟩ := p
    simp only [partsOf] at hp
    split at hp
    · rename_i qs' os' hps
      split at hp
      · split at hp
        · split at hp
          · rename_i y hy; cases hp
            simp only [vals, List.map_cons, RAL]
            exact ⟨_, _, rfl, opd_sound h hy, ih hps⟩
          · cases hp
        · cases hp
      · split at hp
        · rename_i y hy; cases hp
          simp only [vals, List.map_cons, RAL]
          exact ⟨_, _, rfl, opd_sound h hy, ih hps⟩
        · cases hp
      · cases hp
    · cases hp

theorem parts_struct {t : TypeId} {fs : Array Field} (hu : P.underlying t = some (.struct fs)) : ∀ {ps : List (Nat × Operand)} {qs : List (Nat × Nat)} {os : List Opd}, partsOf P TT N t ps = some (qs, os) →
    All2 (fun (p : Nat × Operand) (q : Nat × Nat) => (fs.map fun f => (f.offset, P.cellsOf f.type))[p.1]? = some q) ps qs := by
  intro ps
  induction ps with
  | nil => intro qs os hp; simp only [partsOf] at hp; cases hp; exact .nil
  | cons p ps ih =>
    intro qs os hp
    obtain ⟨i, x⟩ := p
    simp only [partsOf, hu] at hp
    split at hp
    · rename_i qs' os' hps
      split at hp
      · rename_i f hf
        split at hp
        · cases hp
          exact .cons (by simp [hf]) (ih hps)
        · cases hp
      · cases hp
    · cases hp

theorem parts_array {t e : TypeId} {n : Nat} (hu : P.underlying t = some (.array n e)) : ∀ {ps : List (Nat × Operand)} {qs : List (Nat × Nat)} {os : List Opd}, partsOf P TT N t ps = some (qs, os) →
    All2 (fun (p : Nat × Operand) (q : Nat × Nat) => some (p.1 * P.cellsOf e, P.cellsOf e) = some q) ps qs := by
  intro ps
  induction ps with
  | nil => intro qs os hp; simp only [partsOf] at hp; cases hp; exact .nil
  | cons p ps ih =>
    intro qs os hp
    obtain ⟨i, x⟩ := p
    simp only [partsOf, hu] at hp
    split at hp
    · rename_i qs' os' hps
      split at hp
      · cases hp
        exact .cons rfl (ih hps)
      · cases hp
    · cases hp

theorem size_run' {t : TypeId} (h : (P.info? t).isSome = true) : (Go.sizeOf t).run P w = .ok (P.cellsOf t) w := by
  cases hi : P.info? t with
  | none => simp [hi] at h
  | some i => simp [Go.sizeOf, typeInfo, hi, Program.cellsOf]

theorem mapM_fields : ∀ (fs : List Field), (∀ f ∈ fs, (P.info? f.type).isSome = true) → (fs.mapM fun f => do pure (f.offset, ← Go.sizeOf f.type) : Sem (List (Nat × Nat))).run P w = .ok (fs.map fun f => (f.offset, P.cellsOf f.type)) w := by
  intro fs
  induction fs with
  | nil => intro _; rfl
  | cons f fs ih =>
    intro h
    rw [List.mapM_cons]
    simp only [Sem.run_bind, size_run' (h f (by simp)), Result.andThen_ok, Sem.run_pure, ih (fun g hg => h g (by simp [hg])), List.map_cons]

theorem sound_build (h : Rel P X σ a w φ G M) {t : TypeId} {ps : Array (Nat × Operand)} (ho : o.op = .build t ps) {zs r : List AV} {qs : List (Nat × Nat)} {os : List Opd} (hz : compZero P TT t = some zs)
    (hp : partsOf P TT N t ps.toList = some (qs, os)) (hkn : partsKnown P t = true) (hs : sureL (vals σ.env os)) (hl : layAll zs qs (bareL (vals σ.env os)) = some r)
    (hk : Cont P X σ {} (.agg r) a o next) : o.wp P a w next Q := by
  obtain ⟨hz1, hz2⟩ := compZero_sound (φ := φ) (G := G) (M := M) (w := w) (H := σ.heap) hz
  obtain ⟨z, hzr, hzc⟩ := zero_run (w := w) hz1
  have hv := bareL_sound hs (parts_vals h hp)
  have hz3 : RAL P φ G M w σ.heap zs z.cells.toList := by rw [hzc]; exact hz2
  have hlist : (ps.map fun (p : Nat × Operand) => (p.1, a.eval p.2)).toList = ps.toList.map fun p => (p.1, a.eval p.2) := by simp
  unfold partsKnown at hkn
  split at hkn
  · rename_i fs hu
    obtain ⟨c', hf, hr⟩ := fill_sound (place := ((fs.map fun f => (f.offset, P.cellsOf f.type))[·]?)) (fun _ _ _ => trivial) hz3 hv (parts_struct hu hp) hl
    have hm := mapM_fields (P := P) (w := w) fs.toList (fun f hf => by simpa using (Array.all_eq_true_iff_forall_mem.1 hkn) f (Array.mem_toList_iff.1 hf))
    have hm' : (fs.mapM fun f => do pure (f.offset, ← Go.sizeOf f.type) : Sem (Array (Nat × Nat))).run P w = .ok (fs.map fun f => (f.offset, P.cellsOf f.type)) w := by
      rw [Array.mapM_eq_mapM_toList]
      simp only [Sem.run_map, hm, Result.andThen_ok]
      congr 1
      apply Array.toList_inj.1
      simp
    refine wp_value h (u := .agg c') ?_ (by simp only [RA]; exact ⟨c', rfl, hr⟩) hk
    have hf' : Instr.fill (fun x => (fs.map fun f => (f.offset, P.cellsOf f.type))[x]?) z.cells (ps.map fun (p : Nat × Operand) => (p.1, a.eval p.2)).toList = some c' := by rw [hlist]; exact hf
    simp only [execOp, ho, Instr.build, Sem.run_bind, hzr, Result.andThen_ok, underlying, run_program, hu, Sem.run_pure, hm']
    rw [hf']
    rfl
  · rename_i n e hu
    obtain ⟨c', hf, hr⟩ := fill_sound (place := fun i => some (i * P.cellsOf e, P.cellsOf e)) (fun _ _ _ => trivial) hz3 hv (parts_array hu hp) hl
    refine wp_value h (u := .agg c') ?_ (by simp only [RA]; exact ⟨c', rfl, hr⟩) hk
    have hf' : Instr.fill (fun i => some (i * P.cellsOf e, P.cellsOf e)) z.cells (ps.map fun (p : Nat × Operand) => (p.1, a.eval p.2)).toList = some c' := by rw [hlist]; exact hf
    simp only [execOp, ho, Instr.build, Sem.run_bind, hzr, Result.andThen_ok, underlying, run_program, hu, Sem.run_pure, size_run' hkn]
    rw [hf']
    rfl
  · cases hkn

/-! ### small ones -/
theorem sound_ext (h : Rel P X σ a w φ G M) {x : Operand} {i : Nat} (ho : o.op = .extract x i) {vs : List AV} {v : AV} (hp : RA P φ G M w σ.heap (.tup vs) (a.eval x)) (hv : vs[i]? = some v)
    (hk : Cont P X σ {} v a o next) : o.wp P a w next Q := by
  simp only [RA] at hp
  obtain ⟨us, hx, hr⟩ := hp
  obtain ⟨u, hu, hra⟩ := hr.get hv
  refine wp_value h (u := u) ?_ hra hk
  have hu' : us[i]? = some u := by rw [← Array.getElem?_toList]; exact hu
  simp [execOp, ho, hx, Instr.extract, hu']

theorem sound_mv (h : Rel P X σ a w φ G M) {x : Operand} (ho : o.op = .move x ∨ o.op = .assign x) {v : AV} (hp : RA P φ G M w σ.heap v (a.eval x)) (hk : Cont P X σ {} v a o next) : o.wp P a w next Q := by
  refine wp_value h (u := a.eval x) ?_ hp hk
  rcases ho with ho | ho <;> simp [execOp, ho]

theorem sound_clo (h : Rel P X σ a w φ G M) {f : Nat} {first caps : Array Operand} (ho : o.op = .makeFunc (.func f) first caps) (h0 : first.size = 0) {vs : List AV} (hp : RAL P φ G M w σ.heap vs (caps.toList.map a.eval))
    (hk : Cont P X σ {} (.clo f vs) a o next) : o.wp P a w next Q := by
  have e : first = #[] := Array.eq_empty_of_size_eq_zero h0
  subst e
  refine wp_value h (u := .func (.func f) #[] (caps.map a.eval)) ?_ (by simp only [RA]; exact ⟨_, rfl, by simpa using hp⟩) hk
  simp [execOp, ho, Instr.makeFunc]

theorem sound_nilchk (h : Rel P X σ a w φ G M) {x : Operand} (ho : o.op = .nilCheck x) {v : AV} (hp : RA P φ G M w σ.heap v (a.eval x)) {T : Tab} {d : Nat} {H : Heap} {need : Prop} {v' : AV} {e : Eff} (hr : AM.run T d H .nilchk [v] = .ok need v' e)
    (hk : Cont P X σ e v' a o next) : o.wp P a w next Q := by
  cases v with
  | ptr k off => simp only [AM.run] at hr; cases hr; have hp' := hp; simp only [RA] at hp'; refine wp_value h (u := a.eval x) ?_ hp hk; simp [execOp, ho, hp'.1]
  | rptr k i off =>
    simp only [AM.run] at hr; cases hr; have hp' := hp; simp only [RA] at hp'
    split at hp'
    · refine wp_value h (u := a.eval x) ?_ hp hk; simp [execOp, ho, hp'.2]
    · exact hp'.elim
  | el t y off => simp only [AM.run] at hr; cases hr; have hp' := hp; simp only [RA] at hp'; obtain ⟨_, b, ob, hx, _⟩ := hp'; refine wp_value h (u := a.eval x) ?_ hp hk; simp [execOp, ho, hx]
  | clo f cs => simp only [AM.run] at hr; cases hr; have hp' := hp; simp only [RA] at hp'; obtain ⟨us, hx, _⟩ := hp'; refine wp_value h (u := a.eval x) ?_ hp hk; simp [execOp, ho, hx]
  | fv b r p => simp only [AM.run] at hr; cases hr; have hp' := hp; simp only [RA] at hp'; obtain ⟨f, caps, wd, hx, _⟩ := hp'; refine wp_value h (u := a.eval x) ?_ hp hk; simp [execOp, ho, hx]
  | _ => simp [AM.run] at hr

theorem sound_len (h : Rel P X σ a w φ G M) {c : Call} (ho : o.op = .call c) (hc : c.callee = .builtin .len) {t : TypeId} {x : Operand} (hx : c.args.toList = [x]) (ht : c.argTypes.toList = [t]) {e : TypeId} (hu : P.underlying t = some (.slice e))
    {p : AV} (hp : RA P φ G M w σ.heap p (a.eval x)) {T : Tab} {d : Nat} {H : Heap} {need : Prop} {v : AV} {ef : Eff} (hr : AM.run T d H .len [p] = .ok need v ef)
    (hk : Cont P X σ ef v a o next) : o.wp P a w next Q := by
  obtain ⟨callee, args, ats⟩ := c
  simp only at hc hx ht
  subst hc
  have ea : args = #[x] := Array.toList_inj.1 (by simpa using hx)
  have et : ats = #[t] := Array.toList_inj.1 (by simpa using ht)
  subst ea; subst et
  cases p with
  | sl ty xs f =>
    simp only [AM.run] at hr; cases hr
    simp only [RA, RT] at hp
    obtain ⟨_, _, ⟨A, cc, hx, _⟩, _⟩ := hp
    simp only [List.cons.injEq, and_true] at hx
    refine wp_value h (u := .int .i64 xs.length) ?_ (by simp only [RA]) hk
    simp [execOp, ho, resolve, invoke, builtin, Builtin.len_, underlying, hu, hx, goInt]
  | own k lo len =>
    simp only [AM.run] at hr; cases hr
    simp only [RA] at hp
    split at hp
    · obtain ⟨_, A, hx, _⟩ := hp
      refine wp_value h (u := .int .i64 len) ?_ (by simp only [RA]) hk
      simp [execOp, ho, resolve, invoke, builtin, Builtin.len_, underlying, hu, hx, goInt]
    · exact hp.elim
  | _ => simp [AM.run] at hr
theorem sound_lens (h : Rel P X σ a w φ G M) {c : Call} (ho : o.op = .call c) (hc : c.callee = .builtin .len) {t : TypeId} {x : Operand} (hx : c.args.toList = [x]) (ht : c.argTypes.toList = [t]) (hu : P.underlying t = some .string)
    {p : AV} (hp : RA P φ G M w σ.heap p (a.eval x)) {T : Tab} {d : Nat} {H : Heap} {need : Prop} {v : AV} {ef : Eff} (hr : AM.run T d H .lens [p] = .ok need v ef)
    (hk : Cont P X σ ef v a o next) : o.wp P a w next Q := by
  obtain ⟨callee, args, ats⟩ := c
  simp only at hc hx ht
  subst hc
  have ea : args = #[x] := Array.toList_inj.1 (by simpa using hx)
  have et : ats = #[t] := Array.toList_inj.1 (by simpa using ht)
  subst ea; subst et
  cases p with
  | str s =>
    simp only [AM.run] at hr; cases hr
    simp only [RA] at hp
    refine wp_value h (u := .int .i64 s.size) ?_ (by simp only [RA]) hk
    simp [execOp, ho, resolve, invoke, builtin, Builtin.len_, underlying, hu, hp, goInt]
  | _ => simp [AM.run] at hr
end
end Go.AM
