import Derived.Test.YtbcbgfkojmligaaAOps6
/- Part of an abstract machine for Go code and of its soundness, for any program of the model; no condition. -/
set_option linter.unusedVariables false
set_option linter.unusedSimpArgs false
set_option linter.unusedSimpArgs false
namespace Go.AM
open Go.RowKit
section
variable {P : Program} {TT : TyTab} {N : Nat} {rowAt : List Nat} {X : Ctx} {σ : St} {a : Act} {w : World} {φ : Nat → Loc} {G M : Nat → Prop} {o : Oper} {next : Act → World → Prop} {Q : Exit → Act → World → Prop}

theorem RT.one {t : Ty} : ∀ {x : den t} {us : List Value}, RT P t G w x us → ∀ u ∈ us, u.oneCell' = true := by
  induction t with
  | int k => intro x us h; simp only [RT] at h; subst h; simp [Value.oneCell']
  | bool => intro x us h; simp only [RT] at h; subst h; simp [Value.oneCell']
  | str => intro x us h; simp only [RT] at h; subst h; simp [Value.oneCell']
  | list t _ => intro x us h; simp only [RT] at h; obtain ⟨A, c, rfl, _⟩ := h; simp [Value.oneCell']
  | olist t _ => intro x us h; simp only [RT] at h; obtain ⟨A, c, rfl, _⟩ := h; simp [Value.oneCell']
  | unit => intro x us h; simp only [RT] at h; subst h; simp
  | pair a b iha ihb =>
    intro x us h
    simp only [RT] at h
    obtain ⟨v1, v2, rfl, h1, h2⟩ := h
    intro u hu
    exact (List.mem_append.1 hu).elim (iha h1 u) (ihb h2 u)
  | fn a r _ _ => intro x us h; simp only [RT] at h; obtain ⟨f, c, wd, rfl, _⟩ := h; simp [Value.oneCell']
  | ref t _ => intro x us h; simp only [RT] at h; obtain ⟨ad, rfl, _⟩ := h; simp [Value.oneCell']

/-- The elements of a slice, cell by cell. -/
structure Els (P : Program) (G : Nat → Prop) (w : World) (t : Ty) (xs : List (den t)) (b off : Nat) (cs : List Value) : Prop where
  len : cs.length = xs.length * size t
  cell : ∀ j u, cs[j]? = some u → w.cell? ⟨b, off + j, none⟩ = some u
  els : ∀ i, (h : i < xs.length) → RT P t G w xs[i] ((cs.drop (i * size t)).take (size t))

theorem Els.one {t : Ty} {xs : List (den t)} {b off : Nat} {cs : List Value} (hz : 0 < size t) (h : Els P G w t xs b off cs) : ∀ u ∈ cs, u.oneCell' = true := by
  intro u hu
  obtain ⟨j, hj, rfl⟩ := List.mem_iff_getElem.1 hu
  have hlt : j / size t < xs.length := by
    rw [Nat.div_lt_iff_lt_mul hz, ← h.len]; exact hj
  refine RT.one (h.els (j / size t) hlt) _ ?_
  refine List.mem_iff_getElem.2 ⟨j % size t, ?_, ?_⟩
  · simp only [List.length_take, List.length_drop]
    have h1 := Nat.mod_lt j hz
    have h2 := Nat.div_add_mod j (size t)
    rw [Nat.mul_comm] at h2
    omega
  · simp only [List.getElem_take, List.getElem_drop]
    congr 1
    have h2 := Nat.div_add_mod j (size t)
    rw [Nat.mul_comm] at h2
    exact h2

theorem slOf_els {H : Heap} (hH : RelH P φ G M w H) {t : Ty} {v : AV} {u : Value} {ys : List (den t)} (hv : RA P φ G M w H v u) (h : slOf H t v = some ys) :
    plain t = true ∧ 0 < size t ∧ ∃ A c, u = .slice A ys.length c ∧ (ys = [] ∨ ∃ b off cs, A = some ⟨b, off, none⟩ ∧ Els P G w t ys b off cs) := by
  have hH' := hH
  obtain ⟨hp, hz, hrt⟩ := slOf_sound (G1 := fun b => b < w.heap.size) hH hH.bnd (.inl hH.mnd) hv h
  refine ⟨hp, hz, ?_⟩
  -- the cells as they lie
  have mk : ∀ (b off : Nat), (∀ i, (hi : i < ys.length) → ∃ cs, cs.length = size t ∧ RT P t G w ys[i] cs ∧ ∀ j u, cs[j]? = some u → w.cell? ⟨b, off + (i * size t + j), none⟩ = some u) →
      Els P G w t ys b off ((List.range (ys.length * size t)).map fun j => (w.cell? ⟨b, off + j, none⟩).getD undef) := by
    intro b off hc
    refine ⟨by simp, fun j u hu => ?_, fun i hi => ?_⟩
    · have hj : j < ys.length * size t := by have := (List.getElem?_eq_some_iff.1 hu).1; simpa using this
      have hlt : j / size t < ys.length := by rw [Nat.div_lt_iff_lt_mul hz]; exact hj
      obtain ⟨cs, h1, h2, h3⟩ := hc _ hlt
      have hm := Nat.mod_lt j hz
      have hd := Nat.div_add_mod j (size t)
      rw [Nat.mul_comm] at hd
      have h4 := h3 (j % size t) cs[j % size t] (List.getElem?_eq_getElem (by omega))
      rw [hd] at h4
      simp only [List.getElem?_map, List.getElem?_range hj, Option.map_some, h4, Option.getD_some, Option.some.injEq] at hu
      rw [h4, hu]
    · obtain ⟨cs, h1, h2, h3⟩ := hc i hi
      have : (((List.range (ys.length * size t)).map fun j => (w.cell? ⟨b, off + j, none⟩).getD undef).drop (i * size t)).take (size t) = cs := by
        apply List.ext_getElem?
        intro j
        rw [List.getElem?_take]
        have hmul : (i + 1) * size t ≤ ys.length * size t := Nat.mul_le_mul_right _ hi
        rw [Nat.add_mul] at hmul
        split
        · rename_i hj
          have h4 := h3 j cs[j] (List.getElem?_eq_getElem (by omega))
          rw [List.getElem?_drop, List.getElem?_map, List.getElem?_range (by omega)]
          simp only [Option.map_some, h4, Option.getD_some]
          exact (List.getElem?_eq_getElem (by omega)).symm
        · rw [List.getElem?_eq_none (by omega)]
      rw [this]; exact h2
  cases v with
  | sl t' xs full =>
    simp only [slOf] at h
    obtain ⟨rfl, rfl⟩ := castL?_eq h
    simp only [RA, RT] at hv
    obtain ⟨_, _, ⟨A, c, hu, _, hne⟩, _⟩ := hv
    simp only [List.cons.injEq, and_true] at hu
    refine ⟨A, c, hu, hne.imp id ?_⟩
    rintro ⟨ad, rfl, hs, _, hc⟩
    obtain ⟨b, off, sp⟩ := ad
    simp only at hs hc
    subst hs
    exact ⟨b, off, _, rfl, mk b off hc⟩
  | own k lo len =>
    simp only [slOf] at h
    split at h
    · rename_i t' xs f hk
      obtain ⟨rfl, rfl⟩ := castL?_eq h
      simp only [RA, hk] at hv
      obtain ⟨hlen, A, rfl, hcap, hA⟩ := hv
      have ho := hH.obj k _ hk
      simp only [RObj] at ho
      obtain ⟨⟨_, _, hrow⟩, _⟩ := ho
      have hl : ((xs.drop lo).take len).length = len := by simp; omega
      refine ⟨A, _, by rw [hl], ?_⟩
      rcases Nat.eq_zero_or_pos len with h0 | h0
      · left; subst h0; simp
      · right
        rcases hrow with ⟨hc0, rfl⟩ | ⟨c, e, hc, _, hblk, hfit, hle, hcells⟩
        · simp at hlen; omega
        · have hA' := hA.resolve_left (by omega)
          refine ⟨_, _, _, hA', mk (φ k).blk ((φ k).base + lo * size t') fun i hi => ?_⟩
          rw [hl] at hi
          refine ⟨_, (hcells (lo + i) (by omega)).len, by simpa [List.getElem_take, List.getElem_drop] using hcells (lo + i) (by omega), fun j u hu => ?_⟩
          have hj : j < size t' := by
            have := (List.getElem?_eq_some_iff.1 hu).1
            simp at this
            omega
          rw [List.getElem?_take_of_lt hj, List.getElem?_drop] at hu
          simp only [World.cell?, hblk, Option.isSome_none, Bool.false_eq_true, if_false]
          rw [← Array.getElem?_toList, ← hu]
          congr 1
          rw [Nat.add_mul]; omega
    · cases h
  | _ => simp [slOf] at h

theorem els_cell {t : Ty} {ys : List (den t)} {b off : Nat} {cs : List Value} (h : Els P G w t ys b off cs) : ∀ j u, cs[j]? = some u → w.cell? ((⟨b, off, none⟩ : Addr).add j) = some u := by
  intro j u hu; rw [addr_add]; exact h.cell j u hu

/-- Two rows of elements, one behind the other, as they lie in a new block. -/
theorem els_join {t : Ty} {xs ys : List (den t)} {c1 c2 rest : List Value} (h1 : c1.length = xs.length * size t) (e1 : ∀ i, (h : i < xs.length) → RT P t G w xs[i] ((c1.drop (i * size t)).take (size t)))
    (e2 : ∀ i, (h : i < ys.length) → RT P t G w ys[i] ((c2.drop (i * size t)).take (size t))) (h2 : c2.length = ys.length * size t) :
    ∀ i, (h : i < (xs ++ ys).length) → RT P t G w (xs ++ ys)[i] (((c1 ++ c2 ++ rest).drop (i * size t)).take (size t)) := by
  intro i hi
  have hmul : ∀ n m : Nat, n < m → n * size t + size t ≤ m * size t := fun n m hnm => by
    have := Nat.mul_le_mul_right (size t) (show n + 1 ≤ m from hnm); rw [Nat.add_mul] at this; omega
  by_cases hx : i < xs.length
  · have := hmul _ _ hx
    rw [List.getElem_append_left hx, List.append_assoc, List.drop_append_of_le_length (by omega), List.take_append_of_le_length (by simp; omega)]
    exact e1 i hx
  · have hy : i - xs.length < ys.length := by simp at hi; omega
    have := hmul _ _ hy
    rw [List.getElem_append_right (by omega)]
    have hsub : i * size t - c1.length = (i - xs.length) * size t := by rw [h1, Nat.sub_mul]
    have hle : c1.length ≤ i * size t := by rw [h1]; exact Nat.mul_le_mul_right _ (by omega)
    rw [List.append_assoc, List.drop_append, List.drop_of_length_le (l := c1) hle, List.nil_append, hsub, List.drop_append_of_le_length (by omega), List.take_append_of_le_length (by simp; omega)]
    exact e2 _ hy

structure AppFacts (P : Program) (t e : TypeId) (S bytes : Nat) : Prop where
  hu : P.underlying t = some (.slice e)
  hS : P.cellsOf e = S
  hb : P.bytesOf e = bytes
  h0 : 0 < S
  hz : hasZero P e = true
  zl : (zeroOf P e).length = S

theorem AppFacts.info {t e : TypeId} {S bytes : Nat} (F : AppFacts P t e S bytes) : ∃ i z, P.info? e = some i ∧ i.zero = some z ∧ i.size = S ∧ i.bytes = bytes ∧ z.cells.size = S := by
  have hz := F.hz
  have zl := F.zl
  have hS := F.hS
  have hb := F.hb
  unfold hasZero at hz
  unfold zeroOf at zl
  unfold Program.cellsOf at hS
  unfold Program.bytesOf at hb
  cases hi : P.info? e with
  | none => simp [hi] at hz
  | some i =>
    simp only [hi] at hz zl
    cases hzz : i.zero with
    | none => simp [hzz] at hz
    | some z =>
      simp only [hzz] at zl
      exact ⟨i, z, rfl, hzz, by simpa [hi] using hS, by simpa [hi] using hb, by simpa using zl⟩

theorem app_exec {c : Call} (ho : o.op = .call c) (hc : c.callee = .builtin .append) {t : TypeId} {x y : Operand} (hx : c.args.toList = [x, y]) (ht : c.argTypes.toList = [t, t]) {v : Value} {w' : World}
    (hr : (Builtin.append_ #[t, t] o.type #[a.eval x, a.eval y]).run P w = .ok v w') : (execOp a.eval o).run P w = .ok (.value v) w' := by
  obtain ⟨callee, args, ats⟩ := c
  simp only at hc hx ht
  subst hc
  have ea : args = #[x, y] := Array.toList_inj.1 (by simpa using hx)
  have et : ats = #[t, t] := Array.toList_inj.1 (by simpa using ht)
  subst ea; subst et
  simp [execOp, ho, resolve, invoke, builtin, hr]

/-- It grows: a new block. -/
theorem append_grows {t e ty : TypeId} {S bytes : Nat} (F : AppFacts P t e S bytes) {s : Ty} (hs : size s = S) {xs ys : List (den s)} {A : Option Addr} {cap c b2 off2 : Nat} {c2 : List Value} (hA : xs ≠ [] → ∃ b off, A = some ⟨b, off, none⟩ ∧ ∃ c1, Els P G w s xs b off c1)
    (hcap : cap < xs.length + ys.length) (hnil : A = none → cap = 0) (h2 : Els P G w s ys b2 off2 c2) (hy : ys ≠ []) (hl : xs.length + ys.length ≤ 140737488355328) (hb : (xs.length + ys.length) * bytes ≤ 140737488355328) :
    ∃ w' cells cap', (Builtin.append_ #[t, t] ty #[.slice A xs.length cap, .slice (some ⟨b2, off2, none⟩) ys.length c]).run P w = .ok (.slice (some ⟨w.heap.size, 0, none⟩) (xs.length + ys.length) cap') w' ∧
      NewB w w' (.cells cells e) ∧ cap' ≤ 9223372036854775807 ∧ cap' * S ≤ cells.size ∧ (xs ++ ys).length ≤ cap' ∧ ∀ i, (hi : i < (xs ++ ys).length) → RT P s G w (xs ++ ys)[i] ((cells.toList.drop (i * size s)).take (size s)) := by
  obtain ⟨i, z, hi, hz, hsz, hby, hzc⟩ := F.info
  have hyl : 0 < ys.length := List.length_pos_iff.2 hy
  have hc2 : c2.length = ys.length * i.size := by rw [h2.len, hs, hsz]
  have hge := grownCap_ge w (xs.length + ys.length) cap e
  have hgm := grownCap_le_maxLen w (xs.length + ys.length) cap e (by simp only [maxLen]; omega)
  have grow : ∀ (b off : Nat) (c1 : List Value), A = some ⟨b, off, none⟩ → c1.length = xs.length * S → (∀ j u, c1[j]? = some u → w.cell? ⟨b, off + j, none⟩ = some u) → (∀ i, (h : i < xs.length) → RT P s G w xs[i] ((c1.drop (i * size s)).take (size s))) →
      ∃ w' cells cap', (Builtin.append_ #[t, t] ty #[.slice A xs.length cap, .slice (some ⟨b2, off2, none⟩) ys.length c]).run P w = .ok (.slice (some ⟨w.heap.size, 0, none⟩) (xs.length + ys.length) cap') w' ∧
        NewB w w' (.cells cells e) ∧ cap' ≤ 9223372036854775807 ∧ cap' * S ≤ cells.size ∧ (xs ++ ys).length ≤ cap' ∧ ∀ i, (hi : i < (xs ++ ys).length) → RT P s G w (xs ++ ys)[i] ((cells.toList.drop (i * size s)).take (size s)) := by
    intro b off c1 hA hl1 hcell hels
    subst hA
    have hrun := run_append_grow (P := P) w t ty e i z F.hu hi hz ⟨b, off, none⟩ xs.length cap c1 (by rw [hl1, hsz]) (fun j u hu => by rw [addr_add]; exact hcell j u hu) ⟨b2, off2, none⟩ ys.length c c2 hc2 (els_cell h2) hcap (by omega) (by rw [hby]; exact growslice_fits hcap hb)
    refine ⟨_, _, _, hrun, (NewB.alloc w.drew _).drew, by simpa [maxLen] using hgm, ?_, by simpa using hge, ?_⟩
    · simp only [Array.size_append, List.size_toArray, size_zeroCells, hzc, hl1, hc2, hsz]
      obtain ⟨k, hk⟩ := Nat.exists_eq_add_of_le hge
      rw [hk, Nat.add_sub_cancel_left, Nat.add_mul, Nat.add_mul]
      omega
    · intro j hj
      simp only [Array.toList_append]
      exact els_join (by rw [hl1, hs]) hels h2.els h2.len j hj
  by_cases hx : xs = []
  · subst hx
    cases A with
    | none =>
      have hc0 := hnil rfl
      subst hc0
      have hrun := run_append_nil (P := P) w t ty e i z F.hu hi hz ⟨b2, off2, none⟩ ys.length c c2 hc2 (els_cell h2) hyl (by omega) (by simp at hb; rw [hby]; omega)
      have hge' := grownCap_ge w ys.length 0 e
      have hgm' := grownCap_le_maxLen w ys.length 0 e (by simp only [maxLen]; simp at hl; omega)
      refine ⟨_, _, _, by simpa using hrun, (NewB.alloc w.drew _).drew, by simpa [maxLen] using hgm', ?_, by simpa using hge', ?_⟩
      · simp only [Array.size_append, List.size_toArray, size_zeroCells, hzc, hc2, hsz]
        obtain ⟨k, hk⟩ := Nat.exists_eq_add_of_le hge'
        rw [hk, Nat.add_sub_cancel_left, Nat.add_mul]
        omega
      · intro j hj
        simp only [Array.toList_append]
        have := els_join (P := P) (G := G) (w := w) (xs := ([] : List (den s))) (ys := ys) (c1 := []) (c2 := c2) (rest := (Builtin.zeroCells z.cells (grownCap w ys.length 0 e - ys.length)).toList) (by simp) (fun i h => by simp at h) h2.els h2.len j hj
        simpa using this
    | some ad =>
      by_cases hsp : ad.spot = none
      · obtain ⟨b, off, sp⟩ := ad
        simp only at hsp
        subst hsp
        exact grow b off [] rfl (by simp) (fun j u hu => by simp at hu) (fun i h => by simp at h)
      · -- an address with a spot: no cells are asked of it
        have hrun := run_append_grow (P := P) w t ty e i z F.hu hi hz ad 0 cap [] (by simp) (fun j u hu => by simp at hu) ⟨b2, off2, none⟩ ys.length c c2 hc2 (els_cell h2) (by simpa using hcap) (by omega) (by rw [hby]; exact growslice_fits (by simpa using hcap) (by simpa using hb))
        simp only [List.length_nil, Nat.zero_add] at hge hgm hrun
        refine ⟨_, _, _, by simpa using hrun, (NewB.alloc w.drew _).drew, by simpa [maxLen] using hgm, ?_, by simpa using hge, ?_⟩
        · simp only [Array.size_append, List.size_toArray, size_zeroCells, hzc, hc2, hsz, List.length_nil]
          obtain ⟨k, hk⟩ := Nat.exists_eq_add_of_le hge
          rw [hk, Nat.add_sub_cancel_left, Nat.add_mul]
          omega
        · intro j hj
          simp only [Array.toList_append]
          have := els_join (P := P) (G := G) (w := w) (xs := ([] : List (den s))) (ys := ys) (c1 := []) (c2 := c2) (rest := (Builtin.zeroCells z.cells (grownCap w ys.length cap e - ys.length)).toList) (by simp) (fun i h => by simp at h) h2.els h2.len j hj
          simpa using this
  · obtain ⟨b, off, hAe, c1, h1⟩ := hA hx
    exact grow b off c1 hAe (by rw [h1.len, hs]) h1.cell h1.els
end
end Go.AM
