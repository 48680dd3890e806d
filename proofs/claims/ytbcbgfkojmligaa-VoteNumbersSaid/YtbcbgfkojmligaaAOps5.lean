import Derived.Test.YtbcbgfkojmligaaAOps4
/- Part of an abstract machine for Go code and of its soundness, for any program of the model; no condition. -/
set_option linter.unusedVariables false
set_option linter.unusedSimpArgs false
namespace Go.AM
open Go.RowKit
section
variable {P : Program} {TT : TyTab} {N : Nat} {rowAt : List Nat} {X : Ctx} {σ : St} {a : Act} {w : World} {φ : Nat → Loc} {G M : Nat → Prop} {o : Oper} {next : Act → World → Prop} {Q : Exit → Act → World → Prop}

/-- A value's cells are its data's. -/
theorem RV.cells {t : Ty} {x : den t} {u : Value} (h : RV P t G w x u) : RT P t G w x u.cells.toList := by
  unfold RV at h
  cases t with
  | unit => simp only [isSt, if_true] at h; obtain ⟨cs, rfl, h⟩ := h; exact h
  | pair a b => simp only [isSt, if_true] at h; obtain ⟨cs, rfl, h⟩ := h; exact h
  | int k => simp only [isSt, Bool.false_eq_true, if_false] at h; have h' := h; simp only [RT, List.cons.injEq, and_true] at h'; subst h'; exact h
  | bool => simp only [isSt, Bool.false_eq_true, if_false] at h; have h' := h; simp only [RT, List.cons.injEq, and_true] at h'; subst h'; exact h
  | str => simp only [isSt, Bool.false_eq_true, if_false] at h; have h' := h; simp only [RT, List.cons.injEq, and_true] at h'; subst h'; exact h
  | list t => simp only [isSt, Bool.false_eq_true, if_false] at h; have h' := h; simp only [RT, List.cons.injEq, and_true] at h'; obtain ⟨A, c, rfl, _⟩ := h'; exact h
  | olist t => simp only [isSt, Bool.false_eq_true, if_false] at h; have h' := h; simp only [RT, List.cons.injEq, and_true] at h'; obtain ⟨A, c, rfl, _⟩ := h'; exact h
  | fn b r => simp only [isSt, Bool.false_eq_true, if_false] at h; have h' := h; simp only [RT, List.cons.injEq, and_true] at h'; obtain ⟨f, c, wd, rfl, _⟩ := h'; exact h
  | ref t => simp only [isSt, Bool.false_eq_true, if_false] at h; have h' := h; simp only [RT, List.cons.injEq, and_true] at h'; obtain ⟨ad, rfl, _⟩ := h'; exact h

theorem fill_order {S : Nat} : ∀ {us : List Value} {j : Nat} {c : Array Value} {ps : List (Nat × Value)}, ps = (us.zipIdx j).map (fun p => (p.2, p.1)) → (∀ u ∈ us, u.cells.size = S) → (j + us.length) * S ≤ c.size →
    ∃ c', Instr.fill (fun i => some (i * S, S)) c ps = some c' ∧ c'.toList = c.toList.take (j * S) ++ us.flatMap (fun u => u.cells.toList) ++ c.toList.drop ((j + us.length) * S) := by
  intro us
  induction us with
  | nil => intro j c ps hp _ hf; subst hp; exact ⟨c, rfl, by simp⟩
  | cons u us ih =>
    intro j c ps hp hu hf
    subst hp
    simp only [List.zipIdx_cons, List.map_cons]
    have hus := hu u (by simp)
    have hj : j * S + S ≤ c.size := by
      have : (j + 1) * S ≤ (j + (u :: us).length) * S := Nat.mul_le_mul_right _ (by simp)
      rw [Nat.add_mul] at this
      omega
    rw [fill_cons rfl hus hj]
    have hsz : (c.toList.take (j * S) ++ u.cells.toList ++ c.toList.drop (j * S + S)).toArray.size = c.size := by
      simp [hus]; omega
    obtain ⟨c', h1, h2⟩ := ih (j := j + 1) (c := (c.toList.take (j * S) ++ u.cells.toList ++ c.toList.drop (j * S + S)).toArray) rfl (fun x hx => hu x (by simp [hx])) (by rw [hsz]; simpa [Nat.add_assoc, Nat.add_comm 1] using hf)
    refine ⟨c', h1, ?_⟩
    rw [h2]
    have e1 : (c.toList.take (j * S) ++ u.cells.toList ++ c.toList.drop (j * S + S)).take ((j + 1) * S) = c.toList.take (j * S) ++ u.cells.toList := by
      rw [List.take_append_of_le_length (by simp [hus, Nat.add_mul]; omega)]
      rw [List.take_of_length_le (by simp [hus, Nat.add_mul]; omega)]
    have e2 : (c.toList.take (j * S) ++ u.cells.toList ++ c.toList.drop (j * S + S)).drop ((j + 1 + us.length) * S) = c.toList.drop ((j + (us.length + 1)) * S) := by
      have hl : (c.toList.take (j * S) ++ u.cells.toList).length = j * S + S := by simp [hus]; omega
      have hmul : (j + 1 + us.length) * S = j * S + S + us.length * S := by rw [Nat.add_mul, Nat.add_mul, Nat.one_mul]
      rw [List.drop_append, hl, hmul, List.drop_of_length_le (by omega), List.nil_append, List.drop_drop]
      congr 1
      rw [Nat.add_mul, Nat.add_mul, Nat.one_mul]; omega
    have e0 : ∀ l : List Value, l.toArray.toList = l := fun _ => rfl
    rw [e0, e1, e2]
    simp only [List.flatMap_cons, List.append_assoc, List.length_cons]

/-- A part of a concatenation. -/
theorem part_flat {S : Nat} : ∀ {us : List Value} {i : Nat}, (∀ u ∈ us, u.cells.size = S) → (h : i < us.length) → ((us.flatMap fun u => u.cells.toList).drop (i * S)).take S = (us[i]).cells.toList := by
  intro us
  induction us with
  | nil => intro i _ h; simp at h
  | cons u us ih =>
    intro i hu h
    have hus := hu u (by simp)
    cases i with
    | zero =>
      simp only [Nat.zero_mul, List.drop_zero, List.flatMap_cons, List.getElem_cons_zero]
      rw [List.take_append_of_le_length (by simp [hus]), List.take_of_length_le (by simp [hus])]
    | succ i =>
      simp only [List.flatMap_cons, List.getElem_cons_succ]
      rw [List.drop_append, show (i + 1) * S = S + i * S by rw [Nat.add_mul]; omega, List.drop_of_length_le (by simp [hus]), List.nil_append]
      rw [show S + i * S - u.cells.toList.length = i * S by simp [hus]]
      exact ih (fun x hx => hu x (by simp [hx])) (by simpa using h)

theorem dataAll_sound {H : Heap} (hH : RelH P φ G M w H) {t : Ty} (hn : noRef t = true) : ∀ {vs : List AV} {us : List Value} {xs : List (den t)}, Frozen H (vs.flatMap fun v => keysC (cellsOf v)) → RAL P φ G M w H vs us → dataAll H t vs = some xs →
    xs.length = us.length ∧ ∀ i, (h1 : i < xs.length) → (h2 : i < us.length) → RT P t G w xs[i] (us[i]).cells.toList := by
  intro vs
  induction vs with
  | nil => intro us xs _ hr h; simp only [RAL] at hr; subst hr; simp only [dataAll] at h; cases h; exact ⟨rfl, fun i h1 => by simp at h1⟩
  | cons v vs ih =>
    intro us xs hf hr h
    simp only [RAL] at hr
    obtain ⟨u, us', rfl, hu, hr⟩ := hr
    simp only [dataAll] at h
    split at h
    · rename_i x hx
      split at h
      · rename_i ys hys
        cases h
        obtain ⟨h1, h2⟩ := ih (fun k hk => hf k (by rw [List.flatMap_cons]; exact List.mem_append_right _ hk)) hr hys
        refine ⟨by simp [h1], fun i hi1 hi2 => ?_⟩
        cases i with
        | zero => exact (toV_sound hH (fun _ h => h) (.inr ⟨hn, fun k hk => hf k (by rw [List.flatMap_cons]; exact List.mem_append_left _ hk)⟩) hu hx).cells
        | succ i => exact h2 i (by simpa using hi1) (by simpa using hi2)
      · cases h
    · cases h

theorem inOrder_zip : ∀ {ps : List (Nat × Operand)} {j : Nat} (f : Operand → Value), inOrder j ps = true → ps.map (fun p => (p.1, f p.2)) = ((ps.map fun p => f p.2).zipIdx j).map fun p => (p.2, p.1) := by
  intro ps
  induction ps with
  | nil => intro j f _; rfl
  | cons p ps ih =>
    intro j f h
    obtain ⟨i, x⟩ := p
    simp only [inOrder, Bool.and_eq_true, beq_iff_eq] at h
    obtain ⟨rfl, h⟩ := h
    simp only [List.map_cons, List.zipIdx_cons, ih f h]

theorem keysV_sub (H : Heap) (v : AV) : ∀ k ∈ keysC (cellsOf v), k ∈ keysV H v := by
  intro k hk
  cases v with
  | agg cs => exact hk
  | own k' lo len => simpa [keysC, keysV, keys1, cellsOf] using hk
  | _ => simp [keysC, cellsOf, keys1] at hk

theorem flatKeys_sub (H : Heap) (vs : List AV) : ∀ k ∈ (vs.flatMap fun v => keysC (cellsOf v)), k ∈ vs.flatMap (keysV H) := by
  intro k hk
  obtain ⟨v, hv, hk⟩ := List.mem_flatMap.1 hk
  exact List.mem_flatMap.2 ⟨v, hv, keysV_sub H v k hk⟩

theorem Frozen.sub {H : Heap} {ks ks' : List Nat} (h : Frozen H ks) (hs : ∀ k ∈ ks', k ∈ ks) : Frozen H ks' := fun k hk => h k (hs k hk)

theorem dataAll_same {H H' : Heap} (h : HS H H') (t : Ty) : ∀ vs : List AV, dataAll H' t vs = dataAll H t vs := by
  intro vs
  induction vs with
  | nil => rfl
  | cons v vs ih => simp only [dataAll, toV_same h, ih]

/-- the frame of a literal's values, behind the freeze -/
theorem frz_vals (h : Rel P X σ a w φ G M) (ks : List Nat) {os : List Opd} {us : List Value} (hv : ∀ {σ' : St} {G' M' : Nat → Prop}, σ'.env = σ.env → Rel P X σ' a w φ G' M' → RAL P φ G' M' w σ'.heap (vals σ'.env os) us) (hs : sureL (vals σ.env os)) :
    ∃ G' M', (∀ b, G b → G' b) ∧ Rel P X ⟨σ.env, frzH σ.heap ks⟩ a w φ G' M' ∧ RAL P φ G' M' w (frzH σ.heap ks) (bareL (vals σ.env os)) us := by
  obtain ⟨G', M', hg, h'⟩ := h.frz ks
  exact ⟨G', M', hg, h', bareL_sound hs (hv (σ' := ⟨σ.env, frzH σ.heap ks⟩) rfl h')⟩

theorem sound_bslice (h : Rel P X σ a w φ G M) {t e : TypeId} {n : Nat} {ps : Array (Nat × Operand)} (ho : o.op = .buildSlice t n ps) (hu : P.underlying t = some (.slice e)) {ty : Ty} (hpl : plain ty = true) (hnr : noRef ty = true)
    (hin : inOrder 0 ps.toList = true) (hsz : ps.size = n) (hc : P.cellsOf e = size ty) (h24 : n * size ty ≤ 16777216) (h0 : 0 < size ty) (hz : hasZero P e = true) {os : List Opd}
    (hos : compArgs P TT N (List.replicate n e) (ps.toList.map (·.2)) = some os) (hs : sureL (vals σ.env os)) {xs : List (den ty)} (hd : dataAll σ.heap ty (bareL (vals σ.env os)) = some xs) (hl : (bareL (vals σ.env os)).length = n)
    (hk : Cont P X σ { frz := (bareL (vals σ.env os)).flatMap (keysV σ.heap) } (.sl ty xs true) a o next) : o.wp P a w next Q := by
  obtain ⟨G', M', hg, h', hr⟩ := frz_vals h ((bareL (vals σ.env os)).flatMap (keysV σ.heap)) (os := os) (us := (ps.toList.map (·.2)).map a.eval) (fun he hR => by
    have := args_sound hR hos
    exact this) hs
  have hd' := hd
  rw [← dataAll_same (HS.frz ((bareL (vals σ.env os)).flatMap (keysV σ.heap)) σ.heap)] at hd'
  obtain ⟨hlen, hdat⟩ := dataAll_sound h'.heap hnr ((frzH_frozen ((bareL (vals σ.env os)).flatMap (keysV σ.heap)) σ.heap).sub (flatKeys_sub σ.heap _)) hr hd'
  have hxn : xs.length = n := by rw [hlen, hr.len, hl]
  generalize hus : (ps.toList.map (·.2)).map a.eval = us at *
  have hun : us.length = n := by rw [← hlen, hxn]
  have hcs : ∀ u ∈ us, u.cells.size = size ty := by
    intro u hu
    obtain ⟨i, hi, rfl⟩ := List.mem_iff_getElem.1 hu
    have := (hdat i (by omega) hi).len
    simpa using this
  obtain ⟨z, hzr, hzc⟩ := zero_run (P := P) (w := w) hz
  let c0 : Array Value := (Array.range (n * size ty)).map ((if n * size ty = 0 then #[] else z.cells)[· % (if n * size ty = 0 then #[] else z.cells).size]!)
  have hps : (ps.map fun (p : Nat × Operand) => (p.1, a.eval p.2)).toList = (us.zipIdx 0).map fun p => (p.2, p.1) := by
    rw [Array.toList_map, inOrder_zip a.eval hin, ← hus]
    simp [List.map_map, Function.comp_def]
  obtain ⟨c', hf, hc'⟩ := fill_order (S := size ty) (c := c0) (ps := (ps.map fun (p : Nat × Operand) => (p.1, a.eval p.2)).toList) hps hcs (by simp [c0, hun])
  have hc'' : c'.toList = us.flatMap fun u => u.cells.toList := by
    rw [hc']
    simp only [Nat.zero_mul, List.take_zero, List.nil_append, Nat.zero_add]
    rw [List.drop_of_length_le (by simp [c0, hun]), List.append_nil]
  obtain ⟨w', hrun, hn⟩ := newB_run (P := P) (w := w) (cells := c') (t := e)
  have hsr : (Go.sizeOf e).run P w = .ok (size ty) w := by rw [← hc]; exact size_run (by omega)
  have hex : (execOp a.eval o).run P w = .ok (.value (.slice (some ⟨w.heap.size, 0, none⟩) n n)) w' := by
    have hng : ¬ (16777216 < n * size ty) := by omega
    simp only [execOp, ho, Instr.buildSlice, Sem.run_bind, underlying, run_program, Result.andThen_ok, hu, Sem.run_pure, hsr]
    rw [if_neg (by simpa using hng)]
    by_cases h00 : n * size ty = 0
    · have hf0 := hf
      simp only [c0, h00, if_true] at hf0
      simp only [h00, if_true, Sem.run_pure, Result.andThen_ok, Sem.run_bind]
      rw [hf0]
      simp only [Sem.run_bind, hrun, Result.andThen_ok, Sem.run_pure]
    · have hf0 := hf
      simp only [c0, h00, if_false] at hf0
      simp only [h00, if_false, Sem.run_bind, hzr, Sem.run_pure, Result.andThen_ok]
      rw [hf0]
      simp only [Sem.run_bind, hrun, Result.andThen_ok, Sem.run_pure]
  unfold Oper.wp
  rw [hex]
  have hR := h'.ro hn
  refine hk w' _ φ _ M' hR ?_
  simp only [RA]
  refine ⟨hpl, h0, ?_, fun _ => ⟨_, by rw [hxn]⟩⟩
  simp only [RT]
  refine ⟨_, n, by rw [hxn], by omega, ?_⟩
  right
  refine ⟨⟨w.heap.size, 0, none⟩, rfl, rfl, .inr rfl, fun i hi => ?_⟩
  have hiu : i < us.length := by omega
  refine ⟨(us[i]).cells.toList, (hdat i hi hiu).len, (hdat i hi hiu).mono hpl (fun b hb => .inl hb) (fun b hb => hn.old b (h'.heap.bnd b hb)), fun j u hj => ?_⟩
  have hjS : j < size ty := by have := (List.getElem?_eq_some_iff.1 hj).1; have h2 := (hdat i hi hiu).len; omega
  rw [← part_flat hcs hiu, List.getElem?_take_of_lt hjS, List.getElem?_drop, ← hc''] at hj
  simp only [World.cell?, hn.new, Option.isSome_none, Bool.false_eq_true, if_false, Nat.zero_add]
  rw [← Array.getElem?_toList]
  exact hj
end
end Go.AM
