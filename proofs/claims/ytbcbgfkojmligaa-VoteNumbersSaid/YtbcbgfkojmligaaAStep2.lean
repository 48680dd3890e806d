import Derived.Test.YtbcbgfkojmligaaAStep
/- Part of an abstract machine for Go code and of its soundness, for any program of the model; no condition. -/
set_option linter.unusedVariables false
set_option linter.unusedSimpArgs false
namespace Go.AM
open Go.RowKit
section
variable {P : Program} {X : Ctx} {σ : St} {a : Act} {w : World} {φ : Nat → Loc} {G M : Nat → Prop}

/-- one block has turned, nothing else -/
structure OneB (w w' : World) (b : Nat) : Prop where
  os : w'.os = w.os
  tape : w'.tape = w.tape
  output : w'.output = w.output
  old : ∀ k, k ≠ b → w'.heap[k]? = w.heap[k]?
  size : w'.heap.size = w.heap.size

theorem OneB.setRow (w : World) (g : Nat) (cs : Array Value) : OneB w (w.setRow g cs) g :=
  ⟨rfl, rfl, rfl, fun k hk => setRow_other w g k cs hk, by simp [World.setRow]⟩
theorem OneB.refl (w : World) (b : Nat) : OneB w w b := ⟨rfl, rfl, rfl, fun _ _ => rfl, rfl⟩

/-- An object of one's own is written. -/
theorem Rel.wr {w' : World} (h : Rel P X σ a w φ G M) {k : Nat} {o : Obj} (hk : hget σ.heap k = some o) (ha : alloc φ k o) (hM : M (φ k).blk) (hw : OneB w w' (φ k).blk)
    (o' : Obj) (hs : shape o o') (ho : Ext φ φ G G M M w w' σ.heap (hput σ.heap k o') → RObj P φ G M w' (hput σ.heap k o') k o') :
    Rel P X ⟨σ.env, hput σ.heap k o'⟩ a w' φ G M := by
  have E : Ext φ φ G G M M w w' σ.heap (hput σ.heap k o') :=
    { g := fun b hb => hb
      ag := fun b hb => hw.old b (fun e => h.heap.sep b hb (e ▸ hM))
      keep := fun b hb hm => hw.old b (fun e => hm (e ▸ hM))
      keys := fun j p hj => by
        refine ⟨rfl, ?_⟩
        by_cases e : j = k
        · subst e
          rw [hk] at hj; cases hj
          exact ⟨_, hget_hput_self _ _ _, hs⟩
        · exact ⟨p, by rw [hget_hput_ne _ _ _ _ e]; exact hj, by cases p <;> simp [shape]⟩
      mt := fun b hb hm => hm
      size := by rw [hw.size]; omega }
  have al : alloc φ k o' → alloc φ k o := fun _ => ha
  refine h.step E ⟨fun j p hj => ?_, fun j j' o1 o2 hj hj' hne ha1 ha2 => ?_, fun b hb => by rw [hw.size]; exact h.heap.bnd b hb, fun b hb => by rw [hw.size]; exact h.heap.mnd b hb, h.heap.sep⟩ hw.os hw.tape hw.output (fun b hb _ => .inl hb)
  · by_cases e : j = k
    · subst e
      rw [hget_hput_self] at hj
      cases hj
      exact ho E
    · rw [hget_hput_ne _ _ _ _ e] at hj
      exact (h.heap.obj j p hj).mono E rfl (fun hp => hw.old _ (h.heap.inj j k p o hj hk e hp ha)) id
  · have f1 : ∃ p, hget σ.heap j = some p ∧ alloc φ j p := by
      by_cases e : j = k
      · subst e; exact ⟨o, hk, ha⟩
      · rw [hget_hput_ne _ _ _ _ e] at hj; exact ⟨_, hj, ha1⟩
    have f2 : ∃ p, hget σ.heap j' = some p ∧ alloc φ j' p := by
      by_cases e : j' = k
      · subst e; exact ⟨o, hk, ha⟩
      · rw [hget_hput_ne _ _ _ _ e] at hj'; exact ⟨_, hj', ha2⟩
    obtain ⟨p1, q1, r1⟩ := f1
    obtain ⟨p2, q2, r2⟩ := f2
    exact h.heap.inj j j' p1 p2 q1 q2 hne r1 r2

/-- A new object in a block that is no object's any more. -/
theorem Rel.newAt {w' : World} (h : Rel P X σ a w φ G M) (b0 : Nat) (hM : M b0) (hno : ∀ k o, hget σ.heap k = some o → alloc φ k o → (φ k).blk ≠ b0) (hw : OneB w w' b0)
    (d : Nat) (o : Obj) (L : Loc) (hd : hget σ.heap d = none) (hL : L.blk = b0)
    (ho : ∀ H', Ext φ (setφ φ d L) G G M M w w' σ.heap H' → RObj P (setφ φ d L) G M w' H' d o) :
    Rel P X ⟨σ.env, hput σ.heap d o⟩ a w' (setφ φ d L) G M := by
  have E : Ext φ (setφ φ d L) G G M M w w' σ.heap (hput σ.heap d o) :=
    { g := fun b hb => hb
      ag := fun b hb => hw.old b (fun e => h.heap.sep b hb (e ▸ hM))
      keep := fun b hb hm => hw.old b (fun e => hm (e ▸ hM))
      keys := fun k o' hk => by
        have hne : k ≠ d := fun e => by rw [e, hd] at hk; cases hk
        refine ⟨setφ_ne φ L hne, o', by rw [hget_hput_ne _ _ _ _ hne]; exact hk, ?_⟩
        cases o' <;> simp [shape]
      mt := fun b hb hm => hm
      size := by rw [hw.size]; omega }
  refine h.step E ⟨fun k o' hk => ?_, fun k k' o1 o2 hk hk' hne ha ha' => ?_, fun b hb => by rw [hw.size]; exact h.heap.bnd b hb, fun b hb => by rw [hw.size]; exact h.heap.mnd b hb, h.heap.sep⟩ hw.os hw.tape hw.output (fun b hb _ => .inl hb)
  · by_cases e : k = d
    · subst e
      rw [hget_hput_self] at hk
      cases hk
      exact ho _ E
    · rw [hget_hput_ne _ _ _ _ e] at hk
      exact (h.heap.obj k o' hk).mono E (setφ_ne φ L e) (fun ha => hw.old _ (hno k o' hk ha)) id
  · by_cases e : k = d
    · subst e
      have hk2 : hget σ.heap k' = some o2 := by rwa [hget_hput_ne _ _ _ _ (Ne.symm hne)] at hk'
      have ha2 : alloc φ k' o2 := by cases o2 <;> simp_all [alloc, setφ, Ne.symm hne]
      rw [setφ_self, setφ_ne φ L (Ne.symm hne), hL]
      exact Ne.symm (hno k' o2 hk2 ha2)
    · rw [hget_hput_ne _ _ _ _ e] at hk
      have ha1 : alloc φ k o1 := by cases o1 <;> simp_all [alloc, setφ]
      by_cases e' : k' = d
      · subst e'
        rw [setφ_self, setφ_ne φ L e, hL]
        exact hno k o1 hk ha1
      · rw [hget_hput_ne _ _ _ _ e'] at hk'
        have ha2 : alloc φ k' o2 := by cases o2 <;> simp_all [alloc, setφ]
        rw [setφ_ne φ L e, setφ_ne φ L e']
        exact h.heap.inj k k' o1 o2 hk hk' hne ha1 ha2

/-- Behind a call that has written nothing that was there. -/
theorem Rel.call {w' : World} (h : Rel P X σ a w φ G M) (hb : Below w.heap.size w w') (G' : Nat → Prop) (hG : ∀ b, G' b → b < w'.heap.size ∧ (b < w.heap.size → G b)) :
    Rel P X σ a w' φ (fun b => G b ∨ G' b) M := by
  have E : Ext φ φ G (fun b => G b ∨ G' b) M M w w' σ.heap σ.heap :=
    { g := fun b hb => .inl hb
      ag := fun b hg => hb.block b (h.heap.bnd b hg)
      keep := fun b hlt _ => hb.block b hlt
      keys := fun k o' hk => ⟨rfl, o', hk, by cases o' <;> simp [shape]⟩
      mt := fun b hb hm => hm
      size := hb.size }
  refine h.step E ⟨fun k o' hk => ?_, h.heap.inj, fun b hg => ?_, fun b hm => Nat.lt_of_lt_of_le (h.heap.mnd b hm) hb.size, fun b hg hm => ?_⟩ hb.os hb.tape hb.output (fun b hg hlt => hg.elim .inl (fun hg => .inl ((hG b hg).2 hlt)))
  · exact (h.heap.obj k o' hk).mono E rfl (fun ha => hb.block _ (RObj.lt h.heap hk ha)) id
  · exact hg.elim (fun hg => Nat.lt_of_lt_of_le (h.heap.bnd b hg) hb.size) (fun hg => (hG b hg).1)
  · exact hg.elim (fun hg => h.heap.sep b hg hm) (fun hg => h.heap.sep b ((hG b hg).2 (h.heap.mnd b hm)) hm)

/-! ### what is named no more -/
theorem hget_killH (k : Nat) (H : Heap) (j : Nat) : hget (killH k H) j = (hget H j).map (killO k) := by
  induction H with
  | nil => rfl
  | cons p H ih =>
    obtain ⟨i, v⟩ := p
    simp only [killH, hget]
    split <;> simp [ih]
theorem eget_killE (k : Nat) (e : Env) (t : Nat) : eget (killE k e) t = killV k (eget e t) := by
  induction e with
  | nil => simp [killE, eget, killV]
  | cons p H ih =>
    obtain ⟨i, v⟩ := p
    simp only [killE, eget]
    split <;> simp [ih]

theorem hget_kill (k : Nat) (H : Heap) (j : Nat) (h : j ≠ k) : hget (killH k (hdel H k)) j = (hget H j).map (killO k) := by
  rw [hget_killH, hget_hdel, if_neg h]

mutual
theorem RA.kill (H : Heap) (k : Nat) : ∀ (v : AV) (u : Value), RA P φ G M w H v u → RA P φ G M w (killH k (hdel H k)) (killV k v) u
  | .undef, _, _ => by simp only [killV, RA]
  | .int _ _, _, h => by simpa only [killV, RA] using h
  | .bool _, _, h => by simpa only [killV, RA] using h
  | .str _, _, h => by simpa only [killV, RA] using h
  | .sl t xs full, u, h => by simpa only [killV, RA] using h
  | .own k' lo len, u, h => by
    simp only [killV]
    split
    · simp only [RA]
    · rename_i hne
      simp only [RA, hget_kill k H k' hne] at h ⊢
      cases hk : hget H k' with
      | none => simp [hk] at h
      | some o => cases o <;> simp_all [killO]
  | .ptr k' off, u, h => by
    simp only [killV]
    split
    · simp only [RA]
    · rename_i hne
      simp only [RA, hget_kill k H k' hne] at h ⊢
      cases hk : hget H k' with
      | none => simp [hk] at h
      | some o => cases o <;> simp_all [killO]
  | .rptr k' i off, u, h => by
    simp only [killV]
    split
    · simp only [RA]
    · rename_i hne
      simp only [RA, hget_kill k H k' hne] at h ⊢
      cases hk : hget H k' with
      | none => simp [hk] at h
      | some o => cases o <;> simp_all [killO]
  | .el t x off, u, h => by simpa only [killV, RA] using h
  | .agg cs, u, h => by
    simp only [killV, RA] at h ⊢
    obtain ⟨us, rfl, h⟩ := h
    exact ⟨us, rfl, RAL.kill H k cs _ h⟩
  | .tup cs, u, h => by
    simp only [killV, RA] at h ⊢
    obtain ⟨us, rfl, h⟩ := h
    exact ⟨us, rfl, RAL.kill H k cs _ h⟩
  | .clo f cs, u, h => by
    simp only [killV, RA] at h ⊢
    obtain ⟨us, rfl, h⟩ := h
    exact ⟨us, rfl, RAL.kill H k cs _ h⟩
  | .fv a r p, u, h => by simpa only [killV, RA] using h
  | .g b v, u, h => by
    simp only [killV, RA] at h ⊢
    exact ⟨fun hb => RA.kill H k v u (h.1 hb), h.2⟩
theorem RAL.kill (H : Heap) (k : Nat) : ∀ (vs : List AV) (us : List Value), RAL P φ G M w H vs us → RAL P φ G M w (killH k (hdel H k)) (killL k vs) us
  | [], us, h => by simpa only [killL, RAL] using h
  | c :: cs, us, h => by
    simp only [killL, RAL] at h ⊢
    obtain ⟨u, us', rfl, h1, h2⟩ := h
    exact ⟨u, us', rfl, RA.kill H k c u h1, RAL.kill H k cs us' h2⟩
end

theorem Rel.kill1 (h : Rel P X σ a w φ G M) (k : Nat) : Rel P X ⟨killE k σ.env, killH k (hdel σ.heap k)⟩ a w φ G M := by
  have back : ∀ j o, hget (killH k (hdel σ.heap k)) j = some o → ∃ o', hget σ.heap j = some o' ∧ o = killO k o' ∧ j ≠ k := by
    intro j o hj
    rw [hget_killH, hget_hdel] at hj
    split at hj
    · simp at hj
    · rename_i hne
      cases ho : hget σ.heap j with
      | none => simp [ho] at hj
      | some o' => simp [ho] at hj; exact ⟨o', rfl, hj.symm, hne⟩
  refine { h with env := fun t => ?_, heap := ⟨fun j o hj => ?_, fun j j' o1 o2 hj hj' hne ha ha' => ?_, h.heap.bnd, h.heap.mnd, h.heap.sep⟩ }
  · rw [eget_killE]; exact RA.kill σ.heap k _ _ (h.env t)
  · obtain ⟨o', ho', rfl, _⟩ := back j o hj
    have := h.heap.obj j o' ho'
    cases o' with
    | box cs =>
      simp only [killO, RObj] at this ⊢
      obtain ⟨c, e, h1, h2, h3⟩ := this
      exact ⟨c, e, h1, h2, RAL.kill σ.heap k _ _ h3⟩
    | row t xs f => simpa only [killO, RObj] using this
  · obtain ⟨p1, q1, rfl, _⟩ := back j o1 hj
    obtain ⟨p2, q2, rfl, _⟩ := back j' o2 hj'
    exact h.heap.inj j j' p1 p2 q1 q2 hne (by cases p1 <;> simp_all [killO, alloc]) (by cases p2 <;> simp_all [killO, alloc])

theorem Rel.kill (ks : List Nat) : ∀ {σ : St}, Rel P X σ a w φ G M → Rel P X (σ.kill ks) a w φ G M := by
  induction ks with
  | nil => intro σ h; exact h
  | cons k ks ih => intro σ h; exact ih (h.kill1 k)
end
end Go.AM
