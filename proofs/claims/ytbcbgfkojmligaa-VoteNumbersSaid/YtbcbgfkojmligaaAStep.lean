import Derived.Test.YtbcbgfkojmligaaAMono
import Derived.Laws.Rows
import Derived.Laws.CopyRow
/- Part of an abstract machine for Go code and of its soundness, for any program of the model; no condition. -/
set_option linter.unusedVariables false
set_option linter.unusedSimpArgs false
namespace Go.AM
open Go.RowKit
section
variable {P : Program} {X : Ctx} {σ : St} {a : Act} {w : World} {φ : Nat → Loc} {G M : Nat → Prop}

def setφ (φ : Nat → Loc) (d : Nat) (L : Loc) : Nat → Loc := fun k => if k = d then L else φ k
theorem setφ_self (φ : Nat → Loc) (d : Nat) (L : Loc) : setφ φ d L d = L := by simp [setφ]
theorem setφ_ne (φ : Nat → Loc) {d k : Nat} (L : Loc) (h : k ≠ d) : setφ φ d L k = φ k := by simp [setφ, h]

theorem cell_of_heap {w w' : World} {b o : Nat} {s : Option Nat} (h : w'.heap[b]? = w.heap[b]?) : w'.cell? ⟨b, o, s⟩ = w.cell? ⟨b, o, s⟩ := by
  simp only [World.cell?, h]

theorem RObj.lt (h : RelH P φ G M w σ.heap) {k : Nat} {o : Obj} (hk : hget σ.heap k = some o) (ha : alloc φ k o) : (φ k).blk < w.heap.size := by
  have := h.obj k o hk
  cases o with
  | box cs =>
    simp only [RObj] at this
    obtain ⟨_, _, _, hm, _⟩ := this
    exact h.mnd _ hm
  | row t xs f =>
    simp only [RObj] at this
    cases f with
    | true => exact h.bnd _ ((this.2 ha).1 rfl)
    | false => exact h.mnd _ ((this.2 ha).2 rfl)

/-- the world's next block; nothing else has turned but draws -/
structure NewB (w w' : World) (o : Go.Obj) : Prop where
  os : w'.os = w.os
  tape : w'.tape = w.tape
  output : w'.output = w.output
  new : w'.heap[w.heap.size]? = some o
  old : ∀ b, b < w.heap.size → w'.heap[b]? = w.heap[b]?
  size : w'.heap.size = w.heap.size + 1

theorem NewB.alloc (w : World) (o : Go.Obj) : NewB w (w.alloc o) o :=
  ⟨rfl, rfl, rfl, heap_alloc_new w o, fun b hb => heap_alloc_old w o b hb, by simp⟩
theorem NewB.drew {w w' : World} {o : Go.Obj} (h : NewB w.drew w' o)  : NewB w w' o :=
  ⟨h.os, h.tape, h.output, h.new, h.old, h.size⟩

/-- A new object of one's own in the next block. -/
theorem Rel.new {w' : World} {ob : Go.Obj} (h : Rel P X σ a w φ G M) (hn : NewB w w' ob) (d : Nat) (o : AM.Obj) (L : Loc) (hd : hget σ.heap d = none)
    (hL : L.blk = w.heap.size)
    (ho : ∀ φ' G' M' H', Ext φ φ' G G' M M' w w' σ.heap H' → φ' d = L → M' w.heap.size → RObj P φ' G' M' w' H' d o) :
    Rel P X ⟨σ.env, hput σ.heap d o⟩ a w' (setφ φ d L) G (fun b => M b ∨ b = w.heap.size) := by
  have E : Ext φ (setφ φ d L) G G M (fun b => M b ∨ b = w.heap.size) w w' σ.heap (hput σ.heap d o) :=
    { g := fun b hb => hb
      ag := fun b hb => hn.old b (h.heap.bnd b hb)
      keep := fun b hb _ => hn.old b hb
      keys := fun k o' hk => by
        have hne : k ≠ d := fun e => by rw [e, hd] at hk; cases hk
        refine ⟨setφ_ne φ L hne, o', by rw [hget_hput_ne _ _ _ _ hne]; exact hk, ?_⟩
        cases o' <;> simp [shape]
      mt := fun b hb hm => hm.elim id (fun e => by omega)
      size := by rw [hn.size]; omega }
  refine h.step E ⟨fun k o' hk => ?_, fun k k' o1 o2 hk hk' hne ha ha' => ?_, fun b hb => ?_, fun b hb => ?_, fun b hb hm => ?_⟩ hn.os hn.tape hn.output (fun b hb _ => .inl hb)
  · by_cases e : k = d
    · subst e
      rw [hget_hput_self] at hk
      cases hk
      exact ho _ _ _ _ E (setφ_self φ k L) (.inr rfl)
    · rw [hget_hput_ne _ _ _ _ e] at hk
      have hlt : alloc φ k o' → (φ k).blk < w.heap.size := fun ha => RObj.lt h.heap hk ha
      exact (h.heap.obj k o' hk).mono E (setφ_ne φ L e) (fun ha => hn.old _ (hlt ha)) .inl
  · by_cases e : k = d
    · subst e
      have hk2 : hget σ.heap k' = some o2 := by rwa [hget_hput_ne _ _ _ _ (Ne.symm hne)] at hk'
      have ha2 : alloc φ k' o2 := by cases o2 <;> simp_all [alloc, setφ, Ne.symm hne]
      have := RObj.lt h.heap hk2 ha2
      rw [setφ_self, setφ_ne φ L (Ne.symm hne), hL]
      omega
    · rw [hget_hput_ne _ _ _ _ e] at hk
      have ha1 : alloc φ k o1 := by cases o1 <;> simp_all [alloc, setφ]
      by_cases e' : k' = d
      · subst e'
        have := RObj.lt h.heap hk ha1
        rw [setφ_self, setφ_ne φ L e, hL]
        omega
      · rw [hget_hput_ne _ _ _ _ e'] at hk'
        have ha2 : alloc φ k' o2 := by cases o2 <;> simp_all [alloc, setφ]
        rw [setφ_ne φ L e, setφ_ne φ L e']
        exact h.heap.inj k k' o1 o2 hk hk' hne ha1 ha2
  · have := h.heap.bnd b hb; rw [hn.size]; omega
  · rcases hb with hb | hb
    · have := h.heap.mnd b hb; rw [hn.size]; omega
    · rw [hn.size]; omega
  · rcases hm with hm | hm
    · exact h.heap.sep b hb hm
    · have := h.heap.bnd b hb; omega

/-- A new object that has no block. -/
theorem Rel.newNo (h : Rel P X σ a w φ G M) (d : Nat) (t : Ty) (f : Bool) (hp : plain t = true) (hz : 0 < AM.size t) (hd : hget σ.heap d = none) :
    Rel P X ⟨σ.env, hput σ.heap d (.row t [] f)⟩ a w (setφ φ d ⟨0, 0, 0⟩) G M := by
  have E : Ext φ (setφ φ d ⟨0, 0, 0⟩) G G M M w w σ.heap (hput σ.heap d (.row t [] f)) :=
    { g := fun b hb => hb
      ag := fun b hb => rfl
      keep := fun b hb _ => rfl
      keys := fun k o' hk => by
        have hne : k ≠ d := fun e => by rw [e, hd] at hk; cases hk
        refine ⟨setφ_ne φ _ hne, o', by rw [hget_hput_ne _ _ _ _ hne]; exact hk, ?_⟩
        cases o' <;> simp [shape]
      mt := fun b hb hm => hm
      size := Nat.le_refl _ }
  refine h.step E ⟨fun k o' hk => ?_, fun k k' o1 o2 hk hk' hne ha ha' => ?_, h.heap.bnd, h.heap.mnd, h.heap.sep⟩ rfl rfl rfl (fun b hb _ => .inl hb)
  · by_cases e : k = d
    · subst e
      rw [hget_hput_self] at hk
      cases hk
      simp only [RObj, setφ_self]
      exact ⟨⟨hp, hz, .inl ⟨rfl, rfl⟩⟩, fun hc => by simp at hc⟩
    · rw [hget_hput_ne _ _ _ _ e] at hk
      exact (h.heap.obj k o' hk).mono E (setφ_ne φ _ e) (fun _ => rfl) id
  · have hn1 : k ≠ d := fun e => by subst e; rw [hget_hput_self] at hk; cases hk; simp [alloc, setφ_self] at ha
    have hn2 : k' ≠ d := fun e => by subst e; rw [hget_hput_self] at hk'; cases hk'; simp [alloc, setφ_self] at ha'
    rw [hget_hput_ne _ _ _ _ hn1] at hk
    rw [hget_hput_ne _ _ _ _ hn2] at hk'
    have ha1 : alloc φ k o1 := by cases o1 <;> simp_all [alloc, setφ]
    have ha2 : alloc φ k' o2 := by cases o2 <;> simp_all [alloc, setφ]
    rw [setφ_ne φ _ hn1, setφ_ne φ _ hn2]
    exact h.heap.inj k k' o1 o2 hk hk' hne ha1 ha2

/-- A new block that may be read for ever. -/
theorem Rel.ro {w' : World} {ob : Go.Obj} (h : Rel P X σ a w φ G M) (hn : NewB w w' ob) : Rel P X σ a w' φ (fun b => G b ∨ b = w.heap.size) M := by
  have E : Ext φ φ G (fun b => G b ∨ b = w.heap.size) M M w w' σ.heap σ.heap :=
    { g := fun b hb => .inl hb
      ag := fun b hb => hn.old b (h.heap.bnd b hb)
      keep := fun b hb _ => hn.old b hb
      keys := fun k o' hk => ⟨rfl, o', hk, by cases o' <;> simp [shape]⟩
      mt := fun b hb hm => hm
      size := by rw [hn.size]; omega }
  refine h.step E ⟨fun k o' hk => ?_, h.heap.inj, fun b hb => ?_, fun b hb => ?_, fun b hb hm => ?_⟩ hn.os hn.tape hn.output (fun b hb hlt => hb.imp id (fun e => by omega))
  · exact (h.heap.obj k o' hk).mono E rfl (fun ha => hn.old _ (RObj.lt h.heap hk ha)) id
  · rw [hn.size]; rcases hb with hb | hb
    · have := h.heap.bnd b hb; omega
    · omega
  · have := h.heap.mnd b hb; rw [hn.size]; omega
  · rcases hb with hb | hb
    · exact h.heap.sep b hb hm
    · have := h.heap.mnd b hm; omega

/-- Draws alone. -/
theorem Rel.drew (h : Rel P X σ a w φ G M) : Rel P X σ a { w with drawn := w.drawn + 1 } φ G M := by
  have E : Ext φ φ G G M M w { w with drawn := w.drawn + 1 } σ.heap σ.heap :=
    { g := fun b hb => hb, ag := fun b hb => rfl, keep := fun b hb _ => rfl
      keys := fun k o' hk => ⟨rfl, o', hk, by cases o' <;> simp [shape]⟩
      mt := fun b hb hm => hm, size := Nat.le_refl _ }
  exact h.step E ⟨fun k o' hk => (h.heap.obj k o' hk).mono E rfl (fun _ => rfl) id, h.heap.inj, h.heap.bnd, h.heap.mnd, h.heap.sep⟩ rfl rfl rfl (fun b hb _ => .inl hb)

/-- A row that is written no more. -/
theorem Rel.frz1 (h : Rel P X σ a w φ G M) {k : Nat} {t : Ty} {xs : List (den t)} {f : Bool} (hk : hget σ.heap k = some (.row t xs f)) :
    ∃ G' M', (∀ b, G b → G' b) ∧ Rel P X ⟨σ.env, hput σ.heap k (.row t xs true)⟩ a w φ G' M' := by
  have ho := h.heap.obj k _ hk
  simp only [RObj] at ho
  refine ⟨fun b => G b ∨ (0 < (φ k).cap ∧ b = (φ k).blk), fun b => M b ∧ ¬ (0 < (φ k).cap ∧ b = (φ k).blk), fun b hb => .inl hb, ?_⟩
  have E : Ext φ φ G (fun b => G b ∨ (0 < (φ k).cap ∧ b = (φ k).blk)) M (fun b => M b ∧ ¬ (0 < (φ k).cap ∧ b = (φ k).blk)) w w σ.heap (hput σ.heap k (.row t xs true)) :=
    { g := fun b hb => .inl hb, ag := fun b hb => rfl, keep := fun b hb _ => rfl
      keys := fun j o' hj => by
        refine ⟨rfl, ?_⟩
        by_cases e : j = k
        · subst e
          rw [hk] at hj; cases hj
          exact ⟨_, hget_hput_self _ _ _, by simp [shape]⟩
        · exact ⟨o', by rw [hget_hput_ne _ _ _ _ e]; exact hj, by cases o' <;> simp [shape]⟩
      mt := fun b hb hm => hm.1, size := Nat.le_refl _ }
  refine h.step E ⟨fun j o' hj => ?_, fun j j' o1 o2 hj hj' hne ha ha' => ?_, fun b hb => ?_, fun b hb => h.heap.mnd b hb.1, fun b hb hm => ?_⟩ rfl rfl rfl ?_
  · by_cases e : j = k
    · subst e
      rw [hget_hput_self] at hj
      cases hj
      simp only [RObj]
      exact ⟨ho.1.mono E.g E.ag (fun _ => rfl), fun hc => ⟨fun _ => .inr ⟨hc, by trivial⟩, fun hf => by cases hf⟩⟩
    · rw [hget_hput_ne _ _ _ _ e] at hj
      have hm : alloc φ j o' → (0 < (φ k).cap) → (φ j).blk ≠ (φ k).blk := fun ha hc => h.heap.inj j k o' _ hj hk e ha hc
      have hj' := h.heap.obj j o' hj
      cases o' with
      | box cs =>
        exact hj'.mono E rfl (fun _ => rfl) (fun hM => ⟨hM, fun hh => hm trivial hh.1 hh.2⟩)
      | row t' ys f' =>
        simp only [RObj] at hj' ⊢
        exact ⟨hj'.1.mono E.g E.ag (fun _ => rfl), fun hc => ⟨fun hf => .inl ((hj'.2 hc).1 hf), fun hf => ⟨(hj'.2 hc).2 hf, fun hh => hm hc hh.1 hh.2⟩⟩⟩
  · have f1 : ∃ o1', hget σ.heap j = some o1' ∧ alloc φ j o1' := by
      by_cases e : j = k
      · subst e; rw [hget_hput_self] at hj; cases hj; exact ⟨_, hk, ha⟩
      · rw [hget_hput_ne _ _ _ _ e] at hj; exact ⟨_, hj, ha⟩
    have f2 : ∃ o1', hget σ.heap j' = some o1' ∧ alloc φ j' o1' := by
      by_cases e : j' = k
      · subst e; rw [hget_hput_self] at hj'; cases hj'; exact ⟨_, hk, ha'⟩
      · rw [hget_hput_ne _ _ _ _ e] at hj'; exact ⟨_, hj', ha'⟩
    obtain ⟨p1, q1, r1⟩ := f1
    obtain ⟨p2, q2, r2⟩ := f2
    exact h.heap.inj j j' p1 p2 q1 q2 hne r1 r2
  · rcases hb with hb | ⟨hc, rfl⟩
    · exact h.heap.bnd b hb
    · exact RObj.lt h.heap hk hc
  · rcases hb with hb | hb
    · exact h.heap.sep b hb hm.1
    · exact hm.2 hb
  · intro b hb hlt
    rcases hb with hb | ⟨hc, rfl⟩
    · exact .inl hb
    · cases f with
      | true => exact .inl ((ho.2 hc).1 rfl)
      | false => exact .inr ((ho.2 hc).2 rfl)

theorem Rel.frz (ks : List Nat) : ∀ {σ : St} {G M : Nat → Prop}, Rel P X σ a w φ G M → ∃ G' M', (∀ b, G b → G' b) ∧ Rel P X ⟨σ.env, frzH σ.heap ks⟩ a w φ G' M' := by
  induction ks with
  | nil => intro σ G M h; exact ⟨G, M, fun _ hb => hb, h⟩
  | cons k ks ih =>
    intro σ G M h
    simp only [frzH]
    split
    · rename_i t xs f hk
      obtain ⟨G1, M1, hg1, h1⟩ := h.frz1 hk
      obtain ⟨G2, M2, hg2, h2⟩ := ih h1
      exact ⟨G2, M2, fun b hb => hg2 b (hg1 b hb), h2⟩
    · exact ih h
end
end Go.AM
