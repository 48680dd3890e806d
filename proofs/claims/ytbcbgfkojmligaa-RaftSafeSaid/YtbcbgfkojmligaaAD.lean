import Derived.Test.YtbcbgfkojmligaaAB
import Derived.Laws.Rows
import Derived.Laws.CopyRow
/- Part of an abstract machine for Go code and of its soundness, for any program of the model; no condition. -/
set_option maxHeartbeats 4000000
set_option linter.unusedVariables false
set_option linter.unusedSimpArgs false
namespace Go.AM
open Go.RowKit
section
variable {P : Program} {X : Ctx} {σ : St} {a : Act} {w : World} {φ : Nat → Loc} {G M : Nat → Prop}

def setφ (φ : Nat → Loc) (d : Nat) (L : Loc) : Nat → Loc := fun k => if k = d then L else φ k
theorem setφ_self (φ : Nat → Loc) (d : Nat) (L : Loc) : setφ φ d L d = L := by simp [setφ]
theorem setφ_ne (φ : Nat → Loc) {d k : Nat} (L : Loc) (h : k ≠ d) : setφ φ d L k = φ k := by simp [setφ, h]

theorem cell_of_heap {w w' : World} {b o : Nat} {s : Option Nat} (h : w'.heap[b]? = w.heap[b]?) : w'.cell? ⟨b, o, s⟩ = w.cell? ⟨b, o, s⟩ := by
  simp only [World.cell?, h]

theorem RObj.lt (h : RelH P φ G M w σ.heap) {k : Nat} {o : Obj} (hk : hget σ.heap k = some o) (ha : alloc φ k o) : (φ k).blk < w.heap.size := by
  have := h.obj k o hk
  cases o with
  | box cs =>
    simp only [RObj] at this
    obtain ⟨_, _, _, hm, _⟩ := this
    exact h.mnd _ hm
  | mp m =>
    simp only [RObj] at this
    exact h.mnd _ this.1
  | row t xs f =>
    simp only [RObj] at this
    cases f with
    | true => exact h.bnd _ ((this.2 ha).1 rfl)
    | false => exact h.mnd _ ((this.2 ha).2 rfl)

/-- the world's next block; nothing else has turned but draws -/
structure NewB (w w' : World) (o : Go.Obj) : Prop where
  os : w'.os = w.os
  tape : w'.tape = w.tape
  output : w'.output = w.output
  new : w'.heap[w.heap.size]? = some o
  old : ∀ b, b < w.heap.size → w'.heap[b]? = w.heap[b]?
  size : w'.heap.size = w.heap.size + 1

theorem NewB.alloc (w : World) (o : Go.Obj) : NewB w (w.alloc o) o :=
  ⟨rfl, rfl, rfl, heap_alloc_new w o, fun b hb => heap_alloc_old w o b hb, by simp⟩
theorem NewB.drew {w w' : World} {o : Go.Obj} (h : NewB w.drew w' o)  : NewB w w' o :=
  ⟨h.os, h.tape, h.output, h.new, h.old, h.size⟩

/-- A new object of one's own in the next block. -/
theorem Rel.new {w' : World} {ob : Go.Obj} (h : Rel P X σ a w φ G M) (hn : NewB w w' ob) (d : Nat) (o : AM.Obj) (L : Loc) (hd : hget σ.heap d = none)
    (hL : L.blk = w.heap.size)
    (ho : ∀ φ' G' M' H', Ext φ φ' G G' M M' w w' σ.heap H' → φ' d = L → M' w.heap.size → RObj P φ' G' M' w' H' d o) :
    Rel P X ⟨σ.env, hput σ.heap d o⟩ a w' (setφ φ d L) G (fun b => M b ∨ b = w.heap.size) := by
  have E : Ext φ (setφ φ d L) G G M (fun b => M b ∨ b = w.heap.size) w w' σ.heap (hput σ.heap d o) :=
    { g := fun b hb => hb
      ag := fun b hb => hn.old b (h.heap.bnd b hb)
      keep := fun b hb _ => hn.old b hb
      keys := fun k o' hk => by
        have hne : k ≠ d := fun e => by rw [e, hd] at hk; cases hk
        refine ⟨setφ_ne φ L hne, o', by rw [hget_hput_ne _ _ _ _ hne]; exact hk, ?_⟩
        cases o' <;> simp [shape]
      mt := fun b hb hm => hm.elim id (fun e => by omega)
      size := by rw [hn.size]; omega }
  refine h.step E ⟨fun k o' hk => ?_, fun k k' o1 o2 hk hk' hne ha ha' => ?_, fun b hb => ?_, fun b hb => ?_, fun b hb hm => ?_⟩ hn.os hn.tape hn.output (fun b hb _ => .inl hb)
  · by_cases e : k = d
    · subst e
      rw [hget_hput_self] at hk
      cases hk
      exact ho _ _ _ _ E (setφ_self φ k L) (.inr rfl)
    · rw [hget_hput_ne _ _ _ _ e] at hk
      have hlt : alloc φ k o' → (φ k).blk < w.heap.size := fun ha => RObj.lt h.heap hk ha
      exact (h.heap.obj k o' hk).mono E (setφ_ne φ L e) (fun ha => hn.old _ (hlt ha)) .inl
  · by_cases e : k = d
    · subst e
      have hk2 : hget σ.heap k' = some o2 := by rwa [hget_hput_ne _ _ _ _ (Ne.symm hne)] at hk'
      have ha2 : alloc φ k' o2 := by cases o2 <;> simp_all [alloc, setφ, Ne.symm hne]
      have := RObj.lt h.heap hk2 ha2
      rw [setφ_self, setφ_ne φ L (Ne.symm hne), hL]
      omega
    · rw [hget_hput_ne _ _ _ _ e] at hk
      have ha1 : alloc φ k o1 := by cases o1 <;> simp_all [alloc, setφ]
      by_cases e' : k' = d
      · subst e'
        have := RObj.lt h.heap hk ha1
        rw [setφ_self, setφ_ne φ L e, hL]
        omega
      · rw [hget_hput_ne _ _ _ _ e'] at hk'
        have ha2 : alloc φ k' o2 := by cases o2 <;> simp_all [alloc, setφ]
        rw [setφ_ne φ L e, setφ_ne φ L e']
        exact h.heap.inj k k' o1 o2 hk hk' hne ha1 ha2
  · have := h.heap.bnd b hb; rw [hn.size]; omega
  · rcases hb with hb | hb
    · have := h.heap.mnd b hb; rw [hn.size]; omega
    · rw [hn.size]; omega
  · rcases hm with hm | hm
    · exact h.heap.sep b hb hm
    · have := h.heap.bnd b hb; omega

/-- A new object that has no block. -/
theorem Rel.newNo (h : Rel P X σ a w φ G M) (d : Nat) (t : Ty) (f : Bool) (hp : plain t = true) (hz : 0 < AM.size t) (hd : hget σ.heap d = none) :
    Rel P X ⟨σ.env, hput σ.heap d (.row t [] f)⟩ a w (setφ φ d ⟨0, 0, 0⟩) G M := by
  have E : Ext φ (setφ φ d ⟨0, 0, 0⟩) G G M M w w σ.heap (hput σ.heap d (.row t [] f)) :=
    { g := fun b hb => hb
      ag := fun b hb => rfl
      keep := fun b hb _ => rfl
      keys := fun k o' hk => by
        have hne : k ≠ d := fun e => by rw [e, hd] at hk; cases hk
        refine ⟨setφ_ne φ _ hne, o', by rw [hget_hput_ne _ _ _ _ hne]; exact hk, ?_⟩
        cases o' <;> simp [shape]
      mt := fun b hb hm => hm
      size := Nat.le_refl _ }
  refine h.step E ⟨fun k o' hk => ?_, fun k k' o1 o2 hk hk' hne ha ha' => ?_, h.heap.bnd, h.heap.mnd, h.heap.sep⟩ rfl rfl rfl (fun b hb _ => .inl hb)
  · by_cases e : k = d
    · subst e
      rw [hget_hput_self] at hk
      cases hk
      simp only [RObj, setφ_self]
      exact ⟨⟨hp, hz, .inl ⟨rfl, rfl⟩⟩, fun hc => by simp at hc⟩
    · rw [hget_hput_ne _ _ _ _ e] at hk
      exact (h.heap.obj k o' hk).mono E (setφ_ne φ _ e) (fun _ => rfl) id
  · have hn1 : k ≠ d := fun e => by subst e; rw [hget_hput_self] at hk; cases hk; simp [alloc, setφ_self] at ha
    have hn2 : k' ≠ d := fun e => by subst e; rw [hget_hput_self] at hk'; cases hk'; simp [alloc, setφ_self] at ha'
    rw [hget_hput_ne _ _ _ _ hn1] at hk
    rw [hget_hput_ne _ _ _ _ hn2] at hk'
    have ha1 : alloc φ k o1 := by cases o1 <;> simp_all [alloc, setφ]
    have ha2 : alloc φ k' o2 := by cases o2 <;> simp_all [alloc, setφ]
    rw [setφ_ne φ _ hn1, setφ_ne φ _ hn2]
    exact h.heap.inj k k' o1 o2 hk hk' hne ha1 ha2

/-- A new block that may be read for ever. -/
theorem Rel.ro {w' : World} {ob : Go.Obj} (h : Rel P X σ a w φ G M) (hn : NewB w w' ob) : Rel P X σ a w' φ (fun b => G b ∨ b = w.heap.size) M := by
  have E : Ext φ φ G (fun b => G b ∨ b = w.heap.size) M M w w' σ.heap σ.heap :=
    { g := fun b hb => .inl hb
      ag := fun b hb => hn.old b (h.heap.bnd b hb)
      keep := fun b hb _ => hn.old b hb
      keys := fun k o' hk => ⟨rfl, o', hk, by cases o' <;> simp [shape]⟩
      mt := fun b hb hm => hm
      size := by rw [hn.size]; omega }
  refine h.step E ⟨fun k o' hk => ?_, h.heap.inj, fun b hb => ?_, fun b hb => ?_, fun b hb hm => ?_⟩ hn.os hn.tape hn.output (fun b hb hlt => hb.imp id (fun e => by omega))
  · exact (h.heap.obj k o' hk).mono E rfl (fun ha => hn.old _ (RObj.lt h.heap hk ha)) id
  · rw [hn.size]; rcases hb with hb | hb
    · have := h.heap.bnd b hb; omega
    · omega
  · have := h.heap.mnd b hb; rw [hn.size]; omega
  · rcases hb with hb | hb
    · exact h.heap.sep b hb hm
    · have := h.heap.mnd b hm; omega

/-- Draws alone. -/
theorem Rel.drew (h : Rel P X σ a w φ G M) : Rel P X σ a { w with drawn := w.drawn + 1 } φ G M := by
  have E : Ext φ φ G G M M w { w with drawn := w.drawn + 1 } σ.heap σ.heap :=
    { g := fun b hb => hb, ag := fun b hb => rfl, keep := fun b hb _ => rfl
      keys := fun k o' hk => ⟨rfl, o', hk, by cases o' <;> simp [shape]⟩
      mt := fun b hb hm => hm, size := Nat.le_refl _ }
  exact h.step E ⟨fun k o' hk => (h.heap.obj k o' hk).mono E rfl (fun _ => rfl) id, h.heap.inj, h.heap.bnd, h.heap.mnd, h.heap.sep⟩ rfl rfl rfl (fun b hb _ => .inl hb)

/-- A row that is written no more. -/
theorem Rel.frz1 (h : Rel P X σ a w φ G M) {k : Nat} {t : Ty} {xs : List (den t)} {f : Bool} (hk : hget σ.heap k = some (.row t xs f)) :
    ∃ G' M', (∀ b, G b → G' b) ∧ Rel P X ⟨σ.env, hput σ.heap k (.row t xs true)⟩ a w φ G' M' := by
  have ho := h.heap.obj k _ hk
  simp only [RObj] at ho
  refine ⟨fun b => G b ∨ (0 < (φ k).cap ∧ b = (φ k).blk), fun b => M b ∧ ¬ (0 < (φ k).cap ∧ b = (φ k).blk), fun b hb => .inl hb, ?_⟩
  have E : Ext φ φ G (fun b => G b ∨ (0 < (φ k).cap ∧ b = (φ k).blk)) M (fun b => M b ∧ ¬ (0 < (φ k).cap ∧ b = (φ k).blk)) w w σ.heap (hput σ.heap k (.row t xs true)) :=
    { g := fun b hb => .inl hb, ag := fun b hb => rfl, keep := fun b hb _ => rfl
      keys := fun j o' hj => by
        refine ⟨rfl, ?_⟩
        by_cases e : j = k
        · subst e
          rw [hk] at hj; cases hj
          exact ⟨_, hget_hput_self _ _ _, by simp [shape]⟩
        · exact ⟨o', by rw [hget_hput_ne _ _ _ _ e]; exact hj, by cases o' <;> simp [shape]⟩
      mt := fun b hb hm => hm.1, size := Nat.le_refl _ }
  refine h.step E ⟨fun j o' hj => ?_, fun j j' o1 o2 hj hj' hne ha ha' => ?_, fun b hb => ?_, fun b hb => h.heap.mnd b hb.1, fun b hb hm => ?_⟩ rfl rfl rfl ?_
  · by_cases e : j = k
    · subst e
      rw [hget_hput_self] at hj
      cases hj
      simp only [RObj]
      exact ⟨ho.1.mono E.g E.ag (fun _ => rfl), fun hc => ⟨fun _ => .inr ⟨hc, by trivial⟩, fun hf => by cases hf⟩⟩
    · rw [hget_hput_ne _ _ _ _ e] at hj
      have hm : alloc φ j o' → (0 < (φ k).cap) → (φ j).blk ≠ (φ k).blk := fun ha hc => h.heap.inj j k o' _ hj hk e ha hc
      have hj' := h.heap.obj j o' hj
      cases o' with
      | box cs =>
        exact hj'.mono E rfl (fun _ => rfl) (fun hM => ⟨hM, fun hh => hm trivial hh.1 hh.2⟩)
      | mp m =>
        exact hj'.mono E rfl (fun _ => rfl) (fun hM => ⟨hM, fun hh => hm trivial hh.1 hh.2⟩)
      | row t' ys f' =>
        simp only [RObj] at hj' ⊢
        exact ⟨hj'.1.mono E.g E.ag (fun _ => rfl), fun hc => ⟨fun hf => .inl ((hj'.2 hc).1 hf), fun hf => ⟨(hj'.2 hc).2 hf, fun hh => hm hc hh.1 hh.2⟩⟩⟩
  · have f1 : ∃ o1', hget σ.heap j = some o1' ∧ alloc φ j o1' := by
      by_cases e : j = k
      · subst e; rw [hget_hput_self] at hj; cases hj; exact ⟨_, hk, ha⟩
      · rw [hget_hput_ne _ _ _ _ e] at hj; exact ⟨_, hj, ha⟩
    have f2 : ∃ o1', hget σ.heap j' = some o1' ∧ alloc φ j' o1' := by
      by_cases e : j' = k
      · subst e; rw [hget_hput_self] at hj'; cases hj'; exact ⟨_, hk, ha'⟩
      · rw [hget_hput_ne _ _ _ _ e] at hj'; exact ⟨_, hj', ha'⟩
    obtain ⟨p1, q1, r1⟩ := f1
    obtain ⟨p2, q2, r2⟩ := f2
    exact h.heap.inj j j' p1 p2 q1 q2 hne r1 r2
  · rcases hb with hb | ⟨hc, rfl⟩
    · exact h.heap.bnd b hb
    · exact RObj.lt h.heap hk hc
  · rcases hb with hb | hb
    · exact h.heap.sep b hb hm.1
    · exact hm.2 hb
  · intro b hb hlt
    rcases hb with hb | ⟨hc, rfl⟩
    · exact .inl hb
    · cases f with
      | true => exact .inl ((ho.2 hc).1 rfl)
      | false => exact .inr ((ho.2 hc).2 rfl)

theorem Rel.frz (ks : List Nat) : ∀ {σ : St} {G M : Nat → Prop}, Rel P X σ a w φ G M → ∃ G' M', (∀ b, G b → G' b) ∧ Rel P X ⟨σ.env, frzH σ.heap ks⟩ a w φ G' M' := by
  induction ks with
  | nil => intro σ G M h; exact ⟨G, M, fun _ hb => hb, h⟩
  | cons k ks ih =>
    intro σ G M h
    simp only [frzH]
    split
    · rename_i t xs f hk
      obtain ⟨G1, M1, hg1, h1⟩ := h.frz1 hk
      obtain ⟨G2, M2, hg2, h2⟩ := ih h1
      exact ⟨G2, M2, fun b hb => hg2 b (hg1 b hb), h2⟩
    · exact ih h
end
end Go.AM

namespace Go.AM
open Go.RowKit
section
variable {P : Program} {X : Ctx} {σ : St} {a : Act} {w : World} {φ : Nat → Loc} {G M : Nat → Prop}

/-- one block has turned, nothing else -/
structure OneB (w w' : World) (b : Nat) : Prop where
  os : w'.os = w.os
  tape : w'.tape = w.tape
  output : w'.output = w.output
  old : ∀ k, k ≠ b → w'.heap[k]? = w.heap[k]?
  size : w'.heap.size = w.heap.size

theorem OneB.setRow (w : World) (g : Nat) (cs : Array Value) : OneB w (w.setRow g cs) g :=
  ⟨rfl, rfl, rfl, fun k hk => setRow_other w g k cs hk, by simp [World.setRow]⟩
theorem OneB.refl (w : World) (b : Nat) : OneB w w b := ⟨rfl, rfl, rfl, fun _ _ => rfl, rfl⟩

/-- An object of one's own is written. -/
theorem Rel.wr {w' : World} (h : Rel P X σ a w φ G M) {k : Nat} {o : Obj} (hk : hget σ.heap k = some o) (ha : alloc φ k o) (hM : M (φ k).blk) (hw : OneB w w' (φ k).blk)
    (o' : Obj) (hs : shape o o') (ho : Ext φ φ G G M M w w' σ.heap (hput σ.heap k o') → RObj P φ G M w' (hput σ.heap k o') k o') :
    Rel P X ⟨σ.env, hput σ.heap k o'⟩ a w' φ G M := by
  have E : Ext φ φ G G M M w w' σ.heap (hput σ.heap k o') :=
    { g := fun b hb => hb
      ag := fun b hb => hw.old b (fun e => h.heap.sep b hb (e ▸ hM))
      keep := fun b hb hm => hw.old b (fun e => hm (e ▸ hM))
      keys := fun j p hj => by
        refine ⟨rfl, ?_⟩
        by_cases e : j = k
        · subst e
          rw [hk] at hj; cases hj
          exact ⟨_, hget_hput_self _ _ _, hs⟩
        · exact ⟨p, by rw [hget_hput_ne _ _ _ _ e]; exact hj, by cases p <;> simp [shape]⟩
      mt := fun b hb hm => hm
      size := by rw [hw.size]; omega }
  have al : alloc φ k o' → alloc φ k o := fun _ => ha
  refine h.step E ⟨fun j p hj => ?_, fun j j' o1 o2 hj hj' hne ha1 ha2 => ?_, fun b hb => by rw [hw.size]; exact h.heap.bnd b hb, fun b hb => by rw [hw.size]; exact h.heap.mnd b hb, h.heap.sep⟩ hw.os hw.tape hw.output (fun b hb _ => .inl hb)
  · by_cases e : j = k
    · subst e
      rw [hget_hput_self] at hj
      cases hj
      exact ho E
    · rw [hget_hput_ne _ _ _ _ e] at hj
      exact (h.heap.obj j p hj).mono E rfl (fun hp => hw.old _ (h.heap.inj j k p o hj hk e hp ha)) id
  · have f1 : ∃ p, hget σ.heap j = some p ∧ alloc φ j p := by
      by_cases e : j = k
      · subst e; exact ⟨o, hk, ha⟩
      · rw [hget_hput_ne _ _ _ _ e] at hj; exact ⟨_, hj, ha1⟩
    have f2 : ∃ p, hget σ.heap j' = some p ∧ alloc φ j' p := by
      by_cases e : j' = k
      · subst e; exact ⟨o, hk, ha⟩
      · rw [hget_hput_ne _ _ _ _ e] at hj'; exact ⟨_, hj', ha2⟩
    obtain ⟨p1, q1, r1⟩ := f1
    obtain ⟨p2, q2, r2⟩ := f2
    exact h.heap.inj j j' p1 p2 q1 q2 hne r1 r2

/-- A new object in a block that is no object's any more. -/
theorem Rel.newAt {w' : World} (h : Rel P X σ a w φ G M) (b0 : Nat) (hM : M b0) (hno : ∀ k o, hget σ.heap k = some o → alloc φ k o → (φ k).blk ≠ b0) (hw : OneB w w' b0)
    (d : Nat) (o : Obj) (L : Loc) (hd : hget σ.heap d = none) (hL : L.blk = b0)
    (ho : ∀ H', Ext φ (setφ φ d L) G G M M w w' σ.heap H' → RObj P (setφ φ d L) G M w' H' d o) :
    Rel P X ⟨σ.env, hput σ.heap d o⟩ a w' (setφ φ d L) G M := by
  have E : Ext φ (setφ φ d L) G G M M w w' σ.heap (hput σ.heap d o) :=
    { g := fun b hb => hb
      ag := fun b hb => hw.old b (fun e => h.heap.sep b hb (e ▸ hM))
      keep := fun b hb hm => hw.old b (fun e => hm (e ▸ hM))
      keys := fun k o' hk => by
        have hne : k ≠ d := fun e => by rw [e, hd] at hk; cases hk
        refine ⟨setφ_ne φ L hne, o', by rw [hget_hput_ne _ _ _ _ hne]; exact hk, ?_⟩
        cases o' <;> simp [shape]
      mt := fun b hb hm => hm
      size := by rw [hw.size]; omega }
  refine h.step E ⟨fun k o' hk => ?_, fun k k' o1 o2 hk hk' hne ha ha' => ?_, fun b hb => by rw [hw.size]; exact h.heap.bnd b hb, fun b hb => by rw [hw.size]; exact h.heap.mnd b hb, h.heap.sep⟩ hw.os hw.tape hw.output (fun b hb _ => .inl hb)
  · by_cases e : k = d
    · subst e
      rw [hget_hput_self] at hk
      cases hk
      exact ho _ E
    · rw [hget_hput_ne _ _ _ _ e] at hk
      exact (h.heap.obj k o' hk).mono E (setφ_ne φ L e) (fun ha => hw.old _ (hno k o' hk ha)) id
  · by_cases e : k = d
    · subst e
      have hk2 : hget σ.heap k' = some o2 := by rwa [hget_hput_ne _ _ _ _ (Ne.symm hne)] at hk'
      have ha2 : alloc φ k' o2 := by cases o2 <;> simp_all [alloc, setφ, Ne.symm hne]
      rw [setφ_self, setφ_ne φ L (Ne.symm hne), hL]
      exact Ne.symm (hno k' o2 hk2 ha2)
    · rw [hget_hput_ne _ _ _ _ e] at hk
      have ha1 : alloc φ k o1 := by cases o1 <;> simp_all [alloc, setφ]
      by_cases e' : k' = d
      · subst e'
        rw [setφ_self, setφ_ne φ L e, hL]
        exact hno k o1 hk ha1
      · rw [hget_hput_ne _ _ _ _ e'] at hk'
        have ha2 : alloc φ k' o2 := by cases o2 <;> simp_all [alloc, setφ]
        rw [setφ_ne φ L e, setφ_ne φ L e']
        exact h.heap.inj k k' o1 o2 hk hk' hne ha1 ha2

/-- Behind a call that has written nothing that was there. -/
theorem Rel.call {w' : World} (h : Rel P X σ a w φ G M) (hb : Below w.heap.size w w') (G' : Nat → Prop) (hG : ∀ b, G' b → b < w'.heap.size ∧ (b < w.heap.size → G b)) :
    Rel P X σ a w' φ (fun b => G b ∨ G' b) M := by
  have E : Ext φ φ G (fun b => G b ∨ G' b) M M w w' σ.heap σ.heap :=
    { g := fun b hb => .inl hb
      ag := fun b hg => hb.block b (h.heap.bnd b hg)
      keep := fun b hlt _ => hb.block b hlt
      keys := fun k o' hk => ⟨rfl, o', hk, by cases o' <;> simp [shape]⟩
      mt := fun b hb hm => hm
      size := hb.size }
  refine h.step E ⟨fun k o' hk => ?_, h.heap.inj, fun b hg => ?_, fun b hm => Nat.lt_of_lt_of_le (h.heap.mnd b hm) hb.size, fun b hg hm => ?_⟩ hb.os hb.tape hb.output (fun b hg hlt => hg.elim .inl (fun hg => .inl ((hG b hg).2 hlt)))
  · exact (h.heap.obj k o' hk).mono E rfl (fun ha => hb.block _ (RObj.lt h.heap hk ha)) id
  · exact hg.elim (fun hg => Nat.lt_of_lt_of_le (h.heap.bnd b hg) hb.size) (fun hg => (hG b hg).1)
  · exact hg.elim (fun hg => h.heap.sep b hg hm) (fun hg => h.heap.sep b ((hG b hg).2 (h.heap.mnd b hm)) hm)

/-! ### what is named no more -/
theorem hget_killH (k : Nat) (H : Heap) (j : Nat) : hget (killH k H) j = (hget H j).map (killO k) := by
  induction H with
  | nil => rfl
  | cons p H ih =>
    obtain ⟨i, v⟩ := p
    simp only [killH, hget]
    split <;> simp [ih]
theorem eget_killE (k : Nat) (e : Env) (t : Nat) : eget (killE k e) t = killV k (eget e t) := by
  induction e with
  | nil => simp [killE, eget, killV]
  | cons p H ih =>
    obtain ⟨i, v⟩ := p
    simp only [killE, eget]
    split <;> simp [ih]

theorem hget_kill (k : Nat) (H : Heap) (j : Nat) (h : j ≠ k) : hget (killH k (hdel H k)) j = (hget H j).map (killO k) := by
  rw [hget_killH, hget_hdel, if_neg h]

mutual
theorem RA.kill (H : Heap) (k : Nat) : ∀ (v : AV) (u : Value), RA P φ G M w H v u → RA P φ G M w (killH k (hdel H k)) (killV k v) u
  | .undef, _, _ => by simp only [killV, RA]
  | .nilf, _, h => by simpa only [killV, RA] using h
  | .int _ _, _, h => by simpa only [killV, RA] using h
  | .bool _, _, h => by simpa only [killV, RA] using h
  | .str _, _, h => by simpa only [killV, RA] using h
  | .sl t xs full, u, h => by simpa only [killV, RA] using h
  | .own k' lo len, u, h => by
    simp only [killV]
    split
    · simp only [RA]
    · rename_i hne
      simp only [RA, hget_kill k H k' hne] at h ⊢
      cases hk : hget H k' with
      | none => simp [hk] at h
      | some o => cases o <;> simp_all [killO]
  | .ptr k' off, u, h => by
    simp only [killV]
    split
    · simp only [RA]
    · rename_i hne
      simp only [RA, hget_kill k H k' hne] at h ⊢
      cases hk : hget H k' with
      | none => simp [hk] at h
      | some o => cases o <;> simp_all [killO]
  | .pn k' off, u, h => by
    simp only [killV]
    split
    · simp only [RA]
    · rename_i hne
      simp only [RA, hget_kill k H k' hne] at h ⊢
      cases hk : hget H k' with
      | none => simp [hk] at h
      | some o => cases o <;> simp_all [killO]
  | .rptr k' i off, u, h => by
    simp only [killV]
    split
    · simp only [RA]
    · rename_i hne
      simp only [RA, hget_kill k H k' hne] at h ⊢
      cases hk : hget H k' with
      | none => simp [hk] at h
      | some o => cases o <;> simp_all [killO]
  | .el t x off, u, h => by simpa only [killV, RA] using h
  | .agg cs, u, h => by
    simp only [killV, RA] at h ⊢
    obtain ⟨us, rfl, h⟩ := h
    exact ⟨us, rfl, RAL.kill H k cs _ h⟩
  | .tup cs, u, h => by
    simp only [killV, RA] at h ⊢
    obtain ⟨us, rfl, h⟩ := h
    exact ⟨us, rfl, RAL.kill H k cs _ h⟩
  | .clo f cs, u, h => by
    simp only [killV, RA] at h ⊢
    obtain ⟨us, rfl, h⟩ := h
    exact ⟨us, rfl, RAL.kill H k cs _ h⟩
  | .fv a r p, u, h => by simpa only [killV, RA] using h
  | .g b v, u, h => by
    simp only [killV, RA] at h ⊢
    exact ⟨fun hb => RA.kill H k v u (h.1 hb), h.2⟩
  | .mp k', u, h => by
    simp only [killV]
    split
    · simp only [RA]
    · rename_i hne
      simp only [RA, hget_kill k H k' hne] at h ⊢
      cases hk : hget H k' with
      | none => simp [hk] at h
      | some o => cases o <;> simp_all [killO]
theorem RAL.kill (H : Heap) (k : Nat) : ∀ (vs : List AV) (us : List Value), RAL P φ G M w H vs us → RAL P φ G M w (killH k (hdel H k)) (killL k vs) us
  | [], us, h => by simpa only [killL, RAL] using h
  | c :: cs, us, h => by
    simp only [killL, RAL] at h ⊢
    obtain ⟨u, us', rfl, h1, h2⟩ := h
    exact ⟨u, us', rfl, RA.kill H k c u h1, RAL.kill H k cs us' h2⟩
end

theorem Rel.kill1 (h : Rel P X σ a w φ G M) (k : Nat) : Rel P X ⟨killE k σ.env, killH k (hdel σ.heap k)⟩ a w φ G M := by
  have back : ∀ j o, hget (killH k (hdel σ.heap k)) j = some o → ∃ o', hget σ.heap j = some o' ∧ o = killO k o' ∧ j ≠ k := by
    intro j o hj
    rw [hget_killH, hget_hdel] at hj
    split at hj
    · simp at hj
    · rename_i hne
      cases ho : hget σ.heap j with
      | none => simp [ho] at hj
      | some o' => simp [ho] at hj; exact ⟨o', rfl, hj.symm, hne⟩
  refine { h with env := fun t => ?_, heap := ⟨fun j o hj => ?_, fun j j' o1 o2 hj hj' hne ha ha' => ?_, h.heap.bnd, h.heap.mnd, h.heap.sep⟩ }
  · rw [eget_killE]; exact RA.kill σ.heap k _ _ (h.env t)
  · obtain ⟨o', ho', rfl, _⟩ := back j o hj
    have := h.heap.obj j o' ho'
    cases o' with
    | box cs =>
      simp only [killO, RObj] at this ⊢
      obtain ⟨c, e, h1, h2, h3⟩ := this
      exact ⟨c, e, h1, h2, RAL.kill σ.heap k _ _ h3⟩
    | row t xs f => simpa only [killO, RObj] using this
    | mp m => simpa only [killO, RObj] using this
  · obtain ⟨p1, q1, rfl, _⟩ := back j o1 hj
    obtain ⟨p2, q2, rfl, _⟩ := back j' o2 hj'
    exact h.heap.inj j j' p1 p2 q1 q2 hne (by cases p1 <;> simp_all [killO, alloc]) (by cases p2 <;> simp_all [killO, alloc])

theorem Rel.kill (ks : List Nat) : ∀ {σ : St}, Rel P X σ a w φ G M → Rel P X (σ.kill ks) a w φ G M := by
  induction ks with
  | nil => intro σ h; exact h
  | cons k ks ih => intro σ h; exact ih (h.kill1 k)
end
end Go.AM

namespace Go.AM
open Go.RowKit
section
variable {P : Program} {φ : Nat → Loc} {G M : Nat → Prop} {w : World} {H : Heap}

theorem RAL.append {as bs : List AV} : ∀ {us vs : List Value}, RAL P φ G M w H as us → RAL P φ G M w H bs vs → RAL P φ G M w H (as ++ bs) (us ++ vs) := by
  induction as with
  | nil => intro us vs h1 h2; simp only [RAL] at h1; subst h1; exact h2
  | cons a as ih =>
    intro us vs h1 h2
    simp only [RAL] at h1
    obtain ⟨u, us', rfl, h, h'⟩ := h1
    exact ⟨u, us' ++ vs, rfl, h, ih h' h2⟩

theorem RAL.len {as : List AV} : ∀ {us : List Value}, RAL P φ G M w H as us → us.length = as.length := by
  induction as with
  | nil => intro us h; simp only [RAL] at h; subst h; rfl
  | cons a as ih =>
    intro us h
    simp only [RAL] at h
    obtain ⟨u, us', rfl, h, h'⟩ := h
    simp [ih h']

theorem RAL.get {as : List AV} : ∀ {us : List Value} {i : Nat} {v : AV}, RAL P φ G M w H as us → as[i]? = some v → ∃ u, us[i]? = some u ∧ RA P φ G M w H v u := by
  induction as with
  | nil => intro us i v h hv; simp at hv
  | cons a as ih =>
    intro us i v h hv
    simp only [RAL] at h
    obtain ⟨u, us', rfl, h, h'⟩ := h
    cases i with
    | zero => simp at hv; subst hv; exact ⟨u, rfl, h⟩
    | succ i => simpa using ih h' (by simpa using hv)

/-- Typed data as cells. -/
theorem RT.cells {t : Ty} : ∀ {x : den t} {us : List Value} {l : List AV} {vs : List Value}, plain t = true → RT P t G w x us → RAL P φ G M w H l vs → RAL P φ G M w H (cellsA t x l) (us ++ vs) := by
  induction t with
  | int k => intro x us l vs _ h hl; simp only [RT] at h; subst h; exact ⟨_, _, rfl, by simp only [RA], hl⟩
  | bool => intro x us l vs _ h hl; simp only [RT] at h; subst h; exact ⟨_, _, rfl, by simp only [RA], hl⟩
  | str => intro x us l vs _ h hl; simp only [RT] at h; subst h; exact ⟨_, _, rfl, by simp only [RA], hl⟩
  | list t _ =>
    intro x us l vs hp h hl
    have hp' : plain t = true ∧ 0 < size t := by simpa [plain] using hp
    have h' := h
    simp only [RT] at h
    obtain ⟨A, c, rfl, _⟩ := h
    exact ⟨_, _, rfl, by simp only [RA]; exact ⟨hp'.1, hp'.2, h', fun hf => by cases hf⟩, hl⟩
  | olist t _ =>
    intro x us l vs hp h hl
    have hp' : plain t = true ∧ 0 < size t := by simpa [plain] using hp
    have h' : RT P (.list t) G w x us := by simpa only [RT] using h
    simp only [RT] at h
    obtain ⟨A, c, rfl, _⟩ := h
    exact ⟨_, _, rfl, by simp only [RA]; exact ⟨hp'.1, hp'.2, h', fun hf => by cases hf⟩, hl⟩
  | flist t _ =>
    intro x us l vs hp h hl
    have hp' : plain t = true ∧ 0 < size t := by simpa [plain] using hp
    have h' : RT P (.list t) G w x us := by
      simp only [RT] at h ⊢
      obtain ⟨A, c, rfl, hc, h⟩ := h
      exact ⟨A, c, rfl, by omega, h⟩
    simp only [RT] at h
    obtain ⟨A, c, rfl, hc, _⟩ := h
    exact ⟨_, _, rfl, by simp only [RA]; exact ⟨hp'.1, hp'.2, h', fun _ => ⟨A, by rw [hc]⟩⟩, hl⟩
  | unit => intro x us l vs _ h hl; simp only [RT] at h; subst h; exact hl
  | pair a b iha ihb =>
    intro x us l vs hp h hl
    simp only [plain, Bool.and_eq_true] at hp
    simp only [RT] at h
    obtain ⟨v1, v2, rfl, h1, h2⟩ := h
    rw [List.append_assoc]
    exact iha hp.1 h1 (ihb hp.2 h2 hl)
  | fn a r _ _ => intro x us l vs hp; simp [plain] at hp
  | ref t _ =>
    intro x us l vs hp h hl
    simp only [RT] at h
    obtain ⟨ad, rfl, hs, hg, cs, hc, hr, hcell⟩ := h
    obtain ⟨b, o, s⟩ := ad
    simp only at hs hg
    subst hs
    exact ⟨_, _, rfl, by simp only [RA]; exact ⟨by simpa [plain] using hp, b, o, rfl, hg, cs, hc, hr, hcell⟩, hl⟩

theorem RT.cells' {t : Ty} {x : den t} {us : List Value} (hp : plain t = true) (h : RT P t G w x us) : RAL P φ G M w H (AM.cells t x) us := by
  have := RT.cells (φ := φ) (G := G) (M := M) (w := w) (H := H) (l := []) (vs := []) hp h rfl
  simpa [AM.cells] using this

/-- One value of a type of data. -/
theorem RV.ra {t : Ty} {x : den t} {u : Value} (hp : plain t = true) (h : RV P t G w x u) : RA P φ G M w H (ofV t x) u := by
  have one : ∀ v : AV, AM.cells t x = [v] → RT P t G w x [u] → RA P φ G M w H v u := by
    intro v hv hr
    have := RT.cells' (φ := φ) (M := M) (H := H) hp hr
    rw [hv] at this
    simp only [RAL] at this
    obtain ⟨u', us', he, h1, _⟩ := this
    cases he
    exact h1
  unfold RV at h
  cases t with
  | unit =>
    simp only [isSt, if_true] at h
    obtain ⟨cs, rfl, h⟩ := h
    simp only [ofV, RA]
    exact ⟨cs, rfl, by simpa only [RT, RAL] using h⟩
  | pair a b =>
    simp only [isSt, if_true] at h
    obtain ⟨cs, rfl, h⟩ := h
    simp only [ofV, RA]
    exact ⟨cs, rfl, RT.cells' hp h⟩
  | _ => exact one _ rfl (by simpa [isSt] using h)

/-! ### data out of values -/
theorem castL?_eq {t' t : Ty} {xs : List (den t')} {ys : List (den t)} (h : castL? t' t xs = some ys) : ∃ e : t' = t, e ▸ xs = ys := by
  unfold castL? at h
  split at h
  · rename_i e; cases h; exact ⟨e, rfl⟩
  · cases h
theorem cast?_eq {t' t : Ty} {xs : den t'} {ys : den t} (h : cast? t' t xs = some ys) : ∃ e : t' = t, e ▸ xs = ys := by
  unfold cast? at h
  split at h
  · rename_i e; cases h; exact ⟨e, rfl⟩
  · cases h

/-- Are the rows that are named there written no more? -/
def Frozen (H : Heap) (ks : List Nat) : Prop := ∀ k ∈ ks, ∀ t xs f, hget H k = some (.row t xs f) → f = true

theorem keysC_cons (v : AV) (cs : List AV) : keysC (v :: cs) = keys1 v ++ keysC cs := by simp [keysC]

theorem slOf_sound {t : Ty} {v : AV} {u : Value} {xs : List (den t)} (hH : RelH P φ G M w H) {G1 : Nat → Prop} (hG : ∀ b, G b → G1 b) (hf : (∀ b, M b → G1 b) ∨ Frozen H (keys1 v)) (hv : RA P φ G M w H v u) (h : slOf H t v = some xs) :
    plain t = true ∧ 0 < size t ∧ RT P (.list t) G1 w xs [u] := by
  have ag : Ag G w w := fun _ _ => rfl
  cases v with
  | sl t' ys full =>
    simp only [slOf] at h
    obtain ⟨rfl, rfl⟩ := castL?_eq h
    simp only [RA] at hv
    exact ⟨hv.1, hv.2.1, RT.mono (t := .list t') (by simp [plain, hv.1, hv.2.1]) hv.2.2.1 hG ag⟩
  | own k lo len =>
    simp only [slOf] at h
    split at h
    · rename_i t' ys f hk
      obtain ⟨rfl, rfl⟩ := castL?_eq h
      simp only [RA, hk] at hv
      obtain ⟨hlen, A, rfl, hcap, hA⟩ := hv
      have ho := hH.obj k _ hk
      simp only [RObj] at ho
      obtain ⟨⟨hp, hz, hrow⟩, hg⟩ := ho
      refine ⟨hp, hz, ?_⟩
      simp only [RT]
      have hl : ((ys.drop lo).take len).length = len := by simp; omega
      refine ⟨A, (φ k).cap - lo, by simp only [hl], by rw [hl]; omega, ?_⟩
      rcases Nat.eq_zero_or_pos len with h0 | h0
      · left; subst h0; simp
      · right
        rcases hrow with ⟨hc0, rfl⟩ | ⟨c, e, hc, _, hblk, hfit, hle, hcells⟩
        · simp at hlen; omega
        · have hA' : A = some ⟨(φ k).blk, (φ k).base + lo * size t', none⟩ := hA.resolve_left (by omega)
          have hin : G1 (φ k).blk := by
            cases f with
            | true => exact hG _ ((hg hc).1 rfl)
            | false =>
              rcases hf with hf | hf
              · exact hf _ ((hg hc).2 rfl)
              · have := hf k (by simp [keys1]) _ _ _ hk
                cases this
          refine ⟨_, hA', rfl, hin, fun i hi => ?_⟩
          rw [hl] at hi
          refine ⟨_, ?_, by
            have := (hcells (lo + i) (by omega)).mono hp hG ag
            simpa [List.getElem_take, List.getElem_drop] using this, ?_⟩
          · have := (hcells (lo + i) (by omega)).len
            exact this
          · intro j u hu
            have hj : j < size t' := by
              have := List.getElem?_eq_some_iff.1 hu
              obtain ⟨hj, _⟩ := this
              simp at hj
              omega
            rw [List.getElem?_take_of_lt hj, List.getElem?_drop] at hu
            simp only [World.cell?, hblk]
            simp only [Option.isSome_none, Bool.false_eq_true, if_false]
            rw [← Array.getElem?_toList, ← hu]
            congr 1
            rw [Nat.add_mul]
            omega
    · cases h
  | _ => simp [slOf] at h

/-- Data out of cells. G1: what may be read for it. -/
theorem toCells_sound (hH : RelH P φ G M w H) {G1 : Nat → Prop} (hG : ∀ b, G b → G1 b) {t : Ty} :
    ∀ {cs : List AV} {us : List Value} {x : den t} {rest : List AV}, (∀ b, M b → G1 b) ∨ (noRef t = true ∧ Frozen H (keysC cs)) → RAL P φ G M w H cs us → toCells H t cs = some (x, rest) →
      ∃ us1 us2, us = us1 ++ us2 ∧ RT P t G1 w x us1 ∧ RAL P φ G M w H rest us2 ∧ ∃ cs1, cs = cs1 ++ rest := by
  have ag : Ag G w w := fun _ _ => rfl
  induction t with
  | int k =>
    intro cs us x rest _ hr h
    cases cs with
    | nil => simp [toCells] at h
    | cons c cs =>
      cases c with
      | int k' n =>
        simp only [toCells] at h
        split at h
        · rename_i e; subst e; cases h
          simp only [RAL, RA] at hr
          obtain ⟨u, us', rfl, rfl, hr⟩ := hr
          exact ⟨[_], us', rfl, by simp only [RT], hr, [_], rfl⟩
        · cases h
      | _ => simp [toCells] at h
  | bool =>
    intro cs us x rest _ hr h
    cases cs with
    | nil => simp [toCells] at h
    | cons c cs =>
      cases c with
      | bool n =>
        simp only [toCells] at h
        cases h
        simp only [RAL, RA] at hr
        obtain ⟨u, us', rfl, rfl, hr⟩ := hr
        exact ⟨[_], us', rfl, by simp only [RT], hr, [_], rfl⟩
      | _ => simp [toCells] at h
  | str =>
    intro cs us x rest _ hr h
    cases cs with
    | nil => simp [toCells] at h
    | cons c cs =>
      cases c with
      | str n =>
        simp only [toCells] at h
        cases h
        simp only [RAL, RA] at hr
        obtain ⟨u, us', rfl, rfl, hr⟩ := hr
        exact ⟨[_], us', rfl, by simp only [RT], hr, [_], rfl⟩
      | _ => simp [toCells] at h
  | list t _ =>
    intro cs us x rest hm hr h
    cases cs with
    | nil => simp [toCells] at h
    | cons c cs =>
      simp only [toCells] at h
      split at h
      · rename_i xs hx
        simp only [RAL] at hr
        obtain ⟨u, us', rfl, hu, hr⟩ := hr
        obtain ⟨hp, hz, hrt⟩ := slOf_sound hH hG (hm.imp id fun hm k hk => hm.2 k (by rw [keysC_cons]; exact List.mem_append_left _ hk)) hu hx
        cases h
        exact ⟨[u], us', rfl, hrt, hr, [_], rfl⟩
      · cases h
  | olist t _ =>
    intro cs us x rest _ hr h
    cases cs with
    | nil => simp [toCells] at h
    | cons c cs => cases c <;> simp [toCells] at h
  | flist t _ =>
    intro cs us x rest hm hr h
    cases cs with
    | nil => simp [toCells] at h
    | cons c cs =>
      cases c with
      | sl t' xs f =>
        cases f with
        | false => simp [toCells] at h
        | true =>
          simp only [toCells] at h
          split at h
          · rename_i xs' hx
            simp only [RAL, RA] at hr
            obtain ⟨u, us', rfl, ⟨hp, hz, hrt, hfull⟩, hr⟩ := hr
            unfold castL? at hx
            split at hx
            · rename_i e
              subst e
              cases hx
              cases h
              obtain ⟨A', e⟩ := hfull trivial
              replace hrt := RT.mono (t := .list t') (G' := G1) (w' := w) (by simp [plain, hp, hz]) hrt hG (fun _ _ => rfl)
              simp only [RT] at hrt
              obtain ⟨A, c, e', hc, h⟩ := hrt
              refine ⟨[u], us', rfl, ?_, hr, [_], rfl⟩
              simp only [RT]
              simp only [List.cons.injEq, and_true] at e'
              subst e'
              simp only [Value.slice.injEq] at e
              exact ⟨A, c, rfl, e.2.2, h⟩
            · cases hx
          · cases h
      | _ => simp [toCells] at h
  | unit =>
    intro cs us x rest _ hr h
    simp only [toCells] at h
    cases h
    exact ⟨[], us, rfl, by simp only [RT], hr, [], rfl⟩
  | pair a b iha ihb =>
    intro cs us x rest hm hr h
    simp only [toCells] at h
    split at h
    · rename_i xa cs1 ha
      split at h
      · rename_i xb cs2 hb
        cases h
        obtain ⟨us1, us2, rfl, h1, h2, cc, rfl⟩ := iha (hm.imp id fun hm => ⟨by have := hm.1; simp only [noRef, Bool.and_eq_true] at this; exact this.1, hm.2⟩) hr ha
        obtain ⟨us3, us4, rfl, h3, h4, cc2, rfl⟩ := ihb (hm.imp id fun hm => ⟨by have := hm.1; simp only [noRef, Bool.and_eq_true] at this; exact this.2, fun k hk => hm.2 k (by unfold keysC at *; rw [List.flatMap_append]; exact List.mem_append_right _ hk)⟩) h2 hb
        refine ⟨us1 ++ us3, us4, by simp, ?_, h4, cc ++ cc2, by simp⟩
        simp only [RT]
        exact ⟨us1, us3, rfl, h1, h3⟩
      · cases h
    · cases h
  | fn a r _ _ =>
    intro cs us x rest _ hr h
    cases cs with
    | nil => simp [toCells] at h
    | cons c cs =>
      cases c with
      | fv a' r' p =>
        simp only [toCells] at h
        split at h
        · rename_i e
          obtain ⟨rfl, rfl⟩ := e
          cases h
          simp only [RAL, RA] at hr
          obtain ⟨u, us', rfl, ⟨f, caps, wd, rfl, h1, h2, hf, h3, h4⟩, hr⟩ := hr
          refine ⟨[_], us', rfl, ?_, hr, [_], rfl⟩
          simp only [RT]
          exact ⟨f, caps, wd, rfl, h1, h2, hf, h4⟩
        · cases h
      | _ => simp [toCells] at h
  | ref t ih =>
    intro cs us x rest hm hr h
    cases cs with
    | nil => simp [toCells] at h
    | cons c cs =>
      cases c with
      | el t' y off =>
        cases off with
        | zero =>
          simp only [toCells] at h
          split at h
          · rename_i z hz
            cases h
            obtain ⟨rfl, rfl⟩ := cast?_eq hz
            simp only [RAL, RA] at hr
            obtain ⟨u, us', rfl, ⟨hp, b, o, rfl, hg, cc, hl, hrt, hcell⟩, hr⟩ := hr
            refine ⟨[_], us', rfl, ?_, hr, [_], rfl⟩
            simp only [RT]
            exact ⟨⟨b, o + 0, none⟩, rfl, rfl, hG _ hg, cc, hl, hrt.mono hp hG ag, hcell⟩
          · cases h
        | succ n => simp [toCells] at h
      | ptr k off =>
        cases off with
        | zero =>
          have hM := hm.resolve_right (fun h => by simp [noRef] at h)
          simp only [toCells] at h
          split at h
          · split at h
            · rename_i bs hk
              split at h
              · rename_i z hz
                cases h
                simp only [RAL, RA, hk] at hr
                obtain ⟨u, us', rfl, ⟨rfl, _⟩, hr⟩ := hr
                have ho := hH.obj k _ hk
                simp only [RObj] at ho
                obtain ⟨c, e, hblk, hmb, hcs⟩ := ho
                obtain ⟨us1, us2, e2, h1, h2, _⟩ := ih (.inl hM) hcs hz
                simp only [RAL] at h2
                subst h2
                rw [List.append_nil] at e2
                refine ⟨[_], us', rfl, ?_, hr, [_], rfl⟩
                simp only [RT]
                refine ⟨⟨(φ k).blk, 0, none⟩, rfl, rfl, hM _ hmb, c.toList, by rw [e2]; exact h1.len, by rw [e2]; exact h1, fun j u hu => ?_⟩
                simp only [World.cell?, hblk]
                simpa using hu
              · cases h
            · cases h
          · cases h
        | succ n => simp [toCells] at h
      | _ => simp [toCells] at h

theorem toV_sound (hH : RelH P φ G M w H) {G1 : Nat → Prop} (hG : ∀ b, G b → G1 b) {t : Ty} {v : AV} {u : Value} {x : den t}
    (hm : (∀ b, M b → G1 b) ∨ (noRef t = true ∧ Frozen H (keysC (cellsOf v)))) (hv : RA P φ G M w H v u) (h : toV H t v = some x) : RV P t G1 w x u := by
  have one : ∀ (v : AV), cellsOf v = [v] → RA P φ G M w H v u → (∀ b, M b → G1 b) ∨ (noRef t = true ∧ Frozen H (keysC (cellsOf v))) → toCells H t [v] = some (x, []) → RT P t G1 w x [u] := by
    intro v hc hv hm h
    rw [hc] at hm
    obtain ⟨us1, us2, e, h1, h2, _⟩ := toCells_sound hH hG hm (us := [u]) (by simp only [RAL]; exact ⟨u, [], rfl, hv, rfl⟩) h
    simp only [RAL] at h2
    subst h2
    rw [List.append_nil] at e
    rw [e]; exact h1
  have two : ∀ (v : AV), (match toCells H t [v] with | some (x, []) => some x | _ => none) = some x → toCells H t [v] = some (x, []) := by
    intro v h
    split at h
    · rename_i y e; cases h; exact e
    · cases h
  unfold RV
  cases t with
  | unit =>
    simp only [isSt, if_true]
    cases v with
    | agg cs =>
      cases cs with
      | nil =>
        simp only [RA, RAL] at hv
        obtain ⟨us, rfl, hu⟩ := hv
        exact ⟨us, rfl, by simp only [RT]; exact hu⟩
      | cons c cs => simp [toV] at h
    | _ => simp [toV] at h
  | pair a b =>
    simp only [isSt, if_true]
    cases v with
    | agg cs =>
      simp only [toV] at h
      split at h
      · rename_i y e
        cases h
        simp only [RA] at hv
        obtain ⟨us, rfl, hu⟩ := hv
        obtain ⟨us1, us2, e2, h1, h2, _⟩ := toCells_sound hH hG hm hu e
        simp only [RAL] at h2
        subst h2
        rw [List.append_nil] at e2
        exact ⟨us, rfl, by rw [e2]; exact h1⟩
      · cases h
    | _ => simp [toV] at h
  | int k =>
    simp only [isSt, Bool.false_eq_true, if_false]
    cases v <;> first | exact one _ rfl hv hm (two _ h) | simp [toV, toCells] at h
  | bool =>
    simp only [isSt, Bool.false_eq_true, if_false]
    cases v <;> first | exact one _ rfl hv hm (two _ h) | simp [toV, toCells] at h
  | str =>
    simp only [isSt, Bool.false_eq_true, if_false]
    cases v <;> first | exact one _ rfl hv hm (two _ h) | simp [toV, toCells] at h
  | list t =>
    simp only [isSt, Bool.false_eq_true, if_false]
    cases v <;> first | exact one _ rfl hv hm (two _ h) | simp [toV, toCells, slOf] at h
  | olist t =>
    simp only [isSt, Bool.false_eq_true, if_false]
    cases v <;> first | exact one _ rfl hv hm (two _ h) | simp [toV, toCells] at h
  | flist t =>
    simp only [isSt, Bool.false_eq_true, if_false]
    cases v <;> first | exact one _ rfl hv hm (two _ h) | simp [toV, toCells] at h
  | fn a r =>
    simp only [isSt, Bool.false_eq_true, if_false]
    cases v <;> first | exact one _ rfl hv hm (two _ h) | simp [toV, toCells] at h
  | ref t =>
    simp only [isSt, Bool.false_eq_true, if_false]
    cases v <;> first | exact one _ rfl hv hm (two _ h) | simp [toV, toCells] at h

theorem toArgs0_sound (hH : RelH P φ G M w H) {G1 : Nat → Prop} (hG : ∀ b, G b → G1 b) {a : Ty} : ∀ {vs : List AV} {us : List Value} {x : den a},
    (∀ b, M b → G1 b) ∨ (noRef a = true ∧ Frozen H (vs.flatMap fun v => keysC (cellsOf v))) → RAL P φ G M w H vs us → toArgs0 H a vs = some x → RArgs P a G1 w x us := by
  induction a with
  | unit =>
    intro vs us x _ hr h
    cases vs with
    | nil => simp only [RAL] at hr; subst hr; simp only [RArgs]
    | cons v vs => simp [toArgs0] at h
  | pair t b _ ih =>
    intro vs us x hm hr h
    cases vs with
    | nil => simp [toArgs0] at h
    | cons v vs =>
      simp only [toArgs0] at h
      split at h
      · rename_i y hy
        split at h
        · rename_i z hz
          cases h
          simp only [RAL] at hr
          obtain ⟨u, us', rfl, hu, hr⟩ := hr
          simp only [RArgs]
          refine ⟨u, us', rfl, toV_sound hH hG (hm.imp id fun hm => ⟨by have := hm.1; simp only [noRef, Bool.and_eq_true] at this; exact this.1, fun k hk => hm.2 k (by rw [List.flatMap_cons]; exact List.mem_append_left _ hk)⟩) hu hy,
            ih (hm.imp id fun hm => ⟨by have := hm.1; simp only [noRef, Bool.and_eq_true] at this; exact this.2, fun k hk => hm.2 k (by rw [List.flatMap_cons]; exact List.mem_append_right _ hk)⟩) hr hz⟩
        · cases h
      · cases h
  | _ => intro vs us x _ _ h; cases vs <;> simp [toArgs0] at h
end
end Go.AM

namespace Go.AM
open Go.RowKit
section
variable (P : Program)

/-- One result; an owned list comes with its place. -/
def RVL : (t : Ty) → (Nat → Prop) → World → den t → Value → List Loc → Prop
  | .olist t, G, w, xs, v, Ls => ∃ L, Ls = [L] ∧ SlV L (size t) 0 xs.length v ∧ RowAt P t G w xs L
  | .int k, G, w, x, v, Ls => Ls = [] ∧ RV P (.int k) G w x v
  | .bool, G, w, x, v, Ls => Ls = [] ∧ RV P .bool G w x v
  | .str, G, w, x, v, Ls => Ls = [] ∧ RV P .str G w x v
  | .list t, G, w, x, v, Ls => Ls = [] ∧ RV P (.list t) G w x v
  | .flist t, G, w, x, v, Ls => Ls = [] ∧ RV P (.flist t) G w x v
  | .unit, G, w, x, v, Ls => Ls = [] ∧ RV P .unit G w x v
  | .pair a b, G, w, x, v, Ls => Ls = [] ∧ RV P (.pair a b) G w x v
  | .fn a b, G, w, x, v, Ls => Ls = [] ∧ RV P (.fn a b) G w x v
  | .ref a, G, w, x, v, Ls => Ls = [] ∧ RV P (.ref a) G w x v

def ROs : (r : Ty) → (Nat → Prop) → World → den r → List Value → List Loc → Prop
  | .pair t b, G, w, y, vs, Ls => ∃ v vs' L1 L2, vs = v :: vs' ∧ Ls = L1 ++ L2 ∧ RVL P t G w y.1 v L1 ∧ ROs b G w y.2 vs' L2
  | _, _, _, _, vs, Ls => vs = [] ∧ Ls = []

def ResV (r : Ty) (G : Nat → Prop) (w : World) (y : den r) (v : Value) (Ls : List Loc) : Prop :=
  match r, y with
  | .pair t .unit, y => RVL P t G w y.1 v Ls
  | r, y => ∃ vs : Array Value, v = .tuple vs ∧ ROs P r G w y vs.toList Ls

def OwnLs (w w' : World) (G' : Nat → Prop) (Ls : List Loc) : Prop :=
  (∀ L ∈ Ls, 0 < L.cap → w.heap.size ≤ L.blk ∧ L.blk < w'.heap.size ∧ ¬ G' L.blk) ∧ Ls.Pairwise fun a b => 0 < a.cap → 0 < b.cap → a.blk ≠ b.blk

structure Holds (f : Nat) (fn : Fn) : Prop where
  tot : fn.tot = true → ∀ x, fn.pre x
  res : okRes fn.r = true
  code : Callable P f
  calls : ∀ w G x args, fn.pre x → (∀ b, G b → b < w.heap.size) → RArgs P fn.a G w x args →
    Calls P f args.toArray w fun e w' => ∃ v G' Ls, e = .returned v ∧ Below w.heap.size w w' ∧ (∀ b, G' b → b < w'.heap.size ∧ (b < w.heap.size → G b)) ∧
      ResV P fn.r G' w' (fn.f x) v Ls ∧ OwnLs w w' G' Ls

/-! ### what is taken over -/
/-- Data in cells; lists of one's own with their places. -/
def RC : (t : Ty) → (Nat → Prop) → World → den t → List Value → List Loc → Prop
  | .olist t, G, w, xs, vs, Ls => ∃ v L, vs = [v] ∧ Ls = [L] ∧ SlV L (size t) 0 xs.length v ∧ RowAt P t G w xs L
  | .pair a b, G, w, x, vs, Ls => ∃ v1 v2 L1 L2, vs = v1 ++ v2 ∧ Ls = L1 ++ L2 ∧ RC a G w x.1 v1 L1 ∧ RC b G w x.2 v2 L2
  | t, G, w, x, vs, Ls => Ls = [] ∧ RT P t G w x vs
/-- One value of such a type. -/
def RVM : (t : Ty) → (Nat → Prop) → World → den t → Value → List Loc → Prop
  | .pair a b, G, w, x, v, Ls => ∃ cs : Array Value, v = .agg cs ∧ RC P (.pair a b) G w x cs.toList Ls
  | .olist t, G, w, x, v, Ls => RC P (.olist t) G w x [v] Ls
  | t, G, w, x, v, Ls => Ls = [] ∧ RV P t G w x v
def ROM : (r : Ty) → (Nat → Prop) → World → den r → List Value → List Loc → Prop
  | .pair t b, G, w, y, vs, Ls => ∃ v vs' L1 L2, vs = v :: vs' ∧ Ls = L1 ++ L2 ∧ RVM P t G w y.1 v L1 ∧ ROM b G w y.2 vs' L2
  | _, _, _, _, vs, Ls => vs = [] ∧ Ls = []
def ResM (r : Ty) (G : Nat → Prop) (w : World) (y : den r) (v : Value) (Ls : List Loc) : Prop :=
  match r, y with
  | .pair t .unit, y => RVM P t G w y.1 v Ls
  | r, y => ∃ vs : Array Value, v = .tuple vs ∧ ROM P r G w y vs.toList Ls
def RArgsM : (a : Ty) → List Mk → (Nat → Prop) → World → den a → List Value → List Loc → List Nat → List Nat → Prop
  | .unit, [], _, _, _, vs, Ls, bs, gs => vs = [] ∧ Ls = [] ∧ bs = [] ∧ gs = []
  | .pair t b, .no :: ms, G, w, x, vs, Ls, bs, gs => plain t = true ∧ ∃ v vs', vs = v :: vs' ∧ RV P t G w x.1 v ∧ RArgsM b ms G w x.2 vs' Ls bs gs
  | .pair t b, .own :: ms, G, w, x, vs, Ls, bs, gs => ∃ v vs' L1 L2, vs = v :: vs' ∧ Ls = L1 ++ L2 ∧ RC P t G w x.1 [v] L1 ∧ RArgsM b ms G w x.2 vs' L2 bs gs
  | .pair (.ref t) b, .box :: ms, G, w, x, vs, Ls, bs, gs => ∃ (k : Nat) (c : Array Value) (e : TypeId) (vs' : List Value) (L1 L2 : List Loc) (bs' : List Nat), vs = .pointer (some ⟨k, 0, none⟩) :: vs' ∧ Ls = L1 ++ L2 ∧ bs = k :: bs' ∧
      w.heap[k]? = some (.cells c e (0, 0)) ∧ RC P t G w x.1 c.toList L1 ∧ RArgsM b ms G w x.2 vs' L2 bs' gs
  | .pair (.ref t) b, .gone :: ms, G, w, x, vs, Ls, bs, gs => ∃ (k : Nat) (c : Array Value) (e : TypeId) (vs' : List Value) (L1 L2 : List Loc) (gs' : List Nat), vs = .pointer (some ⟨k, 0, none⟩) :: vs' ∧ Ls = L1 ++ L2 ∧ gs = k :: gs' ∧
      w.heap[k]? = some (.cells c e (0, 0)) ∧ RC P t G w x.1 c.toList L1 ∧ RArgsM b ms G w x.2 vs' L2 bs gs'
  | _, _, _, _, _, _, _, _, _ => False
/-- the blocks of places -/
def blks (Ls : List Loc) : List Nat := (Ls.filter fun L => decide (0 < L.cap)).map (·.blk)
def BoxM (t : Ty) (G : Nat → Prop) (w : World) (y : den t) (bs : List Nat) (Ls : List Loc) : Prop :=
  match bs with
  | [] => Ls = []
  | [b] => ∃ (c : Array Value) (e : TypeId), w.heap[b]? = some (.cells c e (0, 0)) ∧ RC P t G w y c.toList Ls
  | _ => False
/-- What such a call leaves. D: the blocks that it has taken over. -/
def PostM (fn : Fn) (x : den fn.a) (w : World) (G D : Nat → Prop) (bs : List Nat) (e : Ending) (w' : World) : Prop :=
  ∃ v G' L1 L2, e = .returned v ∧ (w'.os = w.os ∧ w'.tape = w.tape ∧ w'.output = w.output ∧ w.heap.size ≤ w'.heap.size) ∧ (∀ b, b < w.heap.size → ¬ D b → w'.heap[b]? = w.heap[b]?) ∧
    (∀ b, G' b → b < w'.heap.size ∧ (b < w.heap.size → G b ∨ D b)) ∧ ResM P fn.r G' w' (fn.f x) v L1 ∧ BoxM P fn.bk G' w' (fn.bf x) bs L2 ∧
    (blks (L1 ++ L2) ++ bs).Nodup ∧ ∀ b, b ∈ blks (L1 ++ L2) ++ bs → (w.heap.size ≤ b ∨ D b) ∧ b < w'.heap.size ∧ ¬ G' b
structure HoldsM (f : Nat) (fn : Fn) (ms : List Mk) : Prop where
  res : okRes fn.r = true ∧ plain fn.bk = true
  code : Callable P f
  calls : ∀ w G x args Ls bs gs, fn.pre x → (∀ b, G b → b < w.heap.size) → RArgsM P fn.a ms G w x args Ls bs gs → (blks Ls ++ (gs ++ bs)).Nodup → (∀ b, b ∈ blks Ls ++ (gs ++ bs) → b < w.heap.size ∧ ¬ G b) → (bs = [] → fn.bk = .unit) → bs.length ≤ 1 →
    Calls P f args.toArray w (PostM P fn x w G (fun b => b ∈ blks Ls ++ (gs ++ bs)) bs)
def HoldsX (f : Nat) (fn : Fn) : Prop := match fn.kd with
  | none => Holds P f fn
  | some ms => HoldsM P f fn ms
def TabOK (T : Tab) : Prop := ∀ f fn, tget T f = some fn → HoldsX P f fn
theorem TabOK.nil : TabOK P [] := fun f fn h => by simp [tget] at h
theorem TabOK.cons {T : Tab} {f : Nat} {fn : Fn} (h : HoldsX P f fn) (hT : TabOK P T) : TabOK P ((f, fn) :: T) := fun g gn hg => by
  simp only [tget] at hg
  split at hg
  · rename_i e; subst e; cases hg; exact h
  · exact hT g gn hg
end

section
variable {P : Program} {φ : Nat → Loc} {G M : Nat → Prop} {w : World} {H : Heap}

theorem RArgs.mono {a : Ty} : ∀ {G G' : Nat → Prop} {w w' : World} {x : den a} {vs : List Value}, plain a = true → RArgs P a G w x vs → (∀ b, G b → G' b) → Ag G w w' → RArgs P a G' w' x vs := by
  induction a with
  | pair t b _ ih =>
    intro G G' w w' x vs hp h hG hA
    simp only [plain, Bool.and_eq_true] at hp
    simp only [RArgs] at h ⊢
    obtain ⟨v, vs', rfl, h1, h2⟩ := h
    exact ⟨v, vs', rfl, RV.mono (P := P) hp.1 h1 hG hA, ih hp.2 h2 hG hA⟩
  | _ => intro G G' w w' x vs _ h _ _; simp only [RArgs] at h ⊢; exact h

theorem RArgs.join {a c : Ty} {G : Nat → Prop} {w : World} {x : den a} {y : den c} : ∀ {us vs : List Value}, RArgs P a G w x us → RArgs P c G w y vs → RArgs P (appTy a c) G w (join a c x y) (us ++ vs) := by
  induction a with
  | pair t b _ ih =>
    intro us vs h1 h2
    simp only [RArgs] at h1
    obtain ⟨v, vs', rfl, h, h'⟩ := h1
    simp only [appTy, AM.join, List.cons_append, RArgs]
    exact ⟨v, vs' ++ vs, rfl, h, ih h' h2⟩
  | _ => intro us vs h1 h2; simp only [RArgs] at h1; subst h1; simpa [appTy, AM.join] using h2

theorem RVL.flat {t : Ty} (hf : flat t = true) {G G' : Nat → Prop} {w w' : World} {x : den t} {v : Value} {Ls : List Loc} (h : RVL P t G w x v Ls) : Ls = [] ∧ RV P t G' w' x v := by
  have one : ∀ {t : Ty} (hf : AM.flat t = true) {x : den t}, RV P t G w x v → RV P t G' w' x v := by
    intro t hf x hh
    unfold RV at *
    split
    · rename_i hs
      simp only [hs, if_true] at hh
      obtain ⟨cs, e, hh⟩ := hh
      exact ⟨cs, e, RT.flat hf hh⟩
    · rename_i hs
      simp only [hs] at hh
      exact RT.flat hf (by simpa using hh)
  cases t with
  | olist t => simp [AM.flat] at hf
  | flist t => simp [AM.flat] at hf
  | _ => simp only [RVL] at h; exact ⟨h.1, one hf h.2⟩

theorem ROs.flat {r : Ty} {G G' : Nat → Prop} {w w' : World} : ∀ {y : den r} {vs : List Value} {Ls : List Loc}, flat r = true → ROs P r G w y vs Ls → RArgs P r G' w' y vs := by
  induction r with
  | pair t b _ ih =>
    intro y vs Ls hf h
    simp only [AM.flat, Bool.and_eq_true] at hf
    simp only [ROs] at h
    obtain ⟨v, vs', L1, L2, rfl, rfl, h1, h2⟩ := h
    simp only [RArgs]
    exact ⟨v, vs', rfl, (RVL.flat hf.1 h1).2, ih hf.2 h2⟩
  | _ => intro y vs Ls hf h; simp only [ROs] at h; simp only [RArgs]; exact h.1

theorem ResV.flat {r : Ty} (hf : flat r = true) {G G' : Nat → Prop} {w w' : World} {y : den r} {v : Value} {Ls : List Loc} (hr : okRes r = true) (h : ResV P r G w y v Ls) : RRes P r G' w' y v := by
  cases r with
  | pair t b =>
    cases b with
    | unit =>
      simp only [AM.flat, Bool.and_eq_true] at hf
      simp only [ResV] at h
      simp only [RRes]
      exact (RVL.flat hf.1 h).2
    | pair s c =>
      simp only [ResV] at h
      obtain ⟨vs, rfl, h⟩ := h
      have := ROs.flat (G' := G') (w' := w') hf h
      simp only [RArgs] at this
      simp only [RRes, RArgs]
      exact ⟨vs, rfl, this⟩
    | _ => simp [okRes] at hr
  | unit =>
    simp only [ResV] at h
    obtain ⟨vs, rfl, h⟩ := h
    simp only [ROs] at h
    simp only [RRes]
    congr 1
    exact Array.toList_inj.1 (by simpa using h.1)
  | _ => simp [okRes] at hr

theorem dropTy_eq {a b c : Ty} (h : dropTy a b = some c) : b = appTy a c := by
  induction a generalizing b with
  | pair t a _ ih =>
    cases b with
    | pair t' b =>
      simp only [dropTy] at h
      split at h
      · rename_i e; subst e; rw [ih h]; rfl
      · cases h
    | _ => simp [dropTy] at h
  | unit => cases b <;> (simp only [dropTy] at h; cases h; rfl)
  | _ => cases b <;> simp [dropTy] at h

/-- A closure of known code is a function. -/
theorem fnAs_sound {f : Nat} {fn : Fn} (hH0 : HoldsX P f fn) {a r c : Ty} {y : den c} {p : den a → den r} {caps : Array Value} (h : fnAs a r fn c y = some p)
    {G1 : Nat → Prop} (hb : ∀ b, G1 b → b < w.heap.size) (hy : RArgs P c G1 w y caps.toList) :
    flat r = true ∧ RFn P f caps w a r p (RArgs P a) (fun w2 y v => RRes P r (fun _ => False) w2 y v) := by
  obtain ⟨fa, fr, fpre, ff, ft, fk, fb, fg⟩ := fn
  simp only [fnAs] at h
  split at h
  · rename_i hc
    obtain ⟨e1, e2, e3, e4, e5, e6, e7⟩ := hc
    subst e1; subst e2; subst e3; subst e7
    have hH : Holds P f _ := hH0
    cases h
    refine ⟨e4, hH.code, fun w1 hold hsz G2 x args hG2 hx => ?_⟩
    have hj : RArgs P (appTy a c) (fun b => b < w1.heap.size) w1 (AM.join a c x y) (args ++ caps.toList) :=
      RArgs.join (hx.mono e5 hG2 (fun _ _ => rfl)) (hy.mono e6 (fun b hg => Nat.lt_of_lt_of_le (hb b hg) hsz) (fun b hg => hold b (hb b hg)))
    have := hH.calls w1 (fun b => b < w1.heap.size) _ _ (hH.tot rfl _) (fun _ h => h) hj
    have e : (args ++ caps.toList).toArray = args.toArray ++ caps := by simp
    rw [e] at this
    refine this.mono fun e w2 => ?_
    rintro ⟨v, G', Ls, rfl, hbel, hG', hres, _⟩
    exact ⟨v, rfl, ResV.flat e4 hH.res hres, hbel⟩
  · cases h

theorem toP_sound {T : Tab} (hT : TabOK P T) (hH : RelH P φ G M w H) {G1 : Nat → Prop} (hG : ∀ b, G b → G1 b) {t : Ty} {v : AV} {u : Value} {x : den t}
    (hm : (∀ b, M b → G1 b) ∨ (noRef t = true ∧ Frozen H (keysC (cellsOf v)))) (hv : RA P φ G M w H v u) (h : toP T H t v = some x) : RV P t G1 w x u := by
  cases t with
  | fn a r =>
    cases v with
    | clo f caps =>
      simp only [toP] at h
      split at h
      · rename_i fn hf
        split at h
        · rename_i c hc
          split at h
          · rename_i y hy
            simp only [RA] at hv
            obtain ⟨us, rfl, hu⟩ := hv
            have ha := toArgs0_sound hH (G1 := fun b => b < w.heap.size) hH.bnd (.inl hH.mnd) hu hy
            obtain ⟨e1, e2⟩ := fnAs_sound (hT f fn hf) h (fun _ h => h) ha
            simp only [RV, isSt, Bool.false_eq_true, if_false, RT]
            exact ⟨f, us, w, rfl, fun _ _ => rfl, Nat.le_refl _, e1, e2⟩
          · cases h
        · cases h
      · cases h
    | _ => exact toV_sound hH hG hm hv (by simpa only [toP] using h)
  | _ => exact toV_sound hH hG hm hv (by simpa only [toP] using h)

theorem toArgs_sound {T : Tab} (hT : TabOK P T) (hH : RelH P φ G M w H) {G1 : Nat → Prop} (hG : ∀ b, G b → G1 b) {a : Ty} : ∀ {vs : List AV} {us : List Value} {x : den a},
    (∀ b, M b → G1 b) ∨ (noRef a = true ∧ Frozen H (vs.flatMap fun v => keysC (cellsOf v))) → RAL P φ G M w H vs us → toArgs T H a vs = some x → RArgs P a G1 w x us := by
  induction a with
  | unit =>
    intro vs us x _ hr h
    cases vs with
    | nil => simp only [RAL] at hr; subst hr; simp only [RArgs]
    | cons v vs => simp [toArgs] at h
  | pair t b _ ih =>
    intro vs us x hm hr h
    cases vs with
    | nil => simp [toArgs] at h
    | cons v vs =>
      simp only [toArgs] at h
      split at h
      · rename_i y hy
        split at h
        · rename_i z hz
          cases h
          simp only [RAL] at hr
          obtain ⟨u, us', rfl, hu, hr⟩ := hr
          simp only [RArgs]
          refine ⟨u, us', rfl, toP_sound hT hH hG (hm.imp id fun hm => ⟨by have := hm.1; simp only [noRef, Bool.and_eq_true] at this; exact this.1, fun k hk => hm.2 k (by rw [List.flatMap_cons]; exact List.mem_append_left _ hk)⟩) hu hy,
            ih (hm.imp id fun hm => ⟨by have := hm.1; simp only [noRef, Bool.and_eq_true] at this; exact this.2, fun k hk => hm.2 k (by rw [List.flatMap_cons]; exact List.mem_append_right _ hk)⟩) hr hz⟩
        · cases h
      · cases h
  | _ => intro vs us x _ _ h; cases vs <;> simp [toArgs] at h

/-! ### rows that are frozen -/
def oSame : Option Obj → Option Obj → Prop
  | none, none => True
  | some (.box a), some (.box b) => a = b
  | some (.mp a), some (.mp b) => a = b
  | some (.row t xs _), o => ∃ f, o = some (.row t xs f)
  | _, _ => False
def HS (H H' : Heap) : Prop := ∀ k, oSame (hget H k) (hget H' k)

theorem oSame.refl (o : Option Obj) : oSame o o := by
  cases o with
  | none => trivial
  | some o => cases o <;> simp [oSame]
theorem oSame.trans {a b c : Option Obj} (h1 : oSame a b) (h2 : oSame b c) : oSame a c := by
  cases a with
  | none => cases b with
    | none => exact h2
    | some b => simp [oSame] at h1
  | some a => cases a with
    | box x => cases b with
      | none => simp [oSame] at h1
      | some b => cases b with
        | box y => simp only [oSame] at h1; subst h1; exact h2
        | row t y f => simp [oSame] at h1
        | mp y => simp [oSame] at h1
    | mp x => cases b with
      | none => simp [oSame] at h1
      | some b => cases b with
        | mp y => simp only [oSame] at h1; subst h1; exact h2
        | row t y f => simp [oSame] at h1
        | box y => simp [oSame] at h1
    | row t x f =>
      simp only [oSame] at h1
      obtain ⟨f', rfl⟩ := h1
      simp only [oSame] at h2 ⊢
      exact h2

theorem HS.frz (ks : List Nat) : ∀ H, HS H (frzH H ks) := by
  induction ks with
  | nil => exact fun H k => oSame.refl _
  | cons k ks ih =>
    intro H
    simp only [frzH]
    split
    · rename_i t xs f hk
      intro j
      refine oSame.trans ?_ (ih _ j)
      by_cases e : j = k
      · subst e; rw [hget_hput_self, hk]; simp [oSame]
      · rw [hget_hput_ne _ _ _ _ e]; exact oSame.refl _
    · exact ih H

theorem slOf_same {H H' : Heap} (h : HS H H') (t : Ty) (v : AV) : slOf H' t v = slOf H t v := by
  cases v with
  | own k lo len =>
    have := h k
    simp only [slOf]
    cases hk : hget H k with
    | none => rw [hk] at this; cases hk' : hget H' k with
      | none => rfl
      | some o => simp [hk', oSame] at this
    | some o => cases o with
      | box cs => rw [hk] at this; cases hk' : hget H' k with
        | none => simp [hk', oSame] at this
        | some o => cases o with
          | box c => rfl
          | row t' xs f => simp [hk', oSame] at this
          | mp y => simp [hk', oSame] at this
      | mp cs => rw [hk] at this; cases hk' : hget H' k with
        | none => simp [hk', oSame] at this
        | some o => cases o with
          | mp c => rfl
          | row t' xs f => simp [hk', oSame] at this
          | box y => simp [hk', oSame] at this
      | row t' xs f => rw [hk] at this; simp only [oSame] at this; obtain ⟨f', e⟩ := this; rw [e]
  | _ => rfl

theorem toCells_same {H H' : Heap} (h : HS H H') (t : Ty) : ∀ cs : List AV, toCells H' t cs = toCells H t cs := by
  induction t with
  | int k => intro cs; cases cs with
    | nil => rfl
    | cons c cs => cases c <;> rfl
  | bool => intro cs; cases cs with
    | nil => rfl
    | cons c cs => cases c <;> rfl
  | str => intro cs; cases cs with
    | nil => rfl
    | cons c cs => cases c <;> rfl
  | list t _ => intro cs; cases cs with
    | nil => rfl
    | cons c cs => simp only [toCells, slOf_same h]
  | olist t _ => intro cs; cases cs with
    | nil => rfl
    | cons c cs => cases c <;> rfl
  | flist t _ => intro cs; cases cs with
    | nil => rfl
    | cons c cs => cases c with
      | sl t' xs f => cases f <;> rfl
      | _ => rfl
  | unit => intro cs; rfl
  | pair a b iha ihb => intro cs; simp only [toCells, iha, ihb]
  | fn a r _ _ => intro cs; cases cs with
    | nil => rfl
    | cons c cs => cases c <;> rfl
  | ref t ih =>
    intro cs
    cases cs with
    | nil => rfl
    | cons c cs =>
      cases c with
      | ptr k off =>
        cases off with
        | zero =>
          simp only [toCells]
          split
          · have := h k
            cases hk : hget H k with
            | none => rw [hk] at this; cases hk' : hget H' k with
              | none => rfl
              | some o => simp [hk', oSame] at this
            | some o => cases o with
              | box c => rw [hk] at this; cases hk' : hget H' k with
                | none => simp [hk', oSame] at this
                | some o => cases o with
                  | box c' => rw [hk'] at this; simp only [oSame] at this; subst this; simp only [ih]
                  | row t' xs f => simp [hk', oSame] at this
                  | mp y => simp [hk', oSame] at this
              | mp c => rw [hk] at this; cases hk' : hget H' k with
                | none => simp [hk', oSame] at this
                | some o => cases o with
                  | mp c' => rfl
                  | row t' xs f => simp [hk', oSame] at this
                  | box y => simp [hk', oSame] at this
              | row t' xs f => rw [hk] at this; simp only [oSame] at this; obtain ⟨f', e⟩ := this; rw [e]
          · rfl
        | succ n => rfl
      | el t x off => cases off <;> rfl
      | _ => rfl

theorem toV_same {H H' : Heap} (h : HS H H') (t : Ty) (v : AV) : toV H' t v = toV H t v := by
  cases t <;> cases v <;> first | rfl | (simp only [toV, toCells_same h]; done) | (rename_i cs; cases cs <;> rfl)
theorem toArgs0_same {H H' : Heap} (h : HS H H') (a : Ty) : ∀ vs : List AV, toArgs0 H' a vs = toArgs0 H a vs := by
  induction a with
  | pair t b _ ih => intro vs; cases vs with
    | nil => rfl
    | cons v vs => simp only [toArgs0, toV_same h, ih]
  | _ => intro vs; cases vs <;> rfl
theorem toP_same {T : Tab} {H H' : Heap} (h : HS H H') (t : Ty) (v : AV) : toP T H' t v = toP T H t v := by
  cases t <;> cases v <;> simp only [toP, toV_same h, toArgs0_same h]
theorem toArgs_same {T : Tab} {H H' : Heap} (h : HS H H') (a : Ty) : ∀ vs : List AV, toArgs T H' a vs = toArgs T H a vs := by
  induction a with
  | pair t b _ ih => intro vs; cases vs with
    | nil => rfl
    | cons v vs => simp only [toArgs, toP_same h, ih]
  | _ => intro vs; cases vs <;> rfl

theorem frzH_frozen (ks : List Nat) : ∀ H, Frozen (frzH H ks) ks := by
  have stay : ∀ (ks : List Nat) (H : Heap) (k : Nat), (∀ t xs f, hget H k = some (.row t xs f) → f = true) → ∀ t xs f, hget (frzH H ks) k = some (.row t xs f) → f = true := by
    intro ks
    induction ks with
    | nil => intro H k h; exact h
    | cons j js ih =>
      intro H k h
      simp only [frzH]
      split
      · refine ih _ _ fun t xs f hk => ?_
        by_cases e : k = j
        · subst e; rw [hget_hput_self] at hk; cases hk; rfl
        · rw [hget_hput_ne _ _ _ _ e] at hk; exact h t xs f hk
      · exact ih _ _ h
  induction ks with
  | nil => intro H k hk; cases hk
  | cons j js ih =>
    intro H k hk
    rcases List.mem_cons.1 hk with rfl | hk
    · simp only [frzH]
      split
      · refine stay _ _ _ fun t xs f h => ?_
        rw [hget_hput_self] at h; cases h; rfl
      · rename_i hno
        refine stay _ _ _ fun t xs f h => ?_
        exact absurd h (hno t xs f)
    · simp only [frzH]
      split <;> exact ih _ k hk
end
end Go.AM
