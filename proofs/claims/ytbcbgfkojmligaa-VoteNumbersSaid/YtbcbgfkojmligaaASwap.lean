import Derived.Test.YtbcbgfkojmligaaALoc2
/- Part of an abstract machine for Go code and of its soundness, for any program of the model; no condition. -/
set_option linter.unusedVariables false
set_option linter.unusedSimpArgs false
set_option linter.unusedSimpArgs false
set_option linter.constructorNameAsVariable false
namespace Go.AM

/-! ### what a step leaves, slot by slot -/
def killsV : List Nat → AV → AV
  | [], v => v
  | k :: ks, v => killsV ks (killV k v)
def killsO : List Nat → Obj → Obj
  | [], o => o
  | k :: ks, o => killsO ks (killO k o)
def frzO : Obj → Obj
  | .row t xs _ => .row t xs true
  | o => o
def lastPut : List (Nat × Obj) → Nat → Option Obj
  | [], _ => none
  | (k, o) :: ps, j => match lastPut ps j with
    | some o' => some o'
    | none => if j = k then some o else none

theorem eget_kill (ks : List Nat) : ∀ (σ : St) (t : Nat), eget (St.kill σ ks).env t = killsV ks (eget σ.env t) := by
  induction ks with
  | nil => intro σ t; rfl
  | cons k ks ih => intro σ t; simp only [St.kill, killsV]; rw [ih]; simp only [eget_killE]
theorem hget_kills (ks : List Nat) : ∀ (σ : St) (j : Nat), hget (St.kill σ ks).heap j = if j ∈ ks then none else (hget σ.heap j).map (killsO ks) := by
  induction ks with
  | nil => intro σ j; simp [St.kill, killsO]
  | cons k ks ih =>
    intro σ j
    simp only [St.kill]
    rw [ih]
    simp only [List.mem_cons]
    by_cases e : j = k
    · subst e
      simp only [true_or, if_true]
      rw [hget_killH, hget_hdel, if_pos rfl]
      split <;> rfl
    · simp only [e, false_or]
      rw [hget_kill k σ.heap j e]
      split
      · rfl
      · cases hget σ.heap j <;> rfl
theorem hget_frzH (ks : List Nat) : ∀ (H : Heap) (j : Nat), hget (frzH H ks) j = if j ∈ ks then (hget H j).map frzO else hget H j := by
  induction ks with
  | nil => intro H j; rfl
  | cons k ks ih =>
    intro H j
    simp only [frzH, List.mem_cons]
    split
    · rename_i t xs f hk
      rw [ih]
      by_cases e : j = k
      · subst e
        rw [hget_hput_self, hk]
        simp [frzO]
      · rw [hget_hput_ne _ _ _ _ e]
        simp [e]
    · rename_i hk
      rw [ih]
      by_cases e : j = k
      · subst e
        simp only [true_or, if_true]
        have : (hget H j).map frzO = hget H j := by
          cases ho : hget H j with
          | none => rfl
          | some o => cases o with
            | box cs => rfl
            | row t xs f => exact absurd ho (hk t xs f)
        rw [this]; split <;> rfl
      · simp [e]
theorem hget_putAll : ∀ (ps : List (Nat × Obj)) (H : Heap) (j : Nat), hget (putAll H ps) j = match lastPut ps j with | some o => some o | none => hget H j := by
  intro ps
  induction ps with
  | nil => intro H j; rfl
  | cons p ps ih =>
    intro H j
    obtain ⟨k, o⟩ := p
    simp only [putAll, lastPut]
    rw [ih]
    cases lastPut ps j with
    | some o' => rfl
    | none =>
      simp only
      rw [hget_hput]
      split <;> rfl
theorem lastPut_none {ps : List (Nat × Obj)} {j : Nat} (h : j ∉ ps.map (·.1)) : lastPut ps j = none := by
  induction ps with
  | nil => rfl
  | cons p ps ih =>
    obtain ⟨k, o⟩ := p
    simp only [List.map_cons, List.mem_cons, not_or] at h
    simp only [lastPut, ih h.2]
    rw [if_neg h.1]
theorem lastPut_some {ps : List (Nat × Obj)} {j : Nat} (h : j ∈ ps.map (·.1)) : ∃ o, lastPut ps j = some o ∧ (j, o) ∈ ps := by
  induction ps with
  | nil => simp at h
  | cons p ps ih =>
    obtain ⟨k, o⟩ := p
    simp only [lastPut]
    by_cases hm : j ∈ ps.map (·.1)
    · obtain ⟨o', h1, h2⟩ := ih hm
      exact ⟨o', by rw [h1], List.mem_cons_of_mem _ h2⟩
    · rw [lastPut_none hm]
      simp only [List.map_cons, List.mem_cons] at h
      rcases h with rfl | h
      · exact ⟨o, by simp, List.mem_cons_self ..⟩
      · exact absurd h hm

def updObj (e : Eff) (k : Nat) (o : Option Obj) : Option Obj :=
  match lastPut e.put k with
  | some o' => some o'
  | none => if k ∈ e.del then none else (if k ∈ e.frz then o.map frzO else o).map (killsO e.del)

theorem hget_upd (σ : St) (d : Option Nat) (v : AV) (e : Eff) (k : Nat) : hget (σ.upd d v e).heap k = updObj e k (hget σ.heap k) := by
  simp only [St.upd, St.eff, updObj]
  rw [hget_putAll, hget_kills]
  simp only
  rw [hget_frzH]
theorem eget_upd (σ : St) (d : Option Nat) (v : AV) (e : Eff) (t : Nat) : eget (σ.upd d v e).env t = if d = some t then v else killsV e.del (eget σ.env t) := by
  simp only [St.upd, St.eff]
  cases d with
  | none => simp only [setE, eget_kill]; simp
  | some d =>
    simp only [setE, eget_put]
    by_cases h : d = t
    · subst h; simp
    · rw [if_neg h, if_neg (by simpa using h), eget_kill]

/-! ### kills -/
mutual
theorem killV_id (k : Nat) : ∀ v : AV, k ∉ nm v → killV k v = v
  | .undef, _ => rfl
  | .int _ _, _ => rfl
  | .bool _, _ => rfl
  | .str _, _ => rfl
  | .sl _ _ _, _ => rfl
  | .own k' a b, h => by simp only [nm, List.mem_singleton] at h; simp only [killV]; rw [if_neg fun e => h e.symm]
  | .ptr k' a, h => by simp only [nm, List.mem_singleton] at h; simp only [killV]; rw [if_neg fun e => h e.symm]
  | .rptr k' a b, h => by simp only [nm, List.mem_singleton] at h; simp only [killV]; rw [if_neg fun e => h e.symm]
  | .el _ _ _, _ => rfl
  | .agg cs, h => by simp only [nm] at h; simp only [killV, killL_id k cs h]
  | .tup cs, h => by simp only [nm] at h; simp only [killV, killL_id k cs h]
  | .clo f cs, h => by simp only [nm] at h; simp only [killV, killL_id k cs h]
  | .fv _ _ _, _ => rfl
  | .g b v, h => by simp only [nm] at h; simp only [killV, killV_id k v h]
theorem killL_id (k : Nat) : ∀ cs : List AV, k ∉ nmL cs → killL k cs = cs
  | [], _ => rfl
  | c :: cs, h => by simp only [nmL, List.mem_append, not_or] at h; simp only [killL, killV_id k c h.1, killL_id k cs h.2]
end
mutual
theorem killV_comm (j k : Nat) : ∀ v : AV, killV j (killV k v) = killV k (killV j v)
  | .undef => rfl
  | .int _ _ => rfl
  | .bool _ => rfl
  | .str _ => rfl
  | .sl _ _ _ => rfl
  | .own k' a b => by simp only [killV]; by_cases e : k' = k <;> by_cases e' : k' = j <;> simp [killV, e, e'] <;> simp_all [killV]
  | .ptr k' a => by simp only [killV]; by_cases e : k' = k <;> by_cases e' : k' = j <;> simp [killV, e, e'] <;> simp_all [killV]
  | .rptr k' a b => by simp only [killV]; by_cases e : k' = k <;> by_cases e' : k' = j <;> simp [killV, e, e'] <;> simp_all [killV]
  | .el _ _ _ => rfl
  | .agg cs => by simp only [killV, killL_comm j k cs]
  | .tup cs => by simp only [killV, killL_comm j k cs]
  | .clo f cs => by simp only [killV, killL_comm j k cs]
  | .fv _ _ _ => rfl
  | .g b v => by simp only [killV, killV_comm j k v]
theorem killL_comm (j k : Nat) : ∀ cs : List AV, killL j (killL k cs) = killL k (killL j cs)
  | [] => rfl
  | c :: cs => by simp only [killL, killV_comm j k c, killL_comm j k cs]
end
mutual
theorem nm_killV (k : Nat) : ∀ (v : AV) (j : Nat), j ∈ nm (killV k v) → j ∈ nm v
  | .undef, j, h => h
  | .int _ _, j, h => h
  | .bool _, j, h => h
  | .str _, j, h => h
  | .sl _ _ _, j, h => h
  | .own k' a b, j, h => by simp only [killV] at h; split at h <;> simp_all [nm]
  | .ptr k' a, j, h => by simp only [killV] at h; split at h <;> simp_all [nm]
  | .rptr k' a b, j, h => by simp only [killV] at h; split at h <;> simp_all [nm]
  | .el _ _ _, j, h => h
  | .agg cs, j, h => by simp only [killV, nm] at h ⊢; exact nmL_killL k cs j h
  | .tup cs, j, h => by simp only [killV, nm] at h ⊢; exact nmL_killL k cs j h
  | .clo f cs, j, h => by simp only [killV, nm] at h ⊢; exact nmL_killL k cs j h
  | .fv _ _ _, j, h => h
  | .g b v, j, h => by simp only [killV, nm] at h ⊢; exact nm_killV k v j h
theorem nmL_killL (k : Nat) : ∀ (cs : List AV) (j : Nat), j ∈ nmL (killL k cs) → j ∈ nmL cs
  | [], j, h => h
  | c :: cs, j, h => by
    simp only [killL, nmL, List.mem_append] at h ⊢
    exact h.imp (nm_killV k c j) (nmL_killL k cs j)
end
mutual
theorem nm_killV_ne (k : Nat) : ∀ (v : AV) (j : Nat), j ≠ k → j ∈ nm v → j ∈ nm (killV k v)
  | .undef, j, _, h => h
  | .int _ _, j, _, h => h
  | .bool _, j, _, h => h
  | .str _, j, _, h => h
  | .sl _ _ _, j, _, h => h
  | .own k' a b, j, e, h => by simp only [nm, List.mem_singleton] at h; subst h; simp [killV, e, nm]
  | .ptr k' a, j, e, h => by simp only [nm, List.mem_singleton] at h; subst h; simp [killV, e, nm]
  | .rptr k' a b, j, e, h => by simp only [nm, List.mem_singleton] at h; subst h; simp [killV, e, nm]
  | .el _ _ _, j, _, h => h
  | .agg cs, j, e, h => by simp only [killV, nm] at h ⊢; exact nmL_killL_ne k cs j e h
  | .tup cs, j, e, h => by simp only [killV, nm] at h ⊢; exact nmL_killL_ne k cs j e h
  | .clo f cs, j, e, h => by simp only [killV, nm] at h ⊢; exact nmL_killL_ne k cs j e h
  | .fv _ _ _, j, _, h => h
  | .g b v, j, e, h => by simp only [killV, nm] at h ⊢; exact nm_killV_ne k v j e h
theorem nmL_killL_ne (k : Nat) : ∀ (cs : List AV) (j : Nat), j ≠ k → j ∈ nmL cs → j ∈ nmL (killL k cs)
  | [], j, _, h => h
  | c :: cs, j, e, h => by
    simp only [killL, nmL, List.mem_append] at h ⊢
    exact h.imp (nm_killV_ne k c j e) (nmL_killL_ne k cs j e)
end
theorem killsV_id {ks : List Nat} : ∀ {v : AV}, (∀ k ∈ ks, k ∉ nm v) → killsV ks v = v := by
  induction ks with
  | nil => intro v _; rfl
  | cons k ks ih =>
    intro v h
    simp only [killsV, killV_id k v (h k (List.mem_cons_self ..))]
    exact ih fun j hj => h j (List.mem_cons_of_mem _ hj)
theorem killsV_comm1 (k : Nat) {ks : List Nat} : ∀ {v : AV}, killsV ks (killV k v) = killV k (killsV ks v) := by
  induction ks with
  | nil => intro v; rfl
  | cons j ks ih => intro v; simp only [killsV, killV_comm j k v, ih]
theorem killsV_comm {js ks : List Nat} : ∀ {v : AV}, killsV js (killsV ks v) = killsV ks (killsV js v) := by
  induction js with
  | nil => intro v; rfl
  | cons j js ih => intro v; simp only [killsV, ← killsV_comm1 j (ks := ks), ih]
theorem nm_killsV {ks : List Nat} : ∀ {v : AV} {j : Nat}, j ∈ nm (killsV ks v) → j ∈ nm v := by
  induction ks with
  | nil => intro v j h; exact h
  | cons k ks ih => intro v j h; exact nm_killV k v j (ih h)
theorem nm_killsV_ne {ks : List Nat} : ∀ {v : AV} {j : Nat}, j ∉ ks → j ∈ nm v → j ∈ nm (killsV ks v) := by
  induction ks with
  | nil => intro v j _ h; exact h
  | cons k ks ih =>
    intro v j hj h
    simp only [List.mem_cons, not_or] at hj
    exact ih hj.2 (nm_killV_ne k v j hj.1 h)
theorem killO_box (k : Nat) (cs : List AV) : killO k (.box cs) = .box (killL k cs) := rfl
theorem killsO_row {ks : List Nat} {t : Ty} {xs : List (den t)} {f : Bool} : killsO ks (.row t xs f) = .row t xs f := by
  induction ks with
  | nil => rfl
  | cons k ks ih => simpa [killsO, killO] using ih
def killsL : List Nat → List AV → List AV
  | [], cs => cs
  | k :: ks, cs => killsL ks (killL k cs)
theorem killsO_box {ks : List Nat} : ∀ {cs : List AV}, killsO ks (.box cs) = .box (killsL ks cs) := by
  induction ks with
  | nil => intro cs; rfl
  | cons k ks ih => intro cs; simp only [killsO, killO, killsL, ih]
theorem killsL_id {ks : List Nat} : ∀ {cs : List AV}, (∀ k ∈ ks, k ∉ nmL cs) → killsL ks cs = cs := by
  induction ks with
  | nil => intro v _; rfl
  | cons k ks ih =>
    intro v h
    simp only [killsL, killL_id k v (h k (List.mem_cons_self ..))]
    exact ih fun j hj => h j (List.mem_cons_of_mem _ hj)
theorem killsL_comm1 (k : Nat) {ks : List Nat} : ∀ {v : List AV}, killsL ks (killL k v) = killL k (killsL ks v) := by
  induction ks with
  | nil => intro v; rfl
  | cons j ks ih => intro v; simp only [killsL, killL_comm j k v, ih]
theorem killsL_comm {js ks : List Nat} : ∀ {v : List AV}, killsL js (killsL ks v) = killsL ks (killsL js v) := by
  induction js with
  | nil => intro v; rfl
  | cons j js ih => intro v; simp only [killsL, ← killsL_comm1 j (ks := ks), ih]
theorem nmL_killsL {ks : List Nat} : ∀ {v : List AV} {j : Nat}, j ∈ nmL (killsL ks v) → j ∈ nmL v := by
  induction ks with
  | nil => intro v j h; exact h
  | cons k ks ih => intro v j h; exact nmL_killL k v j (ih h)
theorem killsO_id {ks : List Nat} {o : Obj} (h : ∀ k ∈ ks, k ∉ nmO (some o)) : killsO ks o = o := by
  cases o with
  | box cs => rw [killsO_box, killsL_id h]
  | row t xs f => exact killsO_row
theorem killsO_comm {js ks : List Nat} {o : Obj} : killsO js (killsO ks o) = killsO ks (killsO js o) := by
  cases o with
  | box cs => simp only [killsO_box, killsL_comm]
  | row t xs f => simp only [killsO_row]
theorem frzO_kills {ks : List Nat} {o : Obj} : frzO (killsO ks o) = killsO ks (frzO o) := by
  cases o with
  | box cs => simp only [killsO_box, frzO]
  | row t xs f => simp only [killsO_row, frzO]
end Go.AM
