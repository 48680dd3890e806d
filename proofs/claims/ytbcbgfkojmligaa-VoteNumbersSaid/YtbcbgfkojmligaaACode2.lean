import Derived.Test.YtbcbgfkojmligaaASwap4
import Derived.Scope
import Derived.Orders
import Derived.Deep.LoopGhost
/- Part of an abstract machine for Go code and of its soundness, for any program of the model; no condition. -/
set_option linter.unusedVariables false
set_option linter.unusedSimpArgs false
set_option linter.unusedSimpArgs false
set_option linter.constructorNameAsVariable false
namespace Go.AM
open Go.RowKit
section
variable {P : Program} {TT : TyTab} {N : Nat} {rowAt : List Nat} {X : Ctx} {σ : St} {a : Act} {w : World} {φ : Nat → Loc} {G M : Nat → Prop}

theorem shape_refl (o : Obj) : shape o o := by cases o <;> simp [shape]

theorem Rel.eqv {σ' : St} (h : Rel P X σ a w φ G M) (e : Eqv σ' σ) : Rel P X σ' a w φ G M := by
  have E : Ext φ φ G G M M w w σ.heap σ'.heap := ⟨fun _ h => h, fun _ _ => rfl, fun _ _ _ => rfl, fun k o hk => ⟨rfl, o, by rw [← e.2 k]; exact hk, shape_refl o⟩, fun _ _ h => h, Nat.le_refl _⟩
  have hH : RelH P φ G M w σ'.heap := ⟨fun k o hk => RObj.mono E rfl (fun _ => rfl) (fun h => h) (h.heap.obj k o (by rw [e.2 k]; exact hk)), fun k k' o o' hk hk' => h.heap.inj k k' o o' (by rw [e.2 k]; exact hk) (by rw [e.2 k']; exact hk'), h.heap.bnd, h.heap.mnd, h.heap.sep⟩
  have := Rel.step h E hH rfl rfl rfl (fun _ hb _ => .inl hb)
  exact { this with env := fun t => by rw [← e.1 t]; exact this.env t }

theorem vc_sound {T : Tab} (hT : TabOK P T) (hm : P.follows .mixedOrders = true) (hN : N ≤ X.N) : ∀ {code : Code} {c : C} {Q : Ex → St → Prop} {σ : St} {a : Act} {w : World} {φ : Nat → Loc} {G M : Nat → Prop} {QQ : Exit → Act → World → Prop},
    compC P TT N rowAt code = some c → vc T c Q σ → Rel P X σ a w φ G M → (∀ e a w, Post P X Q e a w → QQ e a w) → code.wp P QQ a w := by
  intro code
  induction code with
  | skip => intro c Q σ a w φ G M QQ hc h hR hQ; cases hc; exact wp_skip (hQ _ _ _ ⟨σ, φ, G, M, hR, h⟩)
  | label l => intro c Q σ a w φ G M QQ hc h hR hQ; cases hc; exact wp_label (hQ _ _ _ ⟨σ, φ, G, M, hR, h⟩)
  | exit id => intro c Q σ a w φ G M QQ hc h hR hQ; cases hc; exact wp_exit (hQ _ _ _ ⟨σ, φ, G, M, hR, h⟩)
  | ret => intro c Q σ a w φ G M QQ hc h hR hQ; cases hc; exact wp_ret (hQ _ _ _ ⟨σ, φ, G, M, hR, h⟩)
  | region id ops d =>
    intro c Q σ a w φ G M QQ hc h hR hQ
    cases d with
    | false =>
      simp only [compC] at hc
      split at hc
      · rename_i xs hxs
        cases hc
        refine wp_region ?_
        rw [List.range_eq_range']
        exact wpOps_sound hT hN (K := Q .norm) (fun a w h => hQ _ _ _ h) (by omega) hxs hR h
      · cases hc
    | true =>
      simp only [compC] at hc
      split at hc
      · rename_i xs hxs
        cases hc
        refine wp_region_any hm ?_
        refine anyOps_sound hT hN hxs (K := fun σ' => ∃ σf, Eqv σf σ' ∧ Q .norm σf) (fun a w ⟨σ', φ', G', M', hR', σf, he, hq⟩ => hQ _ _ _ ⟨σf, φ', G', M', hR'.eqv he, hq⟩) (by simp) (by simp [List.filter_replicate]) (hR.drew) ?_
        have e : (Array.replicate ops.size false).toList = xs.map fun _ => false := by
          have := compOps_len hxs
          rw [Array.toList_replicate]
          rw [List.map_const', this]; simp
        rw [e]
        have hl := compOps_len hxs
        simp only [Array.length_toList] at hl
        rw [← hl]
        exact evTab_any h
      · cases hc
  | seq x y ihx ihy =>
    intro c Q σ a w φ G M QQ hc h hR hQ
    simp only [compC] at hc
    split at hc
    · rename_i cx cy hx hy
      cases hc
      refine wp_seq (ihx hx h hR fun e a w hp => ?_)
      cases e with
      | normal => obtain ⟨σ', φ', G', M', hR', h'⟩ := hp; exact ihy hy h' hR' hQ
      | exit id => exact hQ _ _ _ hp
      | ret => exact hQ _ _ _ hp
      | _ => exact hp.elim
    · cases hc
  | cond cnd x y ihx ihy =>
    intro c Q σ a w φ G M QQ hc h hR hQ
    simp only [compC] at hc
    split at hc
    · rename_i oc cx cy hcc hx hy
      cases hc
      simp only [vc] at h
      have hv := opd_sound hR hcc
      split at h
      · rename_i t ht
        rw [ht] at hv
        simp only [RA] at hv
        exact wp_cond_split hv (fun e => ihx hx (h.1 e) hR hQ) (fun e => ihy hy (h.2 e) hR hQ)
      · rename_i d t ht
        rw [ht] at hv
        simp only [RA] at hv
        exact wp_cond_split (hv.1 h.1) (fun e => ihx hx (h.2.1 e) hR hQ) (fun e => ihy hy (h.2.2 e) hR hQ)
      · exact h.elim
    · cases hc
  | block id x ih =>
    intro c Q σ a w φ G M QQ hc h hR hQ
    simp only [compC] at hc
    split at hc
    · rename_i cx hx
      cases hc
      refine wp_block (ih hx h hR fun e a w hp => ?_)
      cases e with
      | normal => exact hQ _ _ _ hp
      | exit i =>
        obtain ⟨σ', φ', G', M', hR', h'⟩ := hp
        simp only [inBlock] at h'
        simp only [Exit.inBlock]
        split at h'
        · rename_i e; rw [if_pos e]; exact hQ _ _ _ ⟨σ', φ', G', M', hR', h'⟩
        · rename_i e; rw [if_neg e]; exact hQ _ _ _ ⟨σ', φ', G', M', hR', h'⟩
      | ret => exact hQ _ _ _ hp
      | _ => exact hp.elim
    · cases hc
  | scope x ih =>
    intro c Q σ a w φ G M QQ hc h hR hQ
    simp only [compC] at hc
    refine wp_scope_straight (ih hc h hR fun e a w hp => ?_)
    cases e with
    | goto l => exact hp.elim
    | _ => exact hQ _ _ _ hp
  | loop x ih =>
    intro c Q σ a w φ G M QQ hc h hR hQ
    simp only [compC] at hc
    split at hc
    · rename_i cx hx
      cases hc
      simp only [vc] at h
      obtain ⟨I, ⟨n0, σ0, hE, hI⟩, hstep⟩ := h
      refine wp_loop_ghost (fun n a w => ∃ σ φ G M, Rel P X σ a w φ G M ∧ I n σ) n0 ?_ ?_
      · obtain ⟨φ', G', M', hR'⟩ := hE P X a w φ G M hR
        exact ⟨σ0, φ', G', M', hR', hI⟩
      · rintro n a w ⟨σ, φ, G, M, hR, hI⟩
        refine ih hx (hstep n σ hI) hR fun e a w hp => ?_
        cases e with
        | normal =>
          obtain ⟨σ', φ', G', M', hR', n', σ'', hlt, hE', hI'⟩ := hp
          obtain ⟨φ'', G'', M'', hR''⟩ := hE' P X a w φ' G' M' hR'
          exact ⟨n', hlt, σ'', φ'', G'', M'', hR'', hI'⟩
        | exit id => exact hQ _ _ _ hp
        | ret => exact hQ _ _ _ hp
        | _ => exact hp.elim
    · cases hc
  | _ => intro c Q σ a w φ G M QQ hc h hR hQ; cases hc
end
end Go.AM
