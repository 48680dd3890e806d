import Derived.Test.YtbcbgfkojmligaaAJ
import Derived.Scope
import Derived.Orders
import Derived.Deep.LoopGhost
/- Part of an abstract machine for Go code and of its soundness, for any program of the model; no condition. -/
set_option maxHeartbeats 4000000
set_option linter.unusedVariables false
set_option linter.unusedSimpArgs false
set_option linter.unusedSimpArgs false
set_option linter.constructorNameAsVariable false
namespace Go.AM
open Go.RowKit
section
variable {P : Program} {TT : TyTab} {N : Nat} {rowAt : List Nat} {X : Ctx} {σ : St} {a : Act} {w : World} {φ : Nat → Loc} {G M : Nat → Prop}

theorem shape_refl (o : Obj) : shape o o := by cases o <;> simp [shape]

theorem Rel.eqv {σ' : St} (h : Rel P X σ a w φ G M) (e : Eqv σ' σ) : Rel P X σ' a w φ G M := by
  have E : Ext φ φ G G M M w w σ.heap σ'.heap := ⟨fun _ h => h, fun _ _ => rfl, fun _ _ _ => rfl, fun k o hk => ⟨rfl, o, by rw [← e.2 k]; exact hk, shape_refl o⟩, fun _ _ h => h, Nat.le_refl _⟩
  have hH : RelH P φ G M w σ'.heap := ⟨fun k o hk => RObj.mono E rfl (fun _ => rfl) (fun h => h) (h.heap.obj k o (by rw [e.2 k]; exact hk)), fun k k' o o' hk hk' => h.heap.inj k k' o o' (by rw [e.2 k]; exact hk) (by rw [e.2 k']; exact hk'), h.heap.bnd, h.heap.mnd, h.heap.sep⟩
  have := Rel.step h E hH rfl rfl rfl (fun _ hb _ => .inl hb)
  exact { this with env := fun t => by rw [← e.1 t]; exact this.env t }

theorem vc_sound {T : Tab} (hT : TabOK P T) (hm : P.follows .mixedOrders = true) (hN : N ≤ X.N) : ∀ {code : Code} {c : C} {Q : Ex → St → Prop} {σ : St} {a : Act} {w : World} {φ : Nat → Loc} {G M : Nat → Prop} {QQ : Exit → Act → World → Prop},
    compC P TT N rowAt code = some c → vc T c Q σ → Rel P X σ a w φ G M → (∀ e a w, Post P X Q e a w → QQ e a w) → code.wp P QQ a w := by
  intro code
  induction code with
  | skip => intro c Q σ a w φ G M QQ hc h hR hQ; cases hc; exact wp_skip (hQ _ _ _ ⟨σ, φ, G, M, hR, h⟩)
  | label l => intro c Q σ a w φ G M QQ hc h hR hQ; cases hc; exact wp_label (hQ _ _ _ ⟨σ, φ, G, M, hR, h⟩)
  | exit id => intro c Q σ a w φ G M QQ hc h hR hQ; cases hc; exact wp_exit (hQ _ _ _ ⟨σ, φ, G, M, hR, h⟩)
  | ret => intro c Q σ a w φ G M QQ hc h hR hQ; cases hc; exact wp_ret (hQ _ _ _ ⟨σ, φ, G, M, hR, h⟩)
  | region id ops d =>
    intro c Q σ a w φ G M QQ hc h hR hQ
    cases d with
    | false =>
      simp only [compC] at hc
      split at hc
      · rename_i xs hxs
        cases hc
        refine wp_region ?_
        rw [List.range_eq_range']
        exact wpOps_sound hT hN (K := Q .norm) (fun a w h => hQ _ _ _ h) (by omega) hxs hR h
      · cases hc
    | true =>
      simp only [compC] at hc
      split at hc
      · rename_i xs hxs
        cases hc
        refine wp_region_any hm ?_
        refine anyOps_sound hT hN hxs (K := fun σ' => ∃ σf, Eqv σf σ' ∧ Q .norm σf) (fun a w ⟨σ', φ', G', M', hR', σf, he, hq⟩ => hQ _ _ _ ⟨σf, φ', G', M', hR'.eqv he, hq⟩) (by simp) (by simp [List.filter_replicate]) (hR.drew) ?_
        have e : (Array.replicate ops.size false).toList = xs.map fun _ => false := by
          have := compOps_len hxs
          rw [Array.toList_replicate]
          rw [List.map_const', this]; simp
        rw [e]
        have hl := compOps_len hxs
        simp only [Array.length_toList] at hl
        rw [← hl]
        exact evTab_any h
      · cases hc
  | seq x y ihx ihy =>
    intro c Q σ a w φ G M QQ hc h hR hQ
    simp only [compC] at hc
    split at hc
    · rename_i cx cy hx hy
      cases hc
      refine wp_seq (ihx hx h hR fun e a w hp => ?_)
      cases e with
      | normal => obtain ⟨σ', φ', G', M', hR', h'⟩ := hp; exact ihy hy h' hR' hQ
      | exit id => exact hQ _ _ _ hp
      | ret => exact hQ _ _ _ hp
      | _ => exact hp.elim
    · cases hc
  | cond cnd x y ihx ihy =>
    intro c Q σ a w φ G M QQ hc h hR hQ
    simp only [compC] at hc
    split at hc
    · rename_i oc cx cy hcc hx hy
      cases hc
      simp only [vc] at h
      have hv := opd_sound hR hcc
      split at h
      · rename_i t ht
        rw [ht] at hv
        simp only [RA] at hv
        exact wp_cond_split hv (fun e => ihx hx (h.1 e) hR hQ) (fun e => ihy hy (h.2 e) hR hQ)
      · rename_i d t ht
        rw [ht] at hv
        simp only [RA] at hv
        exact wp_cond_split (hv.1 h.1) (fun e => ihx hx (h.2.1 e) hR hQ) (fun e => ihy hy (h.2.2 e) hR hQ)
      · exact h.elim
    · cases hc
  | block id x ih =>
    intro c Q σ a w φ G M QQ hc h hR hQ
    simp only [compC] at hc
    split at hc
    · rename_i cx hx
      cases hc
      refine wp_block (ih hx h hR fun e a w hp => ?_)
      cases e with
      | normal => exact hQ _ _ _ hp
      | exit i =>
        obtain ⟨σ', φ', G', M', hR', h'⟩ := hp
        simp only [inBlock] at h'
        simp only [Exit.inBlock]
        split at h'
        · rename_i e; rw [if_pos e]; exact hQ _ _ _ ⟨σ', φ', G', M', hR', h'⟩
        · rename_i e; rw [if_neg e]; exact hQ _ _ _ ⟨σ', φ', G', M', hR', h'⟩
      | ret => exact hQ _ _ _ hp
      | _ => exact hp.elim
    · cases hc
  | scope x ih =>
    intro c Q σ a w φ G M QQ hc h hR hQ
    simp only [compC] at hc
    refine wp_scope_straight (ih hc h hR fun e a w hp => ?_)
    cases e with
    | goto l => exact hp.elim
    | _ => exact hQ _ _ _ hp
  | loop x ih =>
    intro c Q σ a w φ G M QQ hc h hR hQ
    simp only [compC] at hc
    split at hc
    · rename_i cx hx
      cases hc
      simp only [vc] at h
      obtain ⟨I, ⟨n0, σ0, hE, hI⟩, hstep⟩ := h
      refine wp_loop_ghost (fun n a w => ∃ σ φ G M, Rel P X σ a w φ G M ∧ I n σ) n0 ?_ ?_
      · obtain ⟨φ', G', M', hR'⟩ := hE P X a w φ G M hR
        exact ⟨σ0, φ', G', M', hR', hI⟩
      · rintro n a w ⟨σ, φ, G, M, hR, hI⟩
        refine ih hx (hstep n σ hI) hR fun e a w hp => ?_
        cases e with
        | normal =>
          obtain ⟨σ', φ', G', M', hR', n', σ'', hlt, hE', hI'⟩ := hp
          obtain ⟨φ'', G'', M'', hR''⟩ := hE' P X a w φ' G' M' hR'
          exact ⟨n', hlt, σ'', φ'', G'', M'', hR'', hI'⟩
        | exit id => exact hQ _ _ _ hp
        | ret => exact hQ _ _ _ hp
        | _ => exact hp.elim
    · cases hc
  | _ => intro c Q σ a w φ G M QQ hc h hR hQ; cases hc
theorem Ent.refl0 (σ : St) : Ent σ σ := fun _ _ _ _ φ G M h => ⟨φ, G, M, h⟩
theorem Ent.trans0 {a b c : St} (h : Ent a b) (h' : Ent b c) : Ent a c := fun P X act w φ G M hR => by
  obtain ⟨φ1, G1, M1, h1⟩ := h P X act w φ G M hR
  exact h' P X act w φ1 G1 M1 h1
def isCut : C → Bool
  | .cut _ => true
  | _ => false
theorem strip {T : Tab} {Q : Ex → St → Prop} : ∀ {c : C} {σ : St}, vc T c Q σ → ∃ c' σ', isCut c' = false ∧ erase c' = erase c ∧ Ent σ σ' ∧ vc T c' Q σ' := by
  intro c
  induction c with
  | cut c ih =>
    intro σ h
    simp only [vc] at h
    obtain ⟨σ1, h1, h2⟩ := h
    obtain ⟨c', σ', h3, h4, h5, h6⟩ := ih h2
    exact ⟨c', σ', h3, by rw [h4]; simp only [erase], h1.trans0 h5, h6⟩
  | _ => intro σ h; exact ⟨_, σ, rfl, rfl, Ent.refl0 σ, h⟩

theorem erase_seq {c a b : C} (hn : isCut c = false) (h : some (C.seq a b) = some (erase c)) : ∃ x y, c = .seq x y ∧ erase x = a ∧ erase y = b := by
  cases c with
  | seq x y => simp only [erase, Option.some.injEq, C.seq.injEq] at h; exact ⟨x, y, rfl, h.1.symm, h.2.symm⟩
  | _ => simp [erase, isCut] at h hn
theorem erase_cond {c a b : C} {o : Opd} (hn : isCut c = false) (h : some (C.cond o a b) = some (erase c)) : ∃ x y, c = .cond o x y ∧ erase x = a ∧ erase y = b := by
  cases c with
  | cond o' x y => simp only [erase, Option.some.injEq, C.cond.injEq] at h; obtain ⟨rfl, h1, h2⟩ := h; exact ⟨x, y, rfl, h1.symm, h2.symm⟩
  | _ => simp [erase, isCut] at h hn
theorem erase_block {c a : C} {i : Nat} (hn : isCut c = false) (h : some (C.block i a) = some (erase c)) : ∃ x, c = .block i x ∧ erase x = a := by
  cases c with
  | block i' x => simp only [erase, Option.some.injEq, C.block.injEq] at h; obtain ⟨rfl, h1⟩ := h; exact ⟨x, rfl, h1.symm⟩
  | _ => simp [erase, isCut] at h hn
theorem erase_loop {c a : C} (hn : isCut c = false) (h : some (C.loop a) = some (erase c)) : ∃ x, c = .loop x ∧ erase x = a := by
  cases c <;> simp [erase, isCut] at h hn ⊢
  exact h.symm
theorem erase_skip {c : C} (hn : isCut c = false) (h : some C.skip = some (erase c)) : c = .skip := by
  cases c <;> simp [erase, isCut] at h hn ⊢
theorem erase_ret {c : C} (hn : isCut c = false) (h : some C.ret = some (erase c)) : c = .ret := by
  cases c <;> simp [erase, isCut] at h hn ⊢
theorem erase_exit {c : C} {i : Nat} (hn : isCut c = false) (h : some (C.exit i) = some (erase c)) : c = .exit i := by
  cases c <;> simp [erase, isCut] at h hn ⊢
  exact h.symm
theorem erase_reg {c : C} {ops : List AOp} (hn : isCut c = false) (h : some (C.reg ops) = some (erase c)) : c = .reg ops := by
  cases c <;> simp [erase, isCut] at h hn ⊢
  exact h.symm
theorem erase_regd {c : C} {ops : List AOp} {b : List Nat} (hn : isCut c = false) (h : some (C.regd ops b) = some (erase c)) : c = .regd ops b := by
  cases c <;> simp [erase, isCut] at h hn ⊢
  exact ⟨h.1.symm, h.2.symm⟩

theorem vc_sound2 {T : Tab} (hT : TabOK P T) (hm : P.follows .mixedOrders = true) (hN : N ≤ X.N) : ∀ {code : Code} {c : C} {Q : Ex → St → Prop} {σ : St} {a : Act} {w : World} {φ : Nat → Loc} {G M : Nat → Prop} {QQ : Exit → Act → World → Prop},
    compC P TT N rowAt code = some (erase c) → vc T c Q σ → Rel P X σ a w φ G M → (∀ e a w, Post P X Q e a w → QQ e a w) → code.wp P QQ a w := by
  intro code
  induction code with
  | skip => intro c Q σ a w φ G M QQ hc h hR hQ; obtain ⟨c, σ, hn, he, hE, h⟩ := strip h; rw [← he] at hc; obtain ⟨φ, G, M, hR⟩ := hE P X a w φ G M hR; clear he hE; simp only [compC] at hc; cases erase_skip hn hc; exact wp_skip (hQ _ _ _ ⟨σ, φ, G, M, hR, h⟩)
  | label l => intro c Q σ a w φ G M QQ hc h hR hQ; obtain ⟨c, σ, hn, he, hE, h⟩ := strip h; rw [← he] at hc; obtain ⟨φ, G, M, hR⟩ := hE P X a w φ G M hR; clear he hE; simp only [compC] at hc; cases erase_skip hn hc; exact wp_label (hQ _ _ _ ⟨σ, φ, G, M, hR, h⟩)
  | exit id => intro c Q σ a w φ G M QQ hc h hR hQ; obtain ⟨c, σ, hn, he, hE, h⟩ := strip h; rw [← he] at hc; obtain ⟨φ, G, M, hR⟩ := hE P X a w φ G M hR; clear he hE; simp only [compC] at hc; cases erase_exit hn hc; exact wp_exit (hQ _ _ _ ⟨σ, φ, G, M, hR, h⟩)
  | ret => intro c Q σ a w φ G M QQ hc h hR hQ; obtain ⟨c, σ, hn, he, hE, h⟩ := strip h; rw [← he] at hc; obtain ⟨φ, G, M, hR⟩ := hE P X a w φ G M hR; clear he hE; simp only [compC] at hc; cases erase_ret hn hc; exact wp_ret (hQ _ _ _ ⟨σ, φ, G, M, hR, h⟩)
  | region id ops d =>
    intro c Q σ a w φ G M QQ hc h hR hQ; obtain ⟨c, σ, hn, he, hE, h⟩ := strip h; rw [← he] at hc; obtain ⟨φ, G, M, hR⟩ := hE P X a w φ G M hR; clear he hE
    cases d with
    | false =>
      simp only [compC] at hc
      split at hc
      · rename_i xs hxs
        cases erase_reg hn hc
        refine wp_region ?_
        rw [List.range_eq_range']
        exact wpOps_sound hT hN (K := Q .norm) (fun a w h => hQ _ _ _ h) (by omega) hxs hR h
      · cases hc
    | true =>
      simp only [compC] at hc
      split at hc
      · rename_i xs hxs
        cases erase_regd hn hc
        refine wp_region_any hm ?_
        refine anyOps_sound hT hN hxs (K := fun σ' => ∃ σf, Eqv σf σ' ∧ Q .norm σf) (fun a w ⟨σ', φ', G', M', hR', σf, he, hq⟩ => hQ _ _ _ ⟨σf, φ', G', M', hR'.eqv he, hq⟩) (by simp) (by simp [List.filter_replicate]) (hR.drew) ?_
        have e : (Array.replicate ops.size false).toList = xs.map fun _ => false := by
          have := compOps_len hxs
          rw [Array.toList_replicate]
          rw [List.map_const', this]; simp
        rw [e]
        have hl := compOps_len hxs
        simp only [Array.length_toList] at hl
        rw [← hl]
        exact evTab_any h
      · cases hc
  | seq x y ihx ihy =>
    intro c Q σ a w φ G M QQ hc h hR hQ; obtain ⟨c, σ, hn, he, hE, h⟩ := strip h; rw [← he] at hc; obtain ⟨φ, G, M, hR⟩ := hE P X a w φ G M hR; clear he hE
    simp only [compC] at hc
    split at hc
    · rename_i cx cy hx hy
      obtain ⟨c1, c2, rfl, rfl, rfl⟩ := erase_seq hn hc
      refine wp_seq (ihx hx h hR fun e a w hp => ?_)
      cases e with
      | normal => obtain ⟨σ', φ', G', M', hR', h'⟩ := hp; exact ihy hy h' hR' hQ
      | exit id => exact hQ _ _ _ hp
      | ret => exact hQ _ _ _ hp
      | _ => exact hp.elim
    · cases hc
  | cond cnd x y ihx ihy =>
    intro c Q σ a w φ G M QQ hc h hR hQ; obtain ⟨c, σ, hn, he, hE, h⟩ := strip h; rw [← he] at hc; obtain ⟨φ, G, M, hR⟩ := hE P X a w φ G M hR; clear he hE
    simp only [compC] at hc
    split at hc
    · rename_i oc cx cy hcc hx hy
      obtain ⟨c1, c2, rfl, rfl, rfl⟩ := erase_cond hn hc
      simp only [vc] at h
      have hv := opd_sound hR hcc
      split at h
      · rename_i t ht
        rw [ht] at hv
        simp only [RA] at hv
        exact wp_cond_split hv (fun e => ihx hx (h.1 e) hR hQ) (fun e => ihy hy (h.2 e) hR hQ)
      · rename_i d t ht
        rw [ht] at hv
        simp only [RA] at hv
        exact wp_cond_split (hv.1 h.1) (fun e => ihx hx (h.2.1 e) hR hQ) (fun e => ihy hy (h.2.2 e) hR hQ)
      · exact h.elim
    · cases hc
  | block id x ih =>
    intro c Q σ a w φ G M QQ hc h hR hQ; obtain ⟨c, σ, hn, he, hE, h⟩ := strip h; rw [← he] at hc; obtain ⟨φ, G, M, hR⟩ := hE P X a w φ G M hR; clear he hE
    simp only [compC] at hc
    split at hc
    · rename_i cx hx
      obtain ⟨c1, rfl, rfl⟩ := erase_block hn hc
      refine wp_block (ih hx h hR fun e a w hp => ?_)
      cases e with
      | normal => exact hQ _ _ _ hp
      | exit i =>
        obtain ⟨σ', φ', G', M', hR', h'⟩ := hp
        simp only [inBlock] at h'
        simp only [Exit.inBlock]
        split at h'
        · rename_i e; rw [if_pos e]; exact hQ _ _ _ ⟨σ', φ', G', M', hR', h'⟩
        · rename_i e; rw [if_neg e]; exact hQ _ _ _ ⟨σ', φ', G', M', hR', h'⟩
      | ret => exact hQ _ _ _ hp
      | _ => exact hp.elim
    · cases hc
  | scope x ih =>
    intro c Q σ a w φ G M QQ hc h hR hQ; obtain ⟨c, σ, hn, he, hE, h⟩ := strip h; rw [← he] at hc; obtain ⟨φ, G, M, hR⟩ := hE P X a w φ G M hR; clear he hE
    simp only [compC] at hc
    refine wp_scope_straight (ih hc h hR fun e a w hp => ?_)
    cases e with
    | goto l => exact hp.elim
    | _ => exact hQ _ _ _ hp
  | loop x ih =>
    intro c Q σ a w φ G M QQ hc h hR hQ; obtain ⟨c, σ, hn, he, hE, h⟩ := strip h; rw [← he] at hc; obtain ⟨φ, G, M, hR⟩ := hE P X a w φ G M hR; clear he hE
    simp only [compC] at hc
    split at hc
    · rename_i cx hx
      obtain ⟨c1, rfl, rfl⟩ := erase_loop hn hc
      simp only [vc] at h
      obtain ⟨I, ⟨n0, σ0, hE, hI⟩, hstep⟩ := h
      refine wp_loop_ghost (fun n a w => ∃ σ φ G M, Rel P X σ a w φ G M ∧ I n σ) n0 ?_ ?_
      · obtain ⟨φ', G', M', hR'⟩ := hE P X a w φ G M hR
        exact ⟨σ0, φ', G', M', hR', hI⟩
      · rintro n a w ⟨σ, φ, G, M, hR, hI⟩
        refine ih hx (hstep n σ hI) hR fun e a w hp => ?_
        cases e with
        | normal =>
          obtain ⟨σ', φ', G', M', hR', n', σ'', hlt, hE', hI'⟩ := hp
          obtain ⟨φ'', G'', M'', hR''⟩ := hE' P X a w φ' G' M' hR'
          exact ⟨n', hlt, σ'', φ'', G'', M'', hR'', hI'⟩
        | exit id => exact hQ _ _ _ hp
        | ret => exact hQ _ _ _ hp
        | _ => exact hp.elim
    · cases hc
  | _ => intro c Q σ a w φ G M QQ hc h hR hQ; simp [compC] at hc
end
end Go.AM

set_option linter.unusedSimpArgs false
set_option linter.constructorNameAsVariable false
namespace Go.AM
open Go.RowKit
section
variable {P : Program} {TT : TyTab} {N : Nat} {rowAt : List Nat} {X : Ctx} {σ : St} {a : Act} {w : World} {φ : Nat → Loc} {G M : Nat → Prop}

/-- Where a result stands. -/
inductive RO where
  | t (n : Nat)
  | c (n size : Nat)

def compRes (P : Program) : List ResultVar → Option (List RO)
  | [] => some []
  | .tmp n :: rs => match compRes P rs with
    | some r => some (.t n :: r)
    | none => none
  | .cell n t :: rs => match compRes P rs with
    | some r => if isAggB P t then some (.c n (P.cellsOf t) :: r) else none
    | none => none

def readO (σ : St) : RO → Option AV
  | .t n => some (eget σ.env n)
  | .c n size => match eget σ.env n with
    | .ptr k 0 => match hget σ.heap k with
      | some (.box cs) => match cut cs 0 size with
        | some r => some (.agg r)
        | none => none
      | _ => none
    | _ => none
def readAll (σ : St) : List RO → Option (List AV)
  | [] => some []
  | r :: rs => match readO σ r with
    | some v => match readAll σ rs with
      | some vs => some (v :: vs)
      | none => none
    | none => none

def rdRes (tmps : Array Value) : ResultVar → Sem Value
  | .tmp t => pure (tmps.getD t undef)
  | .cell a t => do loadVar t (← asAddr (tmps.getD a undef))

theorem results_eq (fn : Func) (tmps : Array Value) : results fn tmps = (do
    let vs ← fn.results.mapM (rdRes tmps)
    pure (if h : vs.size = 1 then vs[0] else .tuple vs)) := by
  unfold results
  congr 1

theorem loadVar_sound (hR : Rel P X σ a w φ G M) {t : TypeId} {n k : Nat} {cs r : List AV} (hag : isAggB P t = true) (he : eget σ.env n = .ptr k 0) (hk : hget σ.heap k = some (.box cs)) (hc : cut cs 0 (P.cellsOf t) = some r) :
    ∃ u, (rdRes a.tmps (.cell n t)).run P w = .ok u w ∧ RA P φ G M w σ.heap (.agg r) u := by
  have hp := hR.env n
  rw [he] at hp
  simp only [RA] at hp
  have hob := hR.heap.obj k _ hk
  simp only [RObj] at hob
  obtain ⟨c, ty, hblk, hm, hcs⟩ := hob
  obtain ⟨h1, h2⟩ := cut_sound hcs hc
  have hlen : ((c.toList.drop 0).take (P.cellsOf t)).length = P.cellsOf t := by simp at h2 ⊢; omega
  let o : Oper := { (default : Oper) with op := .load t (.tmp n) }
  obtain ⟨u, hrun, hra⟩ := load_sound (P := P) (w := w) (a := a) (o := o) (φ := φ) (G := G) (M := M) (H := σ.heap) (v := .agg r) (agg := true) rfl (hp.1) (.inl ⟨hag, rfl, rfl⟩) h1 hlen (fun j u hu => by
    have hj : j < P.cellsOf t := by have := (List.getElem?_eq_some_iff.1 hu).1; omega
    rw [List.getElem?_take_of_lt hj, List.getElem?_drop] at hu
    simp only [World.cell?, hblk, Option.isSome_none, Bool.false_eq_true, if_false]
    rw [← Array.getElem?_toList]; exact hu) rfl
  refine ⟨u, ?_, hra⟩
  have hx : a.tmps.getD n undef = .pointer (some ⟨(φ k).blk, 0, none⟩) := hp.1
  have hx2 : a.eval (.tmp n) = .pointer (some ⟨(φ k).blk, 0, none⟩) := hp.1
  simp only [o, execOp, Instr.loadAt, Instr.sureAddr, hx2, Sem.run_bind, Sem.run_pure, Result.andThen_ok] at hrun
  simp only [rdRes, hx, asAddr, Sem.run_bind, Sem.run_pure, Result.andThen_ok]
  cases hl : (loadVar t ⟨(φ k).blk, 0, none⟩).run P w with
  | ok v w' => rw [hl] at hrun; simp only [Result.andThen_ok, Sem.run_pure] at hrun; cases hrun; rfl
  | halt x w' => rw [hl] at hrun; simp [Result.andThen] at hrun

theorem readAll_sound (hR : Rel P X σ a w φ G M) : ∀ {rs : List ResultVar} {ros : List RO} {vs : List AV}, compRes P rs = some ros → readAll σ ros = some vs → ∃ us, (rs.mapM (rdRes a.tmps)).run P w = .ok us w ∧ RAL P φ G M w σ.heap vs us := by
  intro rs
  induction rs with
  | nil =>
    intro ros vs hc h
    cases hc
    cases h
    exact ⟨[], by simp, by simp only [RAL]⟩
  | cons r rs ih =>
    intro ros vs hc h
    have key : ∀ {x : RO} {xs : List RO} {vs : List AV}, compRes P rs = some xs → readAll σ (x :: xs) = some vs → (∀ v, readO σ x = some v → ∃ u, (rdRes a.tmps r).run P w = .ok u w ∧ RA P φ G M w σ.heap v u) →
        ∃ us, ((r :: rs).mapM (rdRes a.tmps)).run P w = .ok us w ∧ RAL P φ G M w σ.heap vs us := by
      intro x xs vs hcx h hx
      simp only [readAll] at h
      split at h
      · rename_i v hv
        split at h
        · rename_i vs' hvs
          cases h
          obtain ⟨u, hu, hra⟩ := hx v hv
          obtain ⟨us, hus, hral⟩ := ih hcx hvs
          refine ⟨u :: us, ?_, by simp only [RAL]; exact ⟨u, us, rfl, hra, hral⟩⟩
          simp only [List.mapM_cons, Sem.run_bind, hu, hus, Result.andThen_ok, Sem.run_pure]
        · cases h
      · cases h
    cases r with
    | tmp n =>
      simp only [compRes] at hc
      split at hc
      · rename_i xs hxs
        cases hc
        refine key hxs h fun v hv => ?_
        simp only [readO] at hv
        cases hv
        exact ⟨_, by simp only [rdRes, Sem.run_pure], hR.env n⟩
      · cases hc
    | cell n t =>
      simp only [compRes] at hc
      split at hc
      · rename_i xs hxs
        split at hc
        · rename_i hag
          cases hc
          refine key hxs h fun v hv => ?_
          simp only [readO] at hv
          split at hv
          · rename_i k he
            split at hv
            · rename_i cs hk
              split at hv
              · rename_i r hcut
                cases hv
                exact loadVar_sound hR hag he hk hcut
              · cases hv
            · cases hv
          · cases hv
        · cases hc
      · cases hc

/-- A list that leaves the function with its place. -/
def ownOf (H : Heap) (t : Ty) : AV → Option (List (den t) × Option Nat)
  | .own k 0 n => match hget H k with
    | some (.row t' xs false) => match castL? t' t (xs.take n) with
      | some ys => some (ys, some k)
      | none => none
    | _ => none
  | .sl t' [] true => if t' = t then some ([], none) else none
  | _ => none

/-- Do these values answer so? os: the rows that leave; fs: the rows that are frozen. -/
def resP (H : Heap) : (r : Ty) → den r → List AV → List Nat → List Nat → Prop
  | .pair (.olist t) b, y, v :: vs, os, fs => match ownOf H t v with
    | some (xs, some k) => xs = y.1 ∧ k ∉ os ∧ k ∉ fs ∧ resP H b y.2 vs (k :: os) fs
    | some (xs, none) => xs = y.1 ∧ resP H b y.2 vs os fs
    | none => False
  | .pair t b, y, v :: vs, os, fs => match toV H t v with
    | some x => x = y.1 ∧ noRef t = true ∧ (∀ k ∈ keysV H v, k ∉ os) ∧ resP H b y.2 vs os (keysV H v ++ fs)
    | none => False
  | .unit, _, [], _, _ => True
  | _, _, _, _, _ => False

def frzK (H : Heap) : (r : Ty) → List AV → List Nat
  | .pair (.olist _) b, _ :: vs => frzK H b vs
  | .pair _ b, v :: vs => keysV H v ++ frzK H b vs
  | _, _ => []

theorem resP_os {H : Heap} {r : Ty} : ∀ {y : den r} {vs : List AV} {os fs : List Nat}, resP H r y vs os fs → ∀ k ∈ os, k ∉ frzK H r vs := by
  induction r with
  | pair t b _ ih =>
    intro y vs os fs h k hk
    cases vs with
    | nil => cases t <;> simp [resP] at h
    | cons v vs =>
      have ne : (∀ s, t ≠ .olist s) → k ∉ frzK H (.pair t b) (v :: vs) := by
        intro hne
        have h' : match toV H t v with
          | some x => x = y.1 ∧ noRef t = true ∧ (∀ k ∈ keysV H v, k ∉ os) ∧ resP H b y.2 vs os (keysV H v ++ fs)
          | none => False := by
          cases t <;> first | exact h | exact absurd rfl (hne _)
        have e : frzK H (.pair t b) (v :: vs) = keysV H v ++ frzK H b vs := by
          cases t <;> first | rfl | exact absurd rfl (hne _)
        rw [e, List.mem_append, not_or]
        split at h'
        · exact ⟨fun hv => h'.2.2.1 k hv hk, ih h'.2.2.2 k hk⟩
        · exact h'.elim
      cases t with
      | olist s =>
        simp only [resP] at h
        simp only [frzK]
        split at h
        · exact ih h.2.2.2 k (List.mem_cons_of_mem _ hk)
        · exact ih h.2 k hk
        · exact h.elim
      | _ => exact ne (by intro s; simp)
  | _ => intro y vs os fs h k hk; simp [frzK]

theorem RowAt.take {t : Ty} {xs : List (den t)} {L : Loc} (h : RowAt P t G w xs L) (n : Nat) : RowAt P t G w (xs.take n) L := by
  obtain ⟨h1, h2, h3⟩ := h
  refine ⟨h1, h2, ?_⟩
  rcases h3 with ⟨hc, rfl⟩ | ⟨c, e, a1, a2, a3, a4, a5, a6⟩
  · exact .inl ⟨hc, by simp⟩
  · refine .inr ⟨c, e, a1, a2, a3, a4, by simp; omega, fun i hi => ?_⟩
    have hi' : i < xs.length := by simp at hi; omega
    have := a6 i hi'
    simpa using this

theorem resP_sound (hR : Rel P X σ a w φ G M) {H0 : Heap} (hs : HS H0 σ.heap) {ks : List Nat} (ho : ∀ k, k ∉ ks → hget σ.heap k = hget H0 k) (hf : Frozen σ.heap ks) {r : Ty} :
    ∀ {y : den r} {vs : List AV} {us : List Value} {os fs : List Nat}, resP H0 r y vs os fs → RAL P φ G M w σ.heap vs us → (∀ k, k ∈ ks → k ∈ fs ∨ k ∈ frzK H0 r vs) → (∀ k ∈ frzK H0 r vs, k ∈ ks) →
      ∃ Ls, ROs P r G w y us Ls ∧ (∀ L ∈ Ls, 0 < L.cap → ∃ k t xs, k ∉ os ∧ hget σ.heap k = some (.row t xs false) ∧ φ k = L) ∧ Ls.Pairwise fun a b => 0 < a.cap → 0 < b.cap → a.blk ≠ b.blk := by
  induction r with
  | unit =>
    intro y vs us os fs h hv _ _
    cases vs with
    | nil => simp only [RAL] at hv; subst hv; exact ⟨[], by simp [ROs], by simp, .nil⟩
    | cons v vs => simp [resP] at h
  | pair t b _ ih =>
    intro y vs us os fs h hv hk1 hk2
    cases vs with
    | nil => cases t <;> simp [resP] at h
    | cons v vs =>
      simp only [RAL] at hv
      obtain ⟨u, us', rfl, hu, hus⟩ := hv
      have ne : (∀ s, t ≠ .olist s) → ∃ Ls, ROs P (.pair t b) G w y (u :: us') Ls ∧ (∀ L ∈ Ls, 0 < L.cap → ∃ k t xs, k ∉ os ∧ hget σ.heap k = some (.row t xs false) ∧ φ k = L) ∧ Ls.Pairwise fun a b => 0 < a.cap → 0 < b.cap → a.blk ≠ b.blk := by
        intro hne
        have h' : match toV H0 t v with
          | some x => x = y.1 ∧ noRef t = true ∧ (∀ k ∈ keysV H0 v, k ∉ os) ∧ resP H0 b y.2 vs os (keysV H0 v ++ fs)
          | none => False := by
          cases t <;> first | exact h | exact absurd rfl (hne _)
        have e : frzK H0 (.pair t b) (v :: vs) = keysV H0 v ++ frzK H0 b vs := by
          cases t <;> first | rfl | exact absurd rfl (hne _)
        rw [e] at hk1 hk2
        split at h'
        · rename_i x hx
          obtain ⟨rfl, hnr, _, hb⟩ := h'
          obtain ⟨Ls, h1, h2, h3⟩ := ih hb hus (fun k hk => by
            rcases hk1 k hk with h | h
            · exact .inl (List.mem_append_right _ h)
            · rcases List.mem_append.1 h with h | h
              · exact .inl (List.mem_append_left _ h)
              · exact .inr h) (fun k hk => hk2 k (List.mem_append_right _ hk))
          have hrv : RV P t G w y.1 u := toV_sound hR.heap (fun _ h => h) (.inr ⟨hnr, hf.sub fun k hk => hk2 k (List.mem_append_left _ (keysV_sub H0 v k hk))⟩) hu (by rw [toV_same hs]; exact hx)
          refine ⟨Ls, ?_, h2, h3⟩
          simp only [ROs]
          refine ⟨u, us', [], Ls, rfl, rfl, ?_, h1⟩
          cases t <;> first | exact ⟨rfl, hrv⟩ | exact absurd rfl (hne _)
        · exact h'.elim
      cases t with
      | olist s =>
        simp only [resP] at h
        simp only [frzK] at hk1 hk2
        cases hown : ownOf H0 s v with
        | none => rw [hown] at h; exact h.elim
        | some p =>
          obtain ⟨xs, ko⟩ := p
          cases ko with
          | none =>
            rw [hown] at h
            simp only at h
            obtain ⟨rfl, hb⟩ := h
            obtain ⟨Ls, h1, h2, h3⟩ := ih hb hus hk1 hk2
            refine ⟨⟨0, 0, 0⟩ :: Ls, ?_, ?_, ?_⟩
            · simp only [ROs]
              refine ⟨u, us', [⟨0, 0, 0⟩], Ls, rfl, rfl, ?_, h1⟩
              unfold ownOf at hown
              split at hown
              · split at hown
                · split at hown <;> simp at hown
                · cases hown
              · split at hown
                · rename_i e
                  subst e
                  simp only [Option.some.injEq, Prod.mk.injEq, and_true] at hown
                  rw [← hown]
                  simp only [RA] at hu
                  obtain ⟨p1, p2, _, p4⟩ := hu
                  obtain ⟨A, rfl⟩ := p4 trivial
                  simp only [RVL]
                  exact ⟨⟨0, 0, 0⟩, rfl, ⟨A, by simp, by simp, .inl rfl⟩, p1, p2, .inl ⟨rfl, rfl⟩⟩
                · cases hown
              · cases hown
            · intro L hL hc
              rcases List.mem_cons.1 hL with rfl | hL
              · exact absurd hc (by simp)
              · exact h2 L hL hc
            · exact List.Pairwise.cons (fun L _ hc => absurd hc (by simp)) h3
          | some k =>
            rw [hown] at h
            simp only at h
            obtain ⟨rfl, hko, hkf, hb⟩ := h
            obtain ⟨Ls, h1, h2, h3⟩ := ih hb hus hk1 hk2
            have hks : k ∉ ks := fun hk => by
              rcases hk1 k hk with h | h
              · exact hkf h
              · exact resP_os hb k (List.mem_cons_self ..) h
            have hhk := ho k hks
            unfold ownOf at hown
            split at hown
            · rename_i k' n
              split at hown
              · rename_i t' xs' hkk
                split at hown
                · rename_i ys hys
                  simp only [Option.some.injEq, Prod.mk.injEq] at hown
                  obtain ⟨rfl, rfl⟩ := hown
                  obtain ⟨e, hye⟩ := castL?_eq hys
                  subst e
                  simp only at hye
                  rw [hkk] at hhk
                  simp only [RA, hhk] at hu
                  have hob := hR.heap.obj k' _ hhk
                  simp only [RObj] at hob
                  refine ⟨φ k' :: Ls, ?_, ?_, ?_⟩
                  · simp only [ROs]
                    refine ⟨u, us', [φ k'], Ls, rfl, rfl, ?_, h1⟩
                    simp only [RVL]
                    refine ⟨φ k', rfl, ?_, by rw [← hye]; exact hob.1.take n⟩
                    rw [← hye]
                    have hl : (xs'.take n).length = n := by simp; omega
                    rw [hl]
                    exact hu.2
                  · intro L hL hc
                    rcases List.mem_cons.1 hL with rfl | hL
                    · exact ⟨k', t', xs', hko, hhk, rfl⟩
                    · obtain ⟨k2, t2, xs2, e1, e2, e3⟩ := h2 L hL hc
                      exact ⟨k2, t2, xs2, fun hm => e1 (List.mem_cons_of_mem _ hm), e2, e3⟩
                  · refine List.Pairwise.cons (fun L hL hc hc' => ?_) h3
                    obtain ⟨k2, t2, xs2, e1, e2, e3⟩ := h2 L hL hc'
                    have hne : k' ≠ k2 := fun e => e1 (by rw [e]; exact List.mem_cons_self ..)
                    rw [← e3]
                    exact hR.heap.inj _ _ _ _ hhk e2 hne (by simpa [alloc] using hc) (by rw [← e3] at hc'; simpa [alloc] using hc')
                · cases hown
              · cases hown
            · split at hown <;> simp at hown
            · cases hown
      | _ => exact ne (by intro s; simp)
  | _ => intro y vs us os fs h; cases vs <;> simp [resP] at h

def initEnv : Nat → List AV → Env
  | _, [] => []
  | i, v :: vs => (i, v) :: initEnv (i + 1) vs

/-- What a function's end must show. -/
def RQ (ros : List RO) (r : Ty) (y : den r) (e : Ex) (σ : St) : Prop :=
  match e with
  | .exit _ => False
  | _ => match readAll σ ros with
    | some vs => resP σ.heap r y vs [] []
    | none => False

/-- Arguments that the machine knows. -/
def okArgs : Ty → Bool
  | .pair (.fn _ _) b => okArgs b
  | .pair t b => plain t && okArgs b
  | .unit => true
  | _ => false

theorem initEnv_sound {H : Heap} : ∀ {vs : List AV} {us : List Value} {i t : Nat}, RAL P φ G M w H vs us → (i ≤ t → RA P φ G M w H (eget (initEnv i vs) t) (us.getD (t - i) undef)) ∧ (t < i → eget (initEnv i vs) t = .undef) := by
  intro vs
  induction vs with
  | nil => intro us i t h; exact ⟨fun _ => by simp only [initEnv, eget, RA], fun _ => rfl⟩
  | cons v vs ih =>
    intro us i t h
    simp only [RAL] at h
    obtain ⟨u, us', rfl, hu, hus⟩ := h
    simp only [initEnv, eget]
    refine ⟨fun hle => ?_, fun hlt => ?_⟩
    · by_cases e : i = t
      · subst e; simpa using hu
      · rw [if_neg e]
        have := (ih (i := i + 1) (t := t) hus).1 (by omega)
        have e2 : t - i = (t - (i + 1)) + 1 := by omega
        rw [e2]; simpa using this
    · rw [if_neg (by omega)]
      exact (ih (i := i + 1) (t := t) hus).2 (by omega)

theorem ofArgs_sound {H : Heap} {ty : Ty} : ∀ {x : den ty} {us : List Value}, okArgs ty = true → (∀ b, ¬ M b) → RArgs P ty G w x us → RAL P φ G M w H (ofArgs ty x) us := by
  induction ty with
  | unit => intro x us _ _ h; simp only [RArgs] at h; subst h; simp only [ofArgs, RAL]
  | pair t b _ ih =>
    intro x us ho hM h
    simp only [RArgs] at h
    obtain ⟨v, vs', rfl, h1, h2⟩ := h
    simp only [ofArgs, RAL]
    have hb : okArgs b = true := by
      cases t <;> simp only [okArgs, Bool.and_eq_true] at ho <;> first | exact ho.2 | exact ho
    refine ⟨v, vs', rfl, ?_, ih hb hM h2⟩
    have ne : plain t = true → RA P φ G M w H (ofV t x.1) v := fun hp => RV.ra hp h1
    cases t with
    | fn a' r' =>
      simp only [isSt, Bool.false_eq_true, if_false, RT] at h1
      obtain ⟨f, caps, wd, e, e1, e2, e3, e4⟩ := h1
      simp only [List.cons.injEq, and_true] at e
      simp only [ofV, RA]
      exact ⟨f, caps, wd, e, e1, e2, e3, fun b _ => hM b, e4⟩
    | _ => simp only [okArgs, Bool.and_eq_true] at ho; exact ne ho.1
  | _ => intro x us ho; simp [okArgs] at ho

theorem readAll_frz {σ : St} (ks : List Nat) : ∀ {ros : List RO}, readAll ⟨σ.env, frzH σ.heap ks⟩ ros = readAll σ ros := by
  have key : ∀ k cs, hget (frzH σ.heap ks) k = some (.box cs) ↔ hget σ.heap k = some (.box cs) := by
    intro k cs
    have := HS.frz ks σ.heap k
    cases h1 : hget σ.heap k with
    | none =>
      cases h2 : hget (frzH σ.heap ks) k with
      | none => simp
      | some o => rw [h1, h2] at this; simp [oSame] at this
    | some o =>
      cases o with
      | box cs1 =>
        cases h2 : hget (frzH σ.heap ks) k with
        | none => rw [h1, h2] at this; simp [oSame] at this
        | some o2 =>
          cases o2 with
          | box cs2 => rw [h1, h2] at this; simp only [oSame] at this; rw [this]
          | row t xs f => rw [h1, h2] at this; simp [oSame] at this
          | mp l => rw [h1, h2] at this; simp [oSame] at this
      | mp l =>
        cases h2 : hget (frzH σ.heap ks) k with
        | none => simp
        | some o2 =>
          cases o2 with
          | box cs2 => rw [h1, h2] at this; simp [oSame] at this
          | row t xs f => rw [h1, h2] at this; simp [oSame] at this
          | mp l => simp
      | row t xs f =>
        rw [h1] at this
        simp only [oSame] at this
        obtain ⟨f', e⟩ := this
        rw [e]; simp
  intro ros
  induction ros with
  | nil => rfl
  | cons r ros ih =>
    have e : readO ⟨σ.env, frzH σ.heap ks⟩ r = readO σ r := by
      cases r with
      | t n => rfl
      | c n size =>
        simp only [readO]
        cases eget σ.env n with
        | ptr k off =>
          cases off with
          | zero =>
            simp only
            cases hb : hget σ.heap k with
            | none =>
              cases hb' : hget (frzH σ.heap ks) k with
              | none => rfl
              | some o =>
                cases o with
                | box cs => rw [(key k cs).1 hb'] at hb; cases hb
                | row t xs f => rfl
                | mp l => rfl
            | some o =>
              cases o with
              | box cs => rw [(key k cs).2 hb]
              | mp l =>
                cases hb' : hget (frzH σ.heap ks) k with
                | none => rfl
                | some o =>
                  cases o with
                  | box cs => rw [(key k cs).1 hb'] at hb; cases hb
                  | row t xs f => rfl
                  | mp l => rfl
              | row t xs f =>
                cases hb' : hget (frzH σ.heap ks) k with
                | none => rfl
                | some o =>
                  cases o with
                  | box cs => rw [(key k cs).1 hb'] at hb; cases hb
                  | row t xs f => rfl
                  | mp l => rfl
          | succ n => rfl
        | _ => rfl
    simp only [readAll, e, ih]

theorem resP_len {H : Heap} {r : Ty} : ∀ {y : den r} {vs : List AV} {os fs : List Nat}, resP H r y vs os fs → ∀ {us : List Value}, us.length = vs.length → (r = .unit ∧ us = []) ∨ ∃ t b, r = .pair t b ∧ ((b = .unit ∧ ∃ u, us = [u]) ∨ (b ≠ .unit ∧ 2 ≤ us.length)) := by
  intro y vs os fs h us hl
  cases r with
  | unit => cases vs with
    | nil => exact .inl ⟨rfl, List.eq_nil_of_length_eq_zero hl⟩
    | cons v vs => simp [resP] at h
  | pair t b =>
    refine .inr ⟨t, b, rfl, ?_⟩
    cases vs with
    | nil => cases t <;> simp [resP] at h
    | cons v vs =>
      have hb : ∃ os' fs', resP H b y.2 vs os' fs' := by
        cases t with
        | olist s =>
          simp only [resP] at h
          split at h
          · exact ⟨_, _, h.2.2.2⟩
          · exact ⟨_, _, h.2⟩
          · exact h.elim
        | _ =>
          simp only [resP] at h
          split at h
          · exact ⟨_, _, h.2.2.2⟩
          · exact h.elim
      obtain ⟨os', fs', hb⟩ := hb
      cases b with
      | unit =>
        cases vs with
        | nil => simp only [List.length_cons, List.length_nil] at hl; exact .inl ⟨rfl, List.length_eq_one_iff.1 (by omega)⟩
        | cons v' vs => simp [resP] at hb
      | pair t' b' =>
        refine .inr ⟨by simp, ?_⟩
        cases vs with
        | nil => cases t' <;> simp [resP] at hb
        | cons v' vs => simp only [List.length_cons] at hl; omega
      | _ => cases vs <;> simp [resP] at hb
  | _ => cases vs <;> simp [resP] at h

/-- What a function's code is to do from a state on. -/
def Snd (P : Program) (Q : Ex → St → Prop) (code : Code) (N : Nat) (σ : St) : Prop := ∀ (X : Ctx) (a : Act) (w : World) (φ : Nat → Loc) (G M : Nat → Prop) (QQ : Exit → Act → World → Prop), N ≤ X.N → Rel P X σ a w φ G M → (∀ e a w, Post P X Q e a w → QQ e a w) → code.wp P QQ a w
theorem Holds.of_snd {f : Nat} {fd : Func} {code : Code} {ros : List RO} {fn : Fn} (hf : P.funcs[f]? = some fd) (hname : fd.name ≠ "runtime.NumGoroutine") (hb : fd.body = some code)
    (hro : compRes P fd.results.toList = some ros) (hres : okRes fn.r = true) (hargs : okArgs fn.a = true) (htot : fn.tot = true → ∀ x, fn.pre x)
    (h : ∀ x, fn.pre x → Snd P (RQ ros fn.r (fn.f x)) code fd.ntmps ⟨initEnv 0 (ofArgs fn.a x), []⟩) : Holds P f fn where
  tot := htot
  res := hres
  code := ⟨fd, hf, hname, by rw [hb]; rfl⟩
  calls := by
    intro w G x args hpre hG ha
    refine calls_of_wp hf hb ?_
    have hi := ofArgs_sound (φ := fun _ => ⟨0, 0, 0⟩) (M := fun _ => False) (H := []) hargs (fun _ h => h) ha
    let X : Ctx := { w0 := w, G0 := G, RB := fun _ => False, N := fd.ntmps }
    have hR : Rel P X ⟨initEnv 0 (ofArgs fn.a x), []⟩ { tmps := args.toArray ++ Array.replicate (fd.ntmps - args.toArray.size) undef, defers := [] } w (fun _ => ⟨0, 0, 0⟩) G (fun _ => False) := by
      refine ⟨fun t => ?_, ⟨fun k o hk => by simp [hget] at hk, fun k k' o o' hk => by simp [hget] at hk, hG, fun _ h => h.elim, fun _ _ h => h⟩, ?_, rfl, fun _ _ _ => rfl, Nat.le_refl _, rfl, rfl, rfl, fun b hb _ => .inl hb, fun _ h => h.elim⟩
      · have h1 := (initEnv_sound (i := 0) (t := t) hi).1 (Nat.zero_le _)
        have e : (args.toArray ++ Array.replicate (fd.ntmps - args.toArray.size) undef).getD t undef = args.getD t undef := by
          rw [Array.getD_eq_getD_getElem?, List.getD_eq_getElem?_getD, Array.getElem?_append]
          split
          · simp
          · rename_i hlt
            simp only [List.size_toArray, Nat.not_lt] at hlt
            rw [List.getElem?_eq_none (by omega)]
            rw [Array.getElem?_replicate]
            split <;> rfl
        show RA P _ _ _ _ _ _ ((args.toArray ++ Array.replicate (fd.ntmps - args.toArray.size) undef).getD t undef)
        rw [e]
        simpa using h1
      · show fd.ntmps ≤ _
        simp; omega
    refine h x hpre X _ _ _ _ _ _ (Nat.le_refl _) hR fun e a w' hp => ?_
    have fin : (∃ σ φ G' M', Rel P X σ a w' φ G' M' ∧ RQ ros fn.r (fn.f x) .norm σ) → a.defers = [] ∧ ∃ v, (results fd a.tmps).run P w' = .ok v w' ∧ ∃ u G' Ls, Ending.returned v = .returned u ∧ Below w.heap.size w w' ∧ (∀ b, G' b → b < w'.heap.size ∧ (b < w.heap.size → G b)) ∧
        ResV P fn.r G' w' (fn.f x) u Ls ∧ OwnLs w w' G' Ls := by
      rintro ⟨σ, φ, G1, M1, hR1, hq⟩
      refine ⟨hR1.def_, ?_⟩
      simp only [RQ] at hq
      split at hq
      · rename_i vs hvs
        obtain ⟨G2, M2, _, hR2⟩ := Rel.frz (frzK σ.heap fn.r vs) hR1
        obtain ⟨us, hrun, hral⟩ := readAll_sound hR2 hro (by rw [readAll_frz]; exact hvs)
        obtain ⟨Ls, hros, hown, hpw⟩ := resP_sound hR2 (HS.frz _ _) (fun k hk => frzH_other hk) (frzH_frozen _ _) hq hral (fun k hk => .inr hk) (fun k hk => hk)
        have hlen := resP_len hq (us := us) hral.len
        have hrun2 : (results fd a.tmps).run P w' = .ok (if h : us.toArray.size = 1 then us.toArray[0] else .tuple us.toArray) w' := by
          rw [results_eq]
          rw [Array.mapM_eq_mapM_toList]
          simp [Sem.run_bind, hrun]
        refine ⟨_, hrun2, _, G2, Ls, rfl, ?_, ?_, ?_, ?_⟩
        · exact ⟨hR2.os, hR2.tape, hR2.output, hR2.size, fun b hb => hR2.old b hb (fun h => h)⟩
        · exact fun b hb => ⟨hR2.heap.bnd b hb, fun hlt => (hR2.g0 b hb hlt).resolve_right (fun h => h)⟩
        · generalize fn.f x = y at hros ⊢
          generalize fn.r = r at y hros hlen ⊢
          rcases hlen with ⟨rfl, rfl⟩ | ⟨t, b, rfl, ⟨rfl, u, rfl⟩ | ⟨hbn, h2⟩⟩
          · exact ⟨#[], by simp, by simpa using hros⟩
          · simp only [ROs] at hros
            obtain ⟨v, vs', L1, L2, e, rfl, h1, e2, rfl⟩ := hros
            subst e2
            simp only [List.cons.injEq, and_true] at e
            subst e
            simpa [ResV] using h1
          · have hs : ¬ us.toArray.size = 1 := by simp; omega
            rw [dif_neg hs]
            cases b with
            | unit => exact absurd rfl hbn
            | _ => exact ⟨us.toArray, rfl, by simpa using hros⟩
        · refine ⟨fun L hL hc => ?_, hpw⟩
          obtain ⟨k, t, xs, _, hk, rfl⟩ := hown L hL hc
          have hob := hR2.heap.obj k _ hk
          simp only [RObj] at hob
          have hMk := (hob.2 hc).2 trivial
          exact ⟨Nat.le_of_not_lt fun hlt => hR2.mt _ hMk hlt, hR2.heap.mnd _ hMk, fun hg => hR2.heap.sep _ hg hMk⟩
      · exact hq.elim
    cases e with
    | normal => exact fin hp
    | ret => exact fin hp
    | exit id => obtain ⟨σ, φ, G', M', _, hq⟩ := hp; exact hq.elim
    | _ => exact hp.elim
theorem Holds.of_vc {T : Tab} (hT : TabOK P T) (hm : P.follows .mixedOrders = true) {f : Nat} {fd : Func} {code : Code} {c : C} {ros : List RO} {fn : Fn} (hf : P.funcs[f]? = some fd) (hname : fd.name ≠ "runtime.NumGoroutine") (hb : fd.body = some code)
    (hc : compC P TT fd.ntmps rowAt code = some c) (hro : compRes P fd.results.toList = some ros) (hres : okRes fn.r = true) (hargs : okArgs fn.a = true) (htot : fn.tot = true → ∀ x, fn.pre x)
    (h : ∀ x, fn.pre x → vc T c (RQ ros fn.r (fn.f x)) ⟨initEnv 0 (ofArgs fn.a x), []⟩) : Holds P f fn :=
  .of_snd hf hname hb hro hres hargs htot fun x hx X a w φ G M QQ hN hR hQ => vc_sound hT hm hN hc (h x hx) hR hQ
/-- The same with marks in the code. -/
theorem Holds.of_vcc {T : Tab} (hT : TabOK P T) (hm : P.follows .mixedOrders = true) {f : Nat} {fd : Func} {code : Code} {c : C} {ros : List RO} {fn : Fn} (hf : P.funcs[f]? = some fd) (hname : fd.name ≠ "runtime.NumGoroutine") (hb : fd.body = some code)
    (hc : compC P TT fd.ntmps rowAt code = some (erase c)) (hro : compRes P fd.results.toList = some ros) (hres : okRes fn.r = true) (hargs : okArgs fn.a = true) (htot : fn.tot = true → ∀ x, fn.pre x)
    (h : ∀ x, fn.pre x → vc T c (RQ ros fn.r (fn.f x)) ⟨initEnv 0 (ofArgs fn.a x), []⟩) : Holds P f fn :=
  .of_snd hf hname hb hro hres hargs htot fun x hx X a w φ G M QQ hN hR hQ => vc_sound2 hT hm hN hc (h x hx) hR hQ
end
end Go.AM

set_option linter.unusedSimpArgs false
set_option linter.constructorNameAsVariable false
namespace Go.AM

def mget : List (Nat × Nat) → Nat → Option Nat
  | [], _ => none
  | (k, k0) :: m, j => if k = j then some k0 else mget m j

mutual
/-- The new value (second) says no more than the old one. m: where the new keys come from. -/
def VM (m : List (Nat × Nat)) (H H' : Heap) : AV → AV → Prop
  | _, .undef => True
  | .nilf, .nilf => True
  | .int k n, .int k' n' => k' = k ∧ n' = n
  | .bool b, .bool b' => b' = b
  | .str s, .str s' => s' = s
  | .sl t xs f, .sl t' xs' f' => castL? t t' xs = some xs' ∧ (f' = true → f = true)
  | .sl t xs true, .own k lo n => xs = [] ∧ lo = 0 ∧ n = 0 ∧ mget m k = none ∧ (match hget H' k with | some (.row _ _ _) => True | _ => False)
  | .own k0 lo0 n0, .sl t xs f => f = false ∧ plain t = true ∧ match hget H k0 with
    | some (.row t0 ys true) => castL? t0 t ((ys.drop lo0).take n0) = some xs
    | _ => False
  | .own k0 lo0 n0, .own k lo n => mget m k = some k0 ∧ lo = lo0 ∧ n = n0 ∧ (hget H' k).isSome = true
  | .ptr k0 off0, .ptr k off => mget m k = some k0 ∧ off = off0 ∧ (hget H' k).isSome = true
  | .pn k0 off0, .pn k off => mget m k = some k0 ∧ off = off0 ∧ (hget H' k).isSome = true
  | .rptr k0 i0 off0, .rptr k i off => mget m k = some k0 ∧ i = i0 ∧ off = off0 ∧ (hget H' k).isSome = true
  | .el t x off, .el t' x' off' => cast? t t' x = some x' ∧ off' = off
  | .agg cs, .agg cs' => VML m H H' cs cs'
  | .tup cs, .tup cs' => VML m H H' cs cs'
  | .clo f cs, .clo f' cs' => f' = f ∧ VML m H H' cs cs'
  | .fv a r p, .fv a' r' p' => a' = a ∧ r' = r ∧ HEq p' p
  | .g b v, .g b' v' => b' = b ∧ VM m H H' v v'
  | .mp k0, .mp k => mget m k = some k0 ∧ (hget H' k).isSome = true
  | _, _ => False
def VML (m : List (Nat × Nat)) (H H' : Heap) : List AV → List AV → Prop
  | [], [] => True
  | c :: cs, c' :: cs' => VM m H H' c c' ∧ VML m H H' cs cs'
  | _, _ => False
end

def OM (m : List (Nat × Nat)) (H H' : Heap) (k : Nat) (o : Obj) : Prop :=
  match mget m k with
  | some k0 => match hget H k0, o with
    | some (.box cs), .box cs' => VML m H H' cs cs'
    | some (.row t xs f), .row t' xs' f' => castL? t t' xs = some xs' ∧ f' = f
    | some (.mp l), .mp l' => l' = l
    | _, _ => False
  | none => match o with
    | .row t xs f => xs = [] ∧ f = false ∧ plain t = true ∧ 0 < AM.size t
    | _ => False
def EntE (m : List (Nat × Nat)) (H H' : Heap) (E : Env) : Env → Prop
  | [] => True
  | (t, v) :: e => VM m H H' (eget E t) v ∧ EntE m H H' E e
def EntH (m : List (Nat × Nat)) (H H' : Heap) : Heap → Prop
  | [] => True
  | (k, o) :: h => OM m H H' k o ∧ EntH m H H' h
def inj2 : List (Nat × Nat) → Bool
  | [] => true
  | (_, k0) :: m => m.all (fun p => p.2 != k0) && inj2 m

variable {P : Program} {X : Ctx} {σ : St} {a : Act} {w : World} {φ : Nat → Loc} {G M : Nat → Prop}

def phi (m : List (Nat × Nat)) (φ : Nat → Loc) (k : Nat) : Loc := match mget m k with
  | some k0 => φ k0
  | none => ⟨0, 0, 0⟩

theorem EntH_get {m : List (Nat × Nat)} {H H' : Heap} : ∀ {h : Heap} {k : Nat} {o : Obj}, EntH m H H' h → hget h k = some o → OM m H H' k o := by
  intro h
  induction h with
  | nil => intro k o _ hk; simp [hget] at hk
  | cons p h ih =>
    intro k o hE hk
    obtain ⟨j, o'⟩ := p
    simp only [hget] at hk
    split at hk
    · rename_i e; cases hk; subst e; exact hE.1
    · exact ih hE.2 hk

mutual
theorem VM_sound {m : List (Nat × Nat)} {H H' : Heap} (hR : RelH P φ G M w H) (hE : ∀ k o, hget H' k = some o → OM m H H' k o) : ∀ (v' v : AV) (u : Value), VM m H H' v v' → RA P φ G M w H v u → RA P (phi m φ) G M w H' v' u
  | .undef, v, u, h, hr => by simp only [RA]
  | .nilf, v, u, h, hr => by
    cases v <;> simp only [VM] at h
    simpa only [RA] using hr
  | .int k' n', v, u, h, hr => by
    cases v <;> simp only [VM] at h
    obtain ⟨rfl, rfl⟩ := h
    simpa only [RA] using hr
  | .bool b', v, u, h, hr => by
    cases v <;> simp only [VM] at h
    subst h
    simpa only [RA] using hr
  | .str s', v, u, h, hr => by
    cases v <;> simp only [VM] at h
    subst h
    simpa only [RA] using hr
  | .sl t' xs' f', v, u, h, hr => by
    cases v with
    | sl t xs f =>
      have h2 : castL? t t' xs = some xs' ∧ (f' = true → f = true) := by cases f <;> simpa only [VM] using h
      obtain ⟨h1, h2⟩ := h2
      obtain ⟨e, he⟩ := castL?_eq h1
      subst e
      simp only at he
      subst he
      simp only [RA] at hr ⊢
      exact ⟨hr.1, hr.2.1, hr.2.2.1, fun hf => hr.2.2.2 (h2 hf)⟩
    | own k0 lo0 n0 =>
      simp only [VM] at h
      obtain ⟨rfl, hp, h⟩ := h
      split at h
      · rename_i t0 ys hk
        obtain ⟨e, he⟩ := castL?_eq h
        subst e
        simp only at he
        have hso : slOf H t0 (.own k0 lo0 n0) = some xs' := by simp only [slOf, hk, castL?_self, he]
        have hz : 0 < AM.size t0 := by
          have := hR.obj k0 _ hk
          simp only [RObj] at this
          exact this.1.2.1
        have hrt := slOf_sound hR (G1 := G) (fun _ h => h) (.inr (fun j hj t1 xs1 f1 hj' => by
          simp only [keys1, List.mem_singleton] at hj
          subst hj
          rw [hk] at hj'
          cases hj'; rfl)) hr hso
        simp only [RA]
        exact ⟨hp, hz, hrt.2.2, fun hf => (by cases hf)⟩
      · exact h.elim
    | _ => simp [VM] at h
  | .own k lo n, v, u, h, hr => by
    cases v with
    | own k0 lo0 n0 =>
      simp only [VM] at h
      obtain ⟨hm, rfl, rfl, hs⟩ := h
      obtain ⟨o, ho⟩ := Option.isSome_iff_exists.1 hs
      have := hE k o ho
      simp only [OM, hm] at this
      simp only [RA] at hr ⊢
      rw [ho]
      cases hk0 : hget H k0 with
      | none => rw [hk0] at hr; exact hr.elim
      | some o0 =>
        rw [hk0] at hr this
        cases o0 with
        | box cs => exact hr.elim
        | mp l => exact hr.elim
        | row t xs f =>
          cases o with
          | box cs => exact this.elim
          | mp l => exact this.elim
          | row t' xs' f' =>
            obtain ⟨e, he⟩ := castL?_eq this.1
            subst e
            simp only at he
            subst he
            simp only at hr ⊢
            have : phi m φ k = φ k0 := by simp only [phi, hm]
            rw [this]; exact hr
    | sl t xs f =>
      cases f with
      | false => simp [VM] at h
      | true =>
        simp only [VM] at h
        obtain ⟨rfl, rfl, rfl, hm, hs⟩ := h
        simp only [RA] at hr ⊢
        split at hs
        · rename_i t' xs' f' ho
          rw [ho]
          obtain ⟨A, hA⟩ := hr.2.2.2 trivial
          simp only [phi, hm, SlV]
          exact ⟨Nat.zero_le _, A, by simpa using hA, by simp, .inl (by simp)⟩
        · exact hs.elim
    | _ => simp [VM] at h
  | .ptr k off, v, u, h, hr => by
    cases v <;> simp only [VM] at h
    rename_i k0 off0
    obtain ⟨hm, rfl, hs⟩ := h
    obtain ⟨o, ho⟩ := Option.isSome_iff_exists.1 hs
    have := hE k o ho
    simp only [OM, hm] at this
    simp only [RA] at hr ⊢
    rw [ho]
    have e : phi m φ k = φ k0 := by simp only [phi, hm]
    rw [e]
    refine ⟨hr.1, ?_⟩
    have h2 := hr.2
    cases hk0 : hget H k0 with
    | none => rw [hk0] at h2; exact h2.elim
    | some o0 =>
      rw [hk0] at h2 this
      cases o0 with
      | row t xs f => exact h2.elim
      | mp l => exact h2.elim
      | box cs => cases o with
        | box cs' => trivial
        | row t xs f => exact this.elim
        | mp l => exact this.elim
  | .pn k off, v, u, h, hr => by
    cases v <;> simp only [VM] at h
    rename_i k0 off0
    obtain ⟨hm, rfl, hs⟩ := h
    obtain ⟨o, ho⟩ := Option.isSome_iff_exists.1 hs
    have := hE k o ho
    simp only [OM, hm] at this
    simp only [RA] at hr ⊢
    rw [ho]
    have e : phi m φ k = φ k0 := by simp only [phi, hm]
    rw [e]
    refine ⟨hr.1, ?_⟩
    have h2 := hr.2
    cases hk0 : hget H k0 with
    | none => rw [hk0] at h2; exact h2.elim
    | some o0 =>
      rw [hk0] at h2 this
      cases o0 with
      | row t xs f => exact h2.elim
      | mp l => exact h2.elim
      | box cs => cases o with
        | box cs' => trivial
        | row t xs f => exact this.elim
        | mp l => exact this.elim
  | .rptr k i off, v, u, h, hr => by
    cases v <;> simp only [VM] at h
    rename_i k0 i0 off0
    obtain ⟨hm, rfl, rfl, hs⟩ := h
    obtain ⟨o, ho⟩ := Option.isSome_iff_exists.1 hs
    have := hE k o ho
    simp only [OM, hm] at this
    simp only [RA] at hr ⊢
    rw [ho]
    have e : phi m φ k = φ k0 := by simp only [phi, hm]
    rw [e]
    cases hk0 : hget H k0 with
    | none => rw [hk0] at hr; exact hr.elim
    | some o0 =>
      rw [hk0] at hr this
      cases o0 with
      | box cs => exact hr.elim
      | mp l => exact hr.elim
      | row t xs f => cases o with
        | box cs' => exact this.elim
        | mp l => exact this.elim
        | row t' xs' f' =>
          obtain ⟨e, he⟩ := castL?_eq this.1
          subst e
          simp only at he
          subst he
          exact hr
  | .el t' x' off', v, u, h, hr => by
    cases v <;> simp only [VM] at h
    obtain ⟨h1, rfl⟩ := h
    obtain ⟨e, he⟩ := cast?_eq h1
    subst e
    simp only at he
    subst he
    simpa only [RA] using hr
  | .agg cs', v, u, h, hr => by
    cases v <;> simp only [VM] at h
    simp only [RA] at hr ⊢
    obtain ⟨us, rfl, h2⟩ := hr
    exact ⟨us, rfl, VML_sound hR hE _ _ _ h h2⟩
  | .tup cs', v, u, h, hr => by
    cases v <;> simp only [VM] at h
    simp only [RA] at hr ⊢
    obtain ⟨us, rfl, h2⟩ := hr
    exact ⟨us, rfl, VML_sound hR hE _ _ _ h h2⟩
  | .clo f' cs', v, u, h, hr => by
    cases v <;> simp only [VM] at h
    obtain ⟨rfl, h⟩ := h
    simp only [RA] at hr ⊢
    obtain ⟨us, rfl, h2⟩ := hr
    exact ⟨us, rfl, VML_sound hR hE _ _ _ h h2⟩
  | .fv a' r' p', v, u, h, hr => by
    cases v <;> simp only [VM] at h
    obtain ⟨rfl, rfl, h⟩ := h
    cases h
    simpa only [RA] using hr
  | .g b' v', v, u, h, hr => by
    cases v <;> simp only [VM] at h
    obtain ⟨rfl, h⟩ := h
    simp only [RA] at hr ⊢
    exact ⟨fun hb => VM_sound hR hE _ _ _ h (hr.1 hb), hr.2⟩
  | .mp k, v, u, h, hr => by
    cases v <;> simp only [VM] at h
    rename_i k0
    obtain ⟨hm, hs⟩ := h
    obtain ⟨o, ho⟩ := Option.isSome_iff_exists.1 hs
    have := hE k o ho
    simp only [OM, hm] at this
    simp only [RA] at hr ⊢
    rw [ho]
    have e : phi m φ k = φ k0 := by simp only [phi, hm]
    rw [e]
    refine ⟨hr.1, ?_⟩
    have h2 := hr.2
    cases hk0 : hget H k0 with
    | none => rw [hk0] at h2; exact h2.elim
    | some o0 =>
      rw [hk0] at h2 this
      cases o0 with
      | row t xs f => exact h2.elim
      | box l => exact h2.elim
      | mp l => cases o with
        | mp cs' => trivial
        | row t xs f => exact this.elim
        | box l => exact this.elim
theorem VML_sound {m : List (Nat × Nat)} {H H' : Heap} (hR : RelH P φ G M w H) (hE : ∀ k o, hget H' k = some o → OM m H H' k o) : ∀ (vs' vs : List AV) (us : List Value), VML m H H' vs vs' → RAL P φ G M w H vs us → RAL P (phi m φ) G M w H' vs' us
  | [], vs, us, h, hr => by
    cases vs <;> simp only [VML] at h
    simpa only [RAL] using hr
  | v' :: vs', vs, us, h, hr => by
    cases vs <;> simp only [VML] at h
    simp only [RAL] at hr ⊢
    obtain ⟨u, us', rfl, h1, h2⟩ := hr
    exact ⟨u, us', rfl, VM_sound hR hE _ _ _ h.1 h1, VML_sound hR hE _ _ _ h.2 h2⟩
end

theorem mget_mem {m : List (Nat × Nat)} {k k0 : Nat} (h : mget m k = some k0) : (k, k0) ∈ m := by
  induction m with
  | nil => simp [mget] at h
  | cons p m ih =>
    obtain ⟨j, j0⟩ := p
    simp only [mget] at h
    split at h
    · rename_i e; cases h; subst e; exact List.mem_cons_self ..
    · exact List.mem_cons_of_mem _ (ih h)
theorem inj2_spec {m : List (Nat × Nat)} (h : inj2 m = true) {k k' k0 : Nat} (h1 : mget m k = some k0) (h2 : mget m k' = some k0) : k = k' := by
  induction m with
  | nil => simp [mget] at h1
  | cons p m ih =>
    obtain ⟨j, j0⟩ := p
    simp only [inj2, Bool.and_eq_true, List.all_eq_true, bne_iff_ne, ne_eq] at h
    simp only [mget] at h1 h2
    split at h1
    · rename_i e1
      cases h1
      split at h2
      · rename_i e2; rw [← e1, ← e2]
      · exact absurd rfl (h.1 _ (mget_mem h2))
    · split at h2
      · cases h2; exact absurd rfl (h.1 _ (mget_mem h1))
      · exact ih h.2 h1 h2

/-- A state that says no more. -/
theorem Ent_of {σ σ' : St} (m : List (Nat × Nat)) (hm : inj2 m = true) (hh : EntH m σ.heap σ'.heap σ'.heap) (he : EntE m σ.heap σ'.heap σ.env σ'.env) : Ent σ σ' := by
  intro P X a w φ G M hR
  have hE : ∀ k o, hget σ'.heap k = some o → OM m σ.heap σ'.heap k o := fun k o hk => EntH_get hh hk
  refine ⟨phi m φ, G, M, ?_⟩
  have hloc : ∀ k o, hget σ'.heap k = some o → alloc (phi m φ) k o → ∃ k0 o0, mget m k = some k0 ∧ hget σ.heap k0 = some o0 ∧ alloc φ k0 o0 := by
    intro k o hk ha
    have := hE k o hk
    simp only [OM] at this
    cases hmk : mget m k with
    | none =>
      rw [hmk] at this
      cases o with
      | box cs => exact this.elim
      | mp l => exact this.elim
      | row t xs f => simp [alloc, phi, hmk] at ha
    | some k0 =>
      rw [hmk] at this
      simp only at this
      cases h0 : hget σ.heap k0 with
      | none => rw [h0] at this; exact this.elim
      | some o0 =>
        rw [h0] at this
        refine ⟨k0, o0, rfl, h0, ?_⟩
        cases o0 with
        | box cs => trivial
        | mp l => trivial
        | row t xs f => cases o with
          | box cs => exact this.elim
          | mp l => exact this.elim
          | row t' xs' f' => simpa [alloc, phi, hmk] using ha
  have hH : RelH P (phi m φ) G M w σ'.heap := by
    refine ⟨fun k o hk => ?_, fun k k' o o' hk hk' hne ha ha' => ?_, hR.heap.bnd, hR.heap.mnd, hR.heap.sep⟩
    · have := hE k o hk
      simp only [OM] at this
      cases hmk : mget m k with
      | none =>
        rw [hmk] at this
        cases o with
        | box cs => exact this.elim
        | mp l => exact this.elim
        | row t xs f =>
          obtain ⟨rfl, rfl, hp, hz⟩ := this
          have e : phi m φ k = ⟨0, 0, 0⟩ := by simp only [phi, hmk]
          simp only [RObj, e]
          exact ⟨⟨hp, hz, .inl ⟨rfl, rfl⟩⟩, fun h => absurd h (by simp)⟩
      | some k0 =>
        rw [hmk] at this
        simp only at this
        have e : phi m φ k = φ k0 := by simp only [phi, hmk]
        cases h0 : hget σ.heap k0 with
        | none => rw [h0] at this; exact this.elim
        | some o0 =>
          rw [h0] at this
          have hob := hR.heap.obj k0 _ h0
          cases o0 with
          | mp l => cases o with
            | row t xs f => exact this.elim
            | box l' => exact this.elim
            | mp l' =>
              subst this
              simpa only [RObj, e] using hob
          | box cs => cases o with
            | row t xs f => exact this.elim
            | mp l => exact this.elim
            | box cs' =>
              simp only [RObj, e] at hob ⊢
              obtain ⟨c, ty, h1, h2, h3⟩ := hob
              exact ⟨c, ty, h1, h2, VML_sound hR.heap hE _ _ _ this h3⟩
          | row t xs f => cases o with
            | box cs => exact this.elim
            | mp l => exact this.elim
            | row t' xs' f' =>
              obtain ⟨h1, rfl⟩ := this
              obtain ⟨e1, he1⟩ := castL?_eq h1
              subst e1
              simp only at he1
              subst he1
              simpa only [RObj, e] using hob
    · obtain ⟨k0, o0, h1, h2, h3⟩ := hloc k o hk ha
      obtain ⟨k1, o1, h4, h5, h6⟩ := hloc k' o' hk' ha'
      have e : phi m φ k = φ k0 := by simp only [phi, h1]
      have e' : phi m φ k' = φ k1 := by simp only [phi, h4]
      rw [e, e']
      refine hR.heap.inj k0 k1 o0 o1 h2 h5 (fun hk => hne ?_) h3 h6
      subst hk
      exact inj2_spec hm h1 h4
  have hen : ∀ (E : Env), EntE m σ.heap σ'.heap σ.env E → ∀ t, RA P (phi m φ) G M w σ'.heap (eget E t) (a.tmps.getD t undef) := by
    intro E
    induction E with
    | nil => intro _ t; simp only [eget, RA]
    | cons p E ih =>
      intro hEE t
      obtain ⟨j, v⟩ := p
      simp only [eget]
      split
      · rename_i e; subst e; exact VM_sound hR.heap hE _ _ _ hEE.1 (hR.env j)
      · exact ih hEE.2 t
  exact { env := hen _ he, heap := hH, sz := hR.sz, def_ := hR.def_, old := hR.old, size := hR.size, os := hR.os, tape := hR.tape, output := hR.output, g0 := hR.g0, mt := hR.mt }

/-- Rows are frozen. -/
theorem Ent_frz (σ : St) (ks : List Nat) : Ent σ ⟨σ.env, frzH σ.heap ks⟩ := by
  intro P X a w φ G M hR
  obtain ⟨G', M', _, h⟩ := Rel.frz ks hR
  exact ⟨φ, G', M', h⟩
theorem Ent.refl (σ : St) : Ent σ σ := fun _ _ _ _ φ G M h => ⟨φ, G, M, h⟩
theorem Ent.trans {a b c : St} (h : Ent a b) (h' : Ent b c) : Ent a c := fun P X act w φ G M hR => by
  obtain ⟨φ1, G1, M1, h1⟩ := h P X act w φ G M hR
  exact h' P X act w φ1 G1 M1 h1
end Go.AM

set_option linter.unusedSimpArgs false
set_option linter.constructorNameAsVariable false
namespace Go.AM
open Go.RowKit
section
variable {P : Program} {TT : TyTab} {N : Nat} {rowAt : List Nat} {X : Ctx} {σ : St} {a : Act} {w : World} {φ : Nat → Loc} {G M : Nat → Prop}

/-! ### how such a function begins -/
def nO : Ty → Nat
  | .olist _ => 1
  | .pair a b => nO a + nO b
  | _ => 0
theorem cellsO_keys {t : Ty} : ∀ {k : Nat} {x : den t}, (cellsO k t x).2.map (·.1) = List.range' k (nO t) := by
  induction t with
  | olist t _ => intro k x; rfl
  | pair s b iha ihb =>
    intro k x
    have hl : (cellsO k s x.1).2.length = nO s := by
      have := congrArg List.length (iha (k := k) (x := x.1))
      simpa using this
    simp only [cellsO, List.map_append, iha, ihb, hl, nO]
    rw [List.range'_append_1]
  | _ => intro k x; rfl
def argK (i : Nat) : Nat := 900000000 + 1000 * i
/-- arguments as values; what is handed over has rows, boxes of its own -/
def inArgs : Nat → (a : Ty) → List Mk → den a → List AV × List (Nat × Obj)
  | i, .pair t b, .no :: ms, x => (ofV t x.1 :: (inArgs (i + 1) b ms x.2).1, (inArgs (i + 1) b ms x.2).2)
  | i, .pair (.olist t) b, .own :: ms, x => (.own (argK i) 0 x.1.length :: (inArgs (i + 1) b ms x.2).1, (argK i, .row t x.1 false) :: (inArgs (i + 1) b ms x.2).2)
  | i, .pair (.ref t) b, .box :: ms, x => (.ptr (argK i) 0 :: (inArgs (i + 1) b ms x.2).1, ((cellsO (argK i + 1) t x.1).2 ++ [(argK i, .box (cellsO (argK i + 1) t x.1).1)]) ++ (inArgs (i + 1) b ms x.2).2)
  | i, .pair (.ref t) b, .gone :: ms, x => (.ptr (argK i) 0 :: (inArgs (i + 1) b ms x.2).1, ((cellsO (argK i + 1) t x.1).2 ++ [(argK i, .box (cellsO (argK i + 1) t x.1).1)]) ++ (inArgs (i + 1) b ms x.2).2)
  | _, _, _, _ => ([], [])
def okArgsM : Ty → List Mk → Bool
  | .unit, [] => true
  | .pair t b, .no :: ms => plain t && okArgsM b ms
  | .pair (.olist t) b, .own :: ms => plain (.olist t) && okArgsM b ms
  | .pair (.ref t) b, .box :: ms => (plain t && decide (nO t < 900)) && okArgsM b ms
  | .pair (.ref t) b, .gone :: ms => (plain t && decide (nO t < 900)) && okArgsM b ms
  | _, _ => false
/-- the boxes that are given back -/
def boxKs : Nat → List Mk → List Nat
  | _, [] => []
  | i, .box :: ms => argK i :: boxKs (i + 1) ms
  | i, _ :: ms => boxKs (i + 1) ms

def Vac2 (φ : Nat → Loc) (M : Nat → Prop) (H : Heap) (bl : List Nat) : Prop := (∀ b, b ∈ bl → M b ∧ ∀ k o, hget H k = some o → AM.alloc φ k o → (φ k).blk ≠ b) ∧ bl.Nodup
def Old2 (φ φ' : Nat → Loc) (H H' : Heap) (bl : List Nat) : Prop := ∀ j ob, hget H' j = some ob → AM.alloc φ' j ob → (φ' j).blk ∈ bl ∨ (hget H j = some ob ∧ AM.alloc φ j ob ∧ (φ' j).blk = (φ j).blk)
theorem Vac2.vac {H : Heap} {Ls : List Loc} {r : List Nat} (h : Vac2 φ M H (blks Ls ++ r)) : Vac φ M H Ls :=
  ⟨fun L hL hc => h.1 L.blk (List.mem_append_left _ (mem_blks.2 ⟨L, hL, hc, rfl⟩)), (List.nodup_append.1 h.2).1⟩
theorem Old.two {φ φ' : Nat → Loc} {H H' : Heap} {Ls : List Loc} (h : Old φ φ' H H' Ls) : Old2 φ φ' H H' (blks Ls) := fun j ob hj ha => by
  rcases h j ob hj ha with ⟨L, hL, hc, e⟩ | h
  · exact .inl (mem_blks.2 ⟨L, hL, hc, e.symm⟩)
  · exact .inr h
theorem Old2.trans {φ φ1 φ2 : Nat → Loc} {H H1 H2 : Heap} {L1 L2 : List Nat} (h1 : Old2 φ φ1 H H1 L1) (h2 : Old2 φ1 φ2 H1 H2 L2) : Old2 φ φ2 H H2 (L1 ++ L2) := by
  intro j ob hj ha
  rcases h2 j ob hj ha with hm | ⟨hj1, ha1, e⟩
  · exact .inl (List.mem_append_right _ hm)
  · rcases h1 j ob hj1 ha1 with hm | ⟨hj0, ha0, e1⟩
    · exact .inl (List.mem_append_left _ (e ▸ hm))
    · exact .inr ⟨hj0, ha0, e.trans e1⟩
theorem Vac2.right {H H' : Heap} {φ' : Nat → Loc} {A B : List Nat} (h : Vac2 φ M H (A ++ B)) (ho : Old2 φ φ' H H' A) : Vac2 φ' M H' B := by
  have hn := List.nodup_append.1 h.2
  refine ⟨fun b hb => ⟨(h.1 b (List.mem_append_right _ hb)).1, fun k ob hk ha e => ?_⟩, hn.2.1⟩
  rcases ho k ob hk ha with hm | ⟨h0, ha0, e'⟩
  · exact hn.2.2 _ hm b hb e
  · exact (h.1 b (List.mem_append_right _ hb)).2 k ob h0 ha0 (e'.symm.trans e)
theorem Vac2.perm {H : Heap} {A B : List Nat} (h : Vac2 φ M H A) (hp : A.Perm B) : Vac2 φ M H B :=
  ⟨fun b hb => h.1 b (hp.mem_iff.2 hb), hp.nodup_iff.1 h.2⟩

/-- A box that was handed over gets its name. -/
theorem Rel.adoptBox (h : Rel P X σ a w φ G M) {d b : Nat} {cs : List AV} {c : Array Value} {e : TypeId} (hd : hget σ.heap d = none) (hc : w.heap[b]? = some (.cells c e (0, 0))) (hr : RAL P φ G M w σ.heap cs c.toList)
    (hM : M b ∧ ∀ k o, hget σ.heap k = some o → alloc φ k o → (φ k).blk ≠ b) :
    ∃ φ', Rel P X ⟨σ.env, hput σ.heap d (.box cs)⟩ a w φ' G M ∧ (φ' d).blk = b ∧ (∀ v u, RA P φ G M w σ.heap v u → RA P φ' G M w (hput σ.heap d (.box cs)) v u) ∧ Old2 φ φ' σ.heap (hput σ.heap d (.box cs)) [b] := by
  have E : Ext φ (setφ φ d ⟨b, 0, 1⟩) G G M M w w σ.heap (hput σ.heap d (.box cs)) :=
    { g := fun b hb => hb, ag := fun _ _ => rfl, keep := fun _ _ _ => rfl, mt := fun _ _ hm => hm, size := Nat.le_refl _
      keys := fun k o' hk => by
        have hne : k ≠ d := fun e => by rw [e, hd] at hk; cases hk
        exact ⟨setφ_ne φ _ hne, o', by rw [hget_hput_ne _ _ _ _ hne]; exact hk, by cases o' <;> simp [shape]⟩ }
  refine ⟨setφ φ d ⟨b, 0, 1⟩, h.newAt b hM.1 hM.2 (OneB.refl w _) d _ ⟨b, 0, 1⟩ hd rfl (fun H' E' => ?_), by rw [setφ_self], fun v u hv => RA.mono E v u hv, fun j ob hj ha => ?_⟩
  · simp only [RObj, setφ_self]
    exact ⟨c, e, hc, hM.1, RAL.mono E' _ _ hr⟩
  · by_cases e : j = d
    · subst e; exact .inl (by rw [setφ_self]; simp)
    · rw [hget_hput_ne _ _ _ _ e] at hj
      refine .inr ⟨hj, ?_, by rw [setφ_ne φ _ e]⟩
      cases ob <;> simp_all [alloc, setφ]

theorem inArgs_sound {ty : Ty} : ∀ {ms : List Mk} {i : Nat} {σ : St} {φ : Nat → Loc} {x : den ty} {us : List Value} {Ls : List Loc} {bs gs : List Nat}, okArgsM ty ms = true → Rel P X σ a w φ G M → RArgsM P ty ms G w x us Ls bs gs →
    (∀ k, argK i ≤ k → hget σ.heap k = none) → Vac2 φ M σ.heap (blks Ls ++ (gs ++ bs)) →
    ∃ φ', Rel P X ⟨σ.env, putAll σ.heap (inArgs i ty ms x).2⟩ a w φ' G M ∧ RAL P φ' G M w (putAll σ.heap (inArgs i ty ms x).2) (inArgs i ty ms x).1 us ∧
      (∀ v u, RA P φ G M w σ.heap v u → RA P φ' G M w (putAll σ.heap (inArgs i ty ms x).2) v u) ∧ (boxKs i ms).length = bs.length ∧ ∀ p ∈ (boxKs i ms).zip bs, RA P φ' G M w (putAll σ.heap (inArgs i ty ms x).2) (.pn p.1 p.2) undef := by
  induction ty with
  | unit =>
    intro ms i σ φ x us Ls bs gs ho h hr _ _
    cases ms with
    | nil =>
      simp only [RArgsM] at hr
      obtain ⟨rfl, rfl, rfl, rfl⟩ := hr
      exact ⟨φ, h, by simp only [inArgs, RAL], fun v u hv => hv, rfl, fun p hp => by simp [boxKs] at hp⟩
    | cons m ms => simp [okArgsM] at ho
  | pair t b _ ih =>
    intro ms i σ φ x us Ls bs gs ho h hr hk hv
    cases ms with
    | nil => simp [okArgsM] at ho
    | cons m ms =>
      have hbox : ∀ {t : Ty} {x : den (.pair (.ref t) b)} {k : Nat} {c : Array Value} {e : TypeId} {vs' : List Value} {L1 L2 : List Loc} {gs' bs' : List Nat}, plain t = true → nO t < 900 → okArgsM b ms = true → w.heap[k]? = some (.cells c e (0, 0)) →
          RC P t G w x.1 c.toList L1 → RArgsM P b ms G w x.2 vs' L2 bs' gs' → Vac2 φ M σ.heap ((blks L1 ++ [k]) ++ (blks L2 ++ (gs' ++ bs'))) →
          ∃ φ', Rel P X ⟨σ.env, putAll σ.heap (((cellsO (argK i + 1) t x.1).2 ++ [(argK i, .box (cellsO (argK i + 1) t x.1).1)]) ++ (inArgs (i + 1) b ms x.2).2)⟩ a w φ' G M ∧
            RAL P φ' G M w (putAll σ.heap (((cellsO (argK i + 1) t x.1).2 ++ [(argK i, .box (cellsO (argK i + 1) t x.1).1)]) ++ (inArgs (i + 1) b ms x.2).2)) (.ptr (argK i) 0 :: (inArgs (i + 1) b ms x.2).1) (.pointer (some ⟨k, 0, none⟩) :: vs') ∧
            (∀ v u, RA P φ G M w σ.heap v u → RA P φ' G M w (putAll σ.heap (((cellsO (argK i + 1) t x.1).2 ++ [(argK i, .box (cellsO (argK i + 1) t x.1).1)]) ++ (inArgs (i + 1) b ms x.2).2)) v u) ∧
            (boxKs (i + 1) ms).length = bs'.length ∧ (∀ p ∈ (boxKs (i + 1) ms).zip bs', RA P φ' G M w (putAll σ.heap (((cellsO (argK i + 1) t x.1).2 ++ [(argK i, .box (cellsO (argK i + 1) t x.1).1)]) ++ (inArgs (i + 1) b ms x.2).2)) (.pn p.1 p.2) undef) ∧
            RA P φ' G M w (putAll σ.heap (((cellsO (argK i + 1) t x.1).2 ++ [(argK i, .box (cellsO (argK i + 1) t x.1).1)]) ++ (inArgs (i + 1) b ms x.2).2)) (.pn (argK i) k) undef := by
        intro t x k c e vs' L1 L2 gs' bs' hp hn hob hce hrc hrest hvac
        have hkeys := cellsO_keys (t := t) (k := argK i + 1) (x := x.1)
        have hany : hasAny σ.heap (cellsO (argK i + 1) t x.1).2 = false := hasAny_iff.2 fun j hj => by
          rw [hkeys, List.mem_range'_1] at hj
          exact hk j (by omega)
        have hv1 : Vac2 φ M σ.heap (blks L1 ++ ([k] ++ (blks L2 ++ (gs' ++ bs')))) := by rw [List.append_assoc] at hvac; exact hvac
        obtain ⟨φ1, a1, a2, a3, a4⟩ := cellsO_sound (k := argK i + 1) hp h hany (by rw [hkeys]; exact List.nodup_range') hrc hv1.vac
        have hv2 := hv1.right a4.two
        have hd : hget (putAll σ.heap (cellsO (argK i + 1) t x.1).2) (argK i) = none := by
          rw [hget_putAll_ne (by rw [hkeys, List.mem_range'_1]; omega)]
          exact hk _ (Nat.le_refl _)
        obtain ⟨φ2, b1, b2, b3, b4⟩ := Rel.adoptBox (σ := ⟨σ.env, putAll σ.heap (cellsO (argK i + 1) t x.1).2⟩) a1 hd hce a2 (hv2.1 k (by simp))
        have hv3 := hv2.right b4
        have hfr : ∀ j, argK (i + 1) ≤ j → hget (hput (putAll σ.heap (cellsO (argK i + 1) t x.1).2) (argK i) (.box (cellsO (argK i + 1) t x.1).1)) j = none := by
          intro j hj
          have e1 : argK (i + 1) = argK i + 1000 := by unfold argK; omega
          rw [hget_hput_ne _ _ _ _ (by omega), hget_putAll_ne (by rw [hkeys, List.mem_range'_1]; omega)]
          exact hk j (by omega)
        obtain ⟨φ3, c1, c2, c3, c4, c5⟩ := ih (σ := ⟨σ.env, hput (putAll σ.heap (cellsO (argK i + 1) t x.1).2) (argK i) (.box (cellsO (argK i + 1) t x.1).1)⟩) (i := i + 1) hob b1 hrest hfr hv3
        have hput1 : putAll σ.heap (((cellsO (argK i + 1) t x.1).2 ++ [(argK i, .box (cellsO (argK i + 1) t x.1).1)]) ++ (inArgs (i + 1) b ms x.2).2) = putAll (hput (putAll σ.heap (cellsO (argK i + 1) t x.1).2) (argK i) (.box (cellsO (argK i + 1) t x.1).1)) (inArgs (i + 1) b ms x.2).2 := by
          rw [putAll_app, putAll_app]; rfl
        rw [hput1]
        have hptr : RA P φ2 G M w (hput (putAll σ.heap (cellsO (argK i + 1) t x.1).2) (argK i) (.box (cellsO (argK i + 1) t x.1).1)) (.ptr (argK i) 0) (.pointer (some ⟨k, 0, none⟩)) := by
          simp only [RA, hget_hput_self, b2]; exact ⟨trivial, trivial⟩
        have hpn : RA P φ2 G M w (hput (putAll σ.heap (cellsO (argK i + 1) t x.1).2) (argK i) (.box (cellsO (argK i + 1) t x.1).1)) (.pn (argK i) k) undef := by
          simp only [RA, hget_hput_self, b2]; exact ⟨trivial, trivial⟩
        refine ⟨φ3, c1, ?_, fun v u hvu => c3 v u (b3 v u (a3 v u hvu)), c4, c5, c3 _ _ hpn⟩
        simp only [RAL]
        exact ⟨_, _, rfl, c3 _ _ hptr, c2⟩
      cases m with
      | no =>
        simp only [okArgsM, Bool.and_eq_true] at ho
        simp only [RArgsM] at hr
        obtain ⟨hp, v, vs', rfl, h1, h2⟩ := hr
        obtain ⟨φ', a1, a2, a3, a4, a5⟩ := ih (i := i + 1) ho.2 h h2 (fun k hkk => hk k (by unfold argK at *; omega)) hv
        refine ⟨φ', by simpa only [inArgs] using a1, ?_, by simpa only [inArgs] using a3, a4, by simpa only [inArgs, boxKs] using a5⟩
        simp only [inArgs, RAL]
        exact ⟨v, vs', rfl, a3 _ _ (RV.ra hp h1), a2⟩
      | own =>
        cases t with
        | olist t =>
          simp only [okArgsM, Bool.and_eq_true] at ho
          simp only [RArgsM] at hr
          obtain ⟨v, vs', L1, L2, rfl, rfl, h1, h2⟩ := hr
          rw [blks_app, List.append_assoc] at hv
          obtain ⟨φ1, a1, a2, a3, a4⟩ := cellsO_sound (k := argK i) ho.1 h (hasAny_iff.2 fun j hj => by simp only [cellsO, List.map_cons, List.map_nil, List.mem_singleton] at hj; subst hj; exact hk _ (Nat.le_refl _)) (by simp [cellsO]) h1 hv.vac
          have hv2 := hv.right a4.two
          obtain ⟨φ2, b1, b2, b3, b4, b5⟩ := ih (σ := ⟨σ.env, putAll σ.heap (cellsO (argK i) (.olist t) x.1).2⟩) (i := i + 1) ho.2 a1 h2 (fun k hkk => by
            have e1 : argK (i + 1) = argK i + 1000 := by unfold argK; omega
            simp only [cellsO, putAll]
            rw [hget_hput_ne _ _ _ _ (by omega)]
            exact hk k (by omega)) hv2
          refine ⟨φ2, by simpa only [inArgs, cellsO, putAll] using b1, ?_, fun v u hvu => by simpa only [inArgs, cellsO, putAll] using b3 v u (a3 v u hvu), b4, by simpa only [inArgs, cellsO, putAll, boxKs] using b5⟩
          have hm := RAL.map b3 a2
          simp only [cellsO, RAL, putAll] at hm b2
          obtain ⟨u, us', e, g1, g2⟩ := hm
          simp only [List.cons.injEq] at e
          obtain ⟨rfl, _⟩ := e
          simp only [inArgs, RAL, putAll]
          exact ⟨v, vs', rfl, g1, b2⟩
        | _ => simp [okArgsM] at ho
      | box =>
        cases t with
        | ref t =>
          simp only [okArgsM, Bool.and_eq_true, decide_eq_true_eq] at ho
          simp only [RArgsM] at hr
          obtain ⟨k, c, e, vs', L1, L2, bs', rfl, rfl, rfl, h1, h2, h3⟩ := hr
          obtain ⟨φ', a1, a2, a3, a4, a5, a6⟩ := hbox ho.1.1 ho.1.2 ho.2 h1 h2 h3 (hv.perm (by
            rw [blks_app, List.append_assoc, List.append_assoc]
            refine List.Perm.append_left _ ?_
            show (blks L2 ++ (gs ++ k :: bs')).Perm (k :: (blks L2 ++ (gs ++ bs')))
            rw [← List.append_assoc, ← List.append_assoc]
            exact List.perm_middle))
          refine ⟨φ', by simpa only [inArgs] using a1, by simpa only [inArgs] using a2, by simpa only [inArgs] using a3, by simp only [boxKs, List.length_cons, a4], fun p hp => ?_⟩
          simp only [boxKs, List.zip_cons_cons, List.mem_cons] at hp
          rcases hp with rfl | hp
          · simpa only [inArgs] using a6
          · simpa only [inArgs] using a5 p hp
        | _ => simp [okArgsM] at ho
      | gone =>
        cases t with
        | ref t =>
          simp only [okArgsM, Bool.and_eq_true, decide_eq_true_eq] at ho
          simp only [RArgsM] at hr
          obtain ⟨k, c, e, vs', L1, L2, gs', rfl, rfl, rfl, h1, h2, h3⟩ := hr
          obtain ⟨φ', a1, a2, a3, a4, a5, a6⟩ := hbox ho.1.1 ho.1.2 ho.2 h1 h2 h3 (hv.perm (by
            rw [blks_app, List.append_assoc, List.append_assoc]
            refine List.Perm.append_left _ ?_
            show (blks L2 ++ k :: (gs' ++ bs)).Perm (k :: (blks L2 ++ (gs' ++ bs)))
            exact List.perm_middle))
          exact ⟨φ', by simpa only [inArgs] using a1, by simpa only [inArgs] using a2, by simpa only [inArgs] using a3, a4, by simpa only [inArgs, boxKs] using a5⟩
        | _ => simp [okArgsM] at ho
  | _ => intro ms i σ φ x us Ls bs gs ho; cases ms <;> simp [okArgsM] at ho
end
end Go.AM

set_option linter.unusedSimpArgs false
set_option linter.constructorNameAsVariable false
namespace Go.AM
open Go.RowKit
section
variable {P : Program} {TT : TyTab} {N : Nat} {rowAt : List Nat} {X : Ctx} {σ : St} {a : Act} {w : World} {φ : Nat → Loc} {G M : Nat → Prop}

/-! ### how such a function ends -/
/-- Data that leaves in cells: the data, the rows that leave, the rows that are frozen, the rest. -/
def outC (H : Heap) : (t : Ty) → List AV → Option (den t × List Nat × List Nat × List AV)
  | .olist t, .own k lo n :: cs => match hget H k with
    | some (.row t' xs false) => match castL? t' t ((xs.drop lo).take n) with
      | some ys => some (ys, [k], [], cs)
      | none => none
    | _ => none
  | .olist t, .sl t' [] true :: cs => if t' = t then some ([], [], [], cs) else none
  | .olist _, _ => none
  | .unit, cs => some ((), [], [], cs)
  | .pair a b, cs => match outC H a cs with
    | some (x, os, fs, cs1) => match outC H b cs1 with
      | some (y, os', fs', cs2) => some ((x, y), os ++ os', fs ++ fs', cs2)
      | none => none
    | none => none
  | t, c :: cs => if noRef t && plain t then match toCells H t [c] with
      | some (x, []) => some (x, [], keysC [c], cs)
      | _ => none
    else none
  | _, [] => none
def outV (H : Heap) : (t : Ty) → AV → Option (den t × List Nat × List Nat)
  | .pair a b, .agg cs => match outC H (.pair a b) cs with
    | some (x, os, fs, []) => some (x, os, fs)
    | _ => none
  | .pair _ _, _ => none
  | .olist t, v => match outC H (.olist t) [v] with
    | some (x, os, fs, []) => some (x, os, fs)
    | _ => none
  | t, v => if noRef t && plain t then match toV H t v with
      | some x => some (x, [], keysC (cellsOf v))
      | none => none
    else none
def outR (H : Heap) : (r : Ty) → List AV → Option (den r × List Nat × List Nat)
  | .unit, [] => some ((), [], [])
  | .pair t b, v :: vs => match outV H t v with
    | some (x, os, fs) => match outR H b vs with
      | some (y, os', fs') => some ((x, y), os ++ os', fs ++ fs')
      | none => none
    | none => none
  | _, _ => none
def apart (os fs : List Nat) : Prop := os.Nodup ∧ ∀ k, k ∈ os → k ∉ fs

/-- places of rows that leave -/
def OL (φ : Nat → Loc) (H : Heap) (os : List Nat) (Ls : List Loc) : Prop :=
  (∀ b, b ∈ blks Ls → ∃ k ∈ os, ∃ (t : Ty) (xs : List (den t)), hget H k = some (.row t xs false) ∧ 0 < (φ k).cap ∧ (φ k).blk = b) ∧ (os.Nodup → (blks Ls).Nodup)
theorem OL.app {H : Heap} (hH : RelH P φ G M w H) {os os' : List Nat} {Ls Ls' : List Loc} (h : OL φ H os Ls) (h' : OL φ H os' Ls') : OL φ H (os ++ os') (Ls ++ Ls') := by
  refine ⟨fun b hb => ?_, fun hn => ?_⟩
  · rw [blks_app, List.mem_append] at hb
    rcases hb with hb | hb
    · obtain ⟨k, hk, r⟩ := h.1 b hb; exact ⟨k, List.mem_append_left _ hk, r⟩
    · obtain ⟨k, hk, r⟩ := h'.1 b hb; exact ⟨k, List.mem_append_right _ hk, r⟩
  · rw [List.nodup_append] at hn
    rw [blks_app, List.nodup_append]
    refine ⟨h.2 hn.1, h'.2 hn.2.1, fun b hb b' hb' e => ?_⟩
    subst e
    obtain ⟨k, hk, t, xs, h1, h2, h3⟩ := h.1 b hb
    obtain ⟨k', hk', t', xs', h1', h2', h3'⟩ := h'.1 b hb'
    exact hH.inj k k' _ _ h1 h1' (hn.2.2 k hk k' hk') (by simpa [alloc] using h2) (by simpa [alloc] using h2') (h3.trans h3'.symm)
theorem OL.nil {H : Heap} (os : List Nat) : OL φ H os [] := ⟨fun b hb => by simp [blks] at hb, fun _ => by simp [blks]⟩

theorem outC_sound {H0 H : Heap} (hH : RelH P φ G M w H) (hs : HS H0 H) {ks : List Nat} (ho : ∀ k, k ∉ ks → hget H k = hget H0 k) (hf : Frozen H ks) {t : Ty} :
    ∀ {cs : List AV} {us : List Value} {x : den t} {os fs : List Nat} {r : List AV}, RAL P φ G M w H cs us → outC H0 t cs = some (x, os, fs, r) → (∀ k, k ∈ fs → k ∈ ks) → (∀ k, k ∈ os → k ∉ ks) →
    ∃ u1 u2 Ls, us = u1 ++ u2 ∧ RAL P φ G M w H r u2 ∧ RC P t G w x u1 Ls ∧ OL φ H os Ls := by
  have one : ∀ {t : Ty} {c : AV} {cs : List AV} {us : List Value} {x : den t}, (∀ u, RT P t G w x [u] → RC P t G w x [u] []) → RAL P φ G M w H (c :: cs) us → noRef t = true → toCells H0 t [c] = some (x, []) → (∀ k, k ∈ keysC [c] → k ∈ ks) →
      ∃ u1 u2 Ls, us = u1 ++ u2 ∧ RAL P φ G M w H cs u2 ∧ RC P t G w x u1 Ls ∧ OL φ H [] Ls := by
    intro t c cs us x hiff hr hn ht hk
    simp only [RAL] at hr
    obtain ⟨u, us', rfl, h1, h2⟩ := hr
    have hral : RAL P φ G M w H [c] [u] := by simp only [RAL]; exact ⟨u, [], rfl, h1, rfl⟩
    rw [← toCells_same hs] at ht
    obtain ⟨v1, v2, e, hrt, hrest⟩ := toCells_sound hH (G1 := G) (fun _ h => h) (.inr ⟨hn, hf.sub hk⟩) hral ht
    simp only [RAL] at hrest
    obtain ⟨rfl, _⟩ := hrest
    rw [List.append_nil] at e
    subst e
    exact ⟨[u], us', [], rfl, h2, hiff u hrt, OL.nil _⟩
  induction t with
  | olist t _ =>
    intro cs us x os fs r hr h hk1 hk2
    cases cs with
    | nil => simp [outC] at h
    | cons c cs =>
      cases c with
      | own k lo n =>
        simp only [outC] at h
        split at h
        · rename_i t' xs hk
          split at h
          · rename_i ys hys
            cases h
            obtain ⟨e, hye⟩ := castL?_eq hys
            subst e
            simp only at hye
            have hkk : hget H k = some (.row t' xs false) := by rw [ho k (hk2 k (by simp))]; exact hk
            simp only [RAL] at hr
            obtain ⟨u, us', rfl, h1, h2⟩ := hr
            simp only [RA, hkk] at h1
            have hob := hH.obj k _ hkk
            simp only [RObj] at hob
            have hlen : ((xs.drop lo).take n).length = n := by simp only [List.length_take, List.length_drop]; omega
            refine ⟨[u], us', [⟨(φ k).blk, (φ k).base + lo * AM.size t', (φ k).cap - lo⟩], rfl, h2, ?_, ?_⟩
            · simp only [RC]
              refine ⟨u, _, rfl, rfl, ?_, ?_⟩
              · rw [← hye, hlen]
                obtain ⟨A, e1, e2, e3⟩ := h1.2
                refine ⟨A, by rw [e1]; rfl, by show 0 + n ≤ (φ k).cap - lo; omega, ?_⟩
                rcases e3 with e3 | e3
                · exact .inl (by show (φ k).cap - lo - 0 = 0; omega)
                · exact .inr (by rw [e3]; simp)
              · rw [← hye]
                exact hob.1.part h1.1
            · refine ⟨fun b hb => ?_, fun _ => ?_⟩
              · obtain ⟨L, hL, hc, e⟩ := mem_blks.1 hb
                rw [List.mem_singleton.1 hL] at hc e
                exact ⟨k, by simp, t', xs, hkk, by have : 0 < (φ k).cap - lo := hc; omega, e⟩
              · unfold blks
                by_cases hc : 0 < (φ k).cap - lo <;> simp [hc]
          · cases h
        · cases h
      | sl t' xs f =>
        cases xs with
        | cons y ys => cases f <;> simp [outC] at h
        | nil =>
          cases f with
          | false => simp [outC] at h
          | true =>
            simp only [outC] at h
            split at h
            · rename_i e
              subst e
              cases h
              simp only [RAL] at hr
              obtain ⟨u, us', rfl, h1, h2⟩ := hr
              simp only [RA] at h1
              obtain ⟨p1, p2, _, p4⟩ := h1
              obtain ⟨A, rfl⟩ := p4 trivial
              refine ⟨[_], us', [⟨0, 0, 0⟩], rfl, h2, ?_, ⟨fun b hb => by simp [blks] at hb, fun _ => by simp [blks]⟩⟩
              simp only [RC]
              exact ⟨_, ⟨0, 0, 0⟩, rfl, rfl, ⟨A, by simp, by simp, .inl rfl⟩, p1, p2, .inl ⟨rfl, rfl⟩⟩
            · cases h
      | _ => simp [outC] at h
  | unit =>
    intro cs us x os fs r hr h _ _
    simp only [outC] at h
    cases h
    exact ⟨[], us, [], rfl, hr, by simp only [RC, RT]; exact ⟨trivial, trivial⟩, OL.nil _⟩
  | pair s b iha ihb =>
    intro cs us x os fs r hr h hk1 hk2
    simp only [outC] at h
    split at h
    · rename_i y os1 fs1 cs1 h1
      split at h
      · rename_i z os2 fs2 cs2 h2
        cases h
        obtain ⟨u1, u2, L1, rfl, e1, e2, e3⟩ := iha hr h1 (fun k hk => hk1 k (List.mem_append_left _ hk)) (fun k hk => hk2 k (List.mem_append_left _ hk))
        obtain ⟨u3, u4, L2, rfl, f1, f2, f3⟩ := ihb e1 h2 (fun k hk => hk1 k (List.mem_append_right _ hk)) (fun k hk => hk2 k (List.mem_append_right _ hk))
        refine ⟨u1 ++ u3, u4, L1 ++ L2, by rw [List.append_assoc], f1, ?_, OL.app hH e3 f3⟩
        simp only [RC]
        exact ⟨u1, u3, L1, L2, rfl, rfl, e2, f2⟩
      · cases h
    · cases h
  | _ =>
    intro cs us x os fs r hr h hk1 hk2
    rcases cs with _ | ⟨c, cs⟩
    · simp [outC] at h
    · simp only [outC] at h
      split at h
      · rename_i hc
        simp only [Bool.and_eq_true] at hc
        split at h
        · rename_i y hy
          cases h
          exact one (fun u hu => by simp only [RC]; exact ⟨trivial, hu⟩) hr hc.1 hy hk1
        · cases h
      · cases h

theorem outV_sound {H0 H : Heap} (hH : RelH P φ G M w H) (hs : HS H0 H) {ks : List Nat} (ho : ∀ k, k ∉ ks → hget H k = hget H0 k) (hf : Frozen H ks) {t : Ty} {v : AV} {u : Value} {x : den t} {os fs : List Nat} (hr : RA P φ G M w H v u)
    (h : outV H0 t v = some (x, os, fs)) (hk1 : ∀ k, k ∈ fs → k ∈ ks) (hk2 : ∀ k, k ∈ os → k ∉ ks) : ∃ Ls, RVM P t G w x u Ls ∧ OL φ H os Ls := by
  cases t with
  | pair s b =>
    cases v with
    | agg cs =>
      simp only [outV] at h
      split at h
      · rename_i y os1 fs1 hy
        cases h
        simp only [RA] at hr
        obtain ⟨us, rfl, hr⟩ := hr
        obtain ⟨u1, u2, Ls, e, g1, g2, g3⟩ := outC_sound hH hs ho hf hr hy hk1 hk2
        simp only [RAL] at g1
        subst g1
        rw [List.append_nil] at e
        subst e
        exact ⟨Ls, by simp only [RVM]; exact ⟨us, rfl, g2⟩, g3⟩
      · cases h
    | _ => simp [outV] at h
  | olist s =>
    simp only [outV] at h
    split at h
    · rename_i y os1 fs1 hy
      cases h
      obtain ⟨u1, u2, Ls, e, g1, g2, g3⟩ := outC_sound hH hs ho hf (us := [u]) (by simp only [RAL]; exact ⟨u, [], rfl, hr, rfl⟩) hy hk1 hk2
      simp only [RAL] at g1
      subst g1
      rw [List.append_nil] at e
      subst e
      exact ⟨Ls, by simp only [RVM]; exact g2, g3⟩
    · cases h
  | _ =>
    simp only [outV] at h
    split at h
    · rename_i hc
      simp only [Bool.and_eq_true] at hc
      split at h
      · rename_i y hy
        cases h
        refine ⟨[], ?_, OL.nil _⟩
        simp only [RVM]
        exact ⟨trivial, toV_sound hH (fun _ h => h) (.inr ⟨hc.1, hf.sub hk1⟩) hr (by rw [toV_same hs]; exact hy)⟩
      · cases h
    · cases h

theorem outR_sound {H0 H : Heap} (hH : RelH P φ G M w H) (hs : HS H0 H) {ks : List Nat} (ho : ∀ k, k ∉ ks → hget H k = hget H0 k) (hf : Frozen H ks) {r : Ty} :
    ∀ {vs : List AV} {us : List Value} {y : den r} {os fs : List Nat}, RAL P φ G M w H vs us → outR H0 r vs = some (y, os, fs) → (∀ k, k ∈ fs → k ∈ ks) → (∀ k, k ∈ os → k ∉ ks) → ∃ Ls, ROM P r G w y us Ls ∧ OL φ H os Ls ∧
      ((r = .unit ∧ us = []) ∨ ∃ t b, r = .pair t b ∧ ((b = .unit ∧ ∃ u, us = [u]) ∨ (b ≠ .unit ∧ 2 ≤ us.length))) := by
  induction r with
  | unit =>
    intro vs us y os fs hr h _ _
    cases vs with
    | nil =>
      simp only [outR] at h
      cases h
      simp only [RAL] at hr
      subst hr
      exact ⟨[], by simp only [ROM]; exact ⟨trivial, trivial⟩, OL.nil _, .inl ⟨rfl, rfl⟩⟩
    | cons v vs => simp [outR] at h
  | pair t b _ ih =>
    intro vs us y os fs hr h hk1 hk2
    cases vs with
    | nil => simp [outR] at h
    | cons v vs =>
      simp only [outR] at h
      split at h
      · rename_i x os1 fs1 hx
        split at h
        · rename_i z os2 fs2 hz
          cases h
          simp only [RAL] at hr
          obtain ⟨u, us', rfl, h1, h2⟩ := hr
          obtain ⟨L1, e1, e2⟩ := outV_sound hH hs ho hf h1 hx (fun k hk => hk1 k (List.mem_append_left _ hk)) (fun k hk => hk2 k (List.mem_append_left _ hk))
          obtain ⟨L2, f1, f2, f3⟩ := ih h2 hz (fun k hk => hk1 k (List.mem_append_right _ hk)) (fun k hk => hk2 k (List.mem_append_right _ hk))
          refine ⟨L1 ++ L2, by simp only [ROM]; exact ⟨u, us', L1, L2, rfl, rfl, e1, f1⟩, OL.app hH e2 f2, .inr ⟨t, b, rfl, ?_⟩⟩
          rcases f3 with ⟨rfl, rfl⟩ | ⟨t', b', rfl, f3⟩
          · exact .inl ⟨rfl, u, rfl⟩
          · refine .inr ⟨by simp, ?_⟩
            rcases f3 with ⟨_, u', rfl⟩ | ⟨_, hl⟩
            · simp
            · simp only [List.length_cons]; omega
        · cases h
      · cases h
  | _ => intro vs us y os fs _ h; cases vs <;> simp [outR] at h

/-- What the end of a function that takes over must show. bx: its box that is given back; b: that box's block. -/
def RQM (ros : List RO) (fn : Fn) (x : den fn.a) (bx : List Nat) (b : Nat) (e : Ex) (σ : St) : Prop :=
  match e with
  | .exit _ => False
  | _ => match readAll σ ros with
    | some vs => match outR σ.heap fn.r vs with
      | some (y, os, fs) => y = fn.f x ∧ match bx with
        | [] => apart os fs
        | _ => match eget σ.env 1000000 with
          | .pn k b' => b' = b ∧ match hget σ.heap k with
            | some (.box cs) => match outC σ.heap fn.bk cs with
              | some (z, os', fs', []) => z = fn.bf x ∧ apart (os ++ os') (fs ++ fs')
              | _ => False
            | _ => False
          | _ => False
      | none => False
    | none => False
def pins (bx : List Nat) (b : Nat) : Env := match bx with
  | [k] => [(1000000, .pn k b)]
  | _ => []
theorem eget_app_or {A B : Env} {t : Nat} : eget (A ++ B) t = eget A t ∨ eget (A ++ B) t = eget B t := by
  induction A with
  | nil => exact .inr rfl
  | cons p A ih =>
    obtain ⟨i, v⟩ := p
    simp only [List.cons_append, eget]
    split
    · exact .inl rfl
    · exact ih

theorem HoldsM.of_snd {f : Nat} {fd : Func} {code : Code} {ros : List RO} {fn : Fn} {ms : List Mk} (hf : P.funcs[f]? = some fd) (hname : fd.name ≠ "runtime.NumGoroutine") (hb : fd.body = some code)
    (hro : compRes P fd.results.toList = some ros) (hres : okRes fn.r = true) (hbk : plain fn.bk = true) (hargs : okArgsM fn.a ms = true)
    (h : ∀ x, fn.pre x → ∀ b, Snd P (RQM ros fn x (boxKs 0 ms) b) code fd.ntmps ⟨initEnv 0 (inArgs 0 fn.a ms x).1 ++ pins (boxKs 0 ms) b, putAll [] (inArgs 0 fn.a ms x).2⟩) : HoldsM P f fn ms where
  res := ⟨hres, hbk⟩
  code := ⟨fd, hf, hname, by rw [hb]; rfl⟩
  calls := by
    intro w G x args Ls bs gs hpre hG ha hnd hblk _ hb1
    refine calls_of_wp hf hb ?_
    let X : Ctx := { w0 := w, G0 := G, RB := fun b => b ∈ blks Ls ++ (gs ++ bs), N := fd.ntmps }
    have hR0 : Rel P X ⟨[], []⟩ { tmps := args.toArray ++ Array.replicate (fd.ntmps - args.toArray.size) undef, defers := [] } w (fun _ => ⟨0, 0, 0⟩) G (fun b => b ∈ blks Ls ++ (gs ++ bs)) := by
      refine ⟨fun t => by simp only [eget, RA], ⟨fun k o hk => by simp [hget] at hk, fun k k' o o' hk => by simp [hget] at hk, hG, fun b hb => (hblk b hb).1, fun b hg hb => (hblk b hb).2 hg⟩, ?_, rfl, fun _ _ _ => rfl, Nat.le_refl _, rfl, rfl, rfl, fun b hb _ => .inl hb, fun b hb _ => hb⟩
      show fd.ntmps ≤ _
      simp; omega
    obtain ⟨φ0, hR1, hral, _, hlen, hpins⟩ := inArgs_sound (i := 0) hargs hR0 ha (fun _ _ => rfl) ⟨fun b hb => ⟨hb, fun k o hk => by simp [hget] at hk⟩, hnd⟩
    have hpin : ∀ b0, (∀ b, bs = [b] → b = b0) → ∀ t u, RA P φ0 G (fun b => b ∈ blks Ls ++ (gs ++ bs)) w (putAll [] (inArgs 0 fn.a ms x).2) (eget (pins (boxKs 0 ms) b0) t) u := by
      intro b0 hb0 t u
      unfold pins
      split
      · rename_i k hk
        simp only [eget]
        split
        · have hl : bs.length = 1 := by rw [← hlen, hk]; rfl
          obtain ⟨b, rfl⟩ := List.length_eq_one_iff.1 hl
          have := hpins (k, b) (by rw [hk]; simp)
          rw [hb0 b rfl] at this
          simp only [RA] at this ⊢
          exact this
        · simp only [RA]
      · simp only [eget, RA]
    obtain ⟨b0, hb0⟩ : ∃ b0, ∀ b, bs = [b] → b = b0 := by
      match bs with
      | [] => exact ⟨0, fun b h => by simp at h⟩
      | [b] => exact ⟨b, fun b' h => by simp at h; exact h.symm⟩
      | b :: c :: r => exact ⟨0, fun b' h => by simp at h⟩
    have hR2 : Rel P X ⟨initEnv 0 (inArgs 0 fn.a ms x).1 ++ pins (boxKs 0 ms) b0, putAll [] (inArgs 0 fn.a ms x).2⟩ { tmps := args.toArray ++ Array.replicate (fd.ntmps - args.toArray.size) undef, defers := [] } w φ0 G (fun b => b ∈ blks Ls ++ (gs ++ bs)) := by
      refine { hR1 with env := fun t => ?_ }
      have h1 := (initEnv_sound (i := 0) (t := t) hral).1 (Nat.zero_le _)
      have e : (args.toArray ++ Array.replicate (fd.ntmps - args.toArray.size) undef).getD t undef = args.getD t undef := by
        rw [Array.getD_eq_getD_getElem?, List.getD_eq_getElem?_getD, Array.getElem?_append]
        split
        · simp
        · rename_i hlt
          simp only [List.size_toArray, Nat.not_lt] at hlt
          rw [List.getElem?_eq_none (by omega)]
          rw [Array.getElem?_replicate]
          split <;> rfl
      show RA P _ _ _ _ _ (eget (_ ++ _) t) ((args.toArray ++ Array.replicate (fd.ntmps - args.toArray.size) undef).getD t undef)
      rw [e]
      rcases eget_app_or (A := initEnv 0 (inArgs 0 fn.a ms x).1) (B := pins (boxKs 0 ms) b0) (t := t) with e | e
      · rw [e]; simpa using h1
      · rw [e]; exact hpin b0 hb0 t _
    refine h x hpre b0 X _ _ _ _ _ _ (Nat.le_refl _) hR2 fun e a w' hp => ?_
    have fin : (∃ σ φ G' M', Rel P X σ a w' φ G' M' ∧ RQM ros fn x (boxKs 0 ms) b0 .norm σ) → a.defers = [] ∧ ∃ v, (results fd a.tmps).run P w' = .ok v w' ∧ PostM P fn x w G (fun b => b ∈ blks Ls ++ (gs ++ bs)) bs (.returned v) w' := by
      rintro ⟨σ, φ, G1, M1, hR1, hq⟩
      refine ⟨hR1.def_, ?_⟩
      simp only [RQM] at hq
      split at hq
      · rename_i vs hvs
        split at hq
        · rename_i y os fs hout
          obtain ⟨rfl, hq⟩ := hq
          -- a common end
          have done : ∀ (fs' : List Nat) (os' : List Nat), apart (os ++ os') (fs ++ fs') → (∀ {G2 M2 : Nat → Prop}, Rel P X ⟨σ.env, frzH σ.heap (fs ++ fs')⟩ a w' φ G2 M2 → ∃ L2, BoxM P fn.bk G2 w' (fn.bf x) bs L2 ∧ OL φ (frzH σ.heap (fs ++ fs')) os' L2 ∧
              (∀ b, b ∈ bs → ∃ k cs, hget (frzH σ.heap (fs ++ fs')) k = some (.box cs) ∧ (φ k).blk = b)) → ∃ v, (results fd a.tmps).run P w' = .ok v w' ∧ PostM P fn x w G (fun b => b ∈ blks Ls ++ (gs ++ bs)) bs (.returned v) w' := by
            intro fs' os' hap hbx
            obtain ⟨G2, M2, _, hR2⟩ := Rel.frz (fs ++ fs') hR1
            obtain ⟨us, hrun, hral⟩ := readAll_sound hR2 hro (by rw [readAll_frz]; exact hvs)
            obtain ⟨L1, hrom, hol, hshape⟩ := outR_sound hR2.heap (HS.frz _ _) (fun k hk => frzH_other hk) (frzH_frozen _ _) hral hout (fun k hk => List.mem_append_left _ hk) (fun k hk => hap.2 k (List.mem_append_left _ hk))
            obtain ⟨L2, hbm, hol2, hbb⟩ := hbx hR2
            have hall := OL.app hR2.heap hol hol2
            have hrun2 : (results fd a.tmps).run P w' = .ok (if h : us.toArray.size = 1 then us.toArray[0] else .tuple us.toArray) w' := by
              rw [results_eq]
              rw [Array.mapM_eq_mapM_toList]
              simp [Sem.run_bind, hrun]
            have hMin : ∀ b, b ∈ blks (L1 ++ L2) ++ bs → M2 b := by
              intro b hb
              rcases List.mem_append.1 hb with hb | hb
              · obtain ⟨k, _, t, xs, g1, g2, rfl⟩ := hall.1 b hb
                have hob := hR2.heap.obj k _ g1
                simp only [RObj] at hob
                exact (hob.2 g2).2 trivial
              · obtain ⟨k, cs, g1, rfl⟩ := hbb b hb
                have hob := hR2.heap.obj k _ g1
                simp only [RObj] at hob
                obtain ⟨_, _, _, hm, _⟩ := hob
                exact hm
            refine ⟨_, hrun2, _, G2, L1, L2, rfl, ⟨hR2.os, hR2.tape, hR2.output, hR2.size⟩, fun b hb hd => hR2.old b hb hd, fun b hb => ⟨hR2.heap.bnd b hb, fun hlt => hR2.g0 b hb hlt⟩, ?_, hbm, ?_, fun b hb => ⟨?_, hR2.heap.mnd b (hMin b hb), fun hg => hR2.heap.sep b hg (hMin b hb)⟩⟩
            · generalize fn.f x = y at hrom ⊢
              generalize fn.r = r at y hrom hshape ⊢
              rcases hshape with ⟨rfl, rfl⟩ | ⟨t, b, rfl, ⟨rfl, u, rfl⟩ | ⟨hbn, h2⟩⟩
              · exact ⟨#[], by simp, by simpa using hrom⟩
              · simp only [ROM] at hrom
                obtain ⟨v, vs', La, Lb, e, rfl, h1, e2, rfl⟩ := hrom
                subst e2
                simp only [List.cons.injEq, and_true] at e
                subst e
                simpa [ResM] using h1
              · have hs : ¬ us.toArray.size = 1 := by simp; omega
                rw [dif_neg hs]
                cases b with
                | unit => exact absurd rfl hbn
                | _ => exact ⟨us.toArray, rfl, by simpa using hrom⟩
            · rw [List.nodup_append]
              refine ⟨hall.2 hap.1, (List.nodup_append.1 (List.nodup_append.1 hnd).2.1).2.1, fun b hb b' hb' e => ?_⟩
              subst e
              obtain ⟨k, _, t, xs, g1, g2, g3⟩ := hall.1 b hb
              obtain ⟨k', cs, g1', g3'⟩ := hbb b hb'
              have hne : k ≠ k' := fun e => by subst e; rw [g1] at g1'; cases g1'
              exact hR2.heap.inj k k' _ _ g1 g1' hne (by simpa [alloc] using g2) trivial (g3.trans g3'.symm)
            · by_cases hlt : b < w.heap.size
              · exact .inr (hR2.mt b (hMin b hb) hlt)
              · exact .inl (by omega)
          split at hq
          · rename_i hbx
            have hbs : bs = [] := by
              have : bs.length = 0 := by rw [← hlen, hbx]; rfl
              exact List.eq_nil_of_length_eq_zero this
            subst hbs
            exact done [] [] (by simpa using hq) (fun _ => ⟨[], rfl, OL.nil _, fun b hb => by simp at hb⟩)
          · rename_i hbx
            split at hq
            · rename_i k b' hpn
              obtain ⟨rfl, hq⟩ := hq
              split at hq
              · rename_i cs hk
                split at hq
                · rename_i z os' fs' hoc
                  obtain ⟨rfl, hap⟩ := hq
                  have hl : bs.length = 1 := by
                    have : (boxKs 0 ms).length ≠ 0 := fun h0 => hbx (List.eq_nil_of_length_eq_zero h0)
                    omega
                  obtain ⟨b, rfl⟩ := List.length_eq_one_iff.1 hl
                  have hbe : b = b' := hb0 b rfl
                  refine done fs' os' hap (fun {G2 M2} hR2 => ?_)
                  have hkf : hget (frzH σ.heap (fs ++ fs')) k = some (.box cs) := by
                    have := HS.frz (fs ++ fs') σ.heap k
                    rw [hk] at this
                    cases hq2 : hget (frzH σ.heap (fs ++ fs')) k with
                    | none => rw [hq2] at this; simp [oSame] at this
                    | some ob =>
                      rw [hq2] at this
                      cases ob with
                      | box cs2 => simp only [oSame] at this; rw [this]
                      | row t xs f => simp [oSame] at this
                      | mp l => simp [oSame] at this
                  have hob := hR2.heap.obj k _ hkf
                  simp only [RObj] at hob
                  obtain ⟨c, e, g1, g2, g3⟩ := hob
                  have hp := hR2.env 1000000
                  have hpn2 : eget (⟨σ.env, frzH σ.heap (fs ++ fs')⟩ : St).env 1000000 = .pn k b' := hpn
                  rw [hpn2] at hp
                  simp only [RA] at hp
                  obtain ⟨u1, u2, L2, e4, f1, f2, f3⟩ := outC_sound hR2.heap (HS.frz _ _) (fun k hk => frzH_other hk) (frzH_frozen _ _) g3 hoc (fun k hk => List.mem_append_right _ hk) (fun k hk => hap.2 k (List.mem_append_right _ hk))
                  simp only [RAL] at f1
                  subst f1
                  rw [List.append_nil] at e4
                  rw [← e4] at f2
                  refine ⟨L2, ⟨c, e, by rw [hbe, ← hp.1]; exact g1, f2⟩, f3, fun b2 hb2 => ⟨k, cs, hkf, ?_⟩⟩
                  rw [List.mem_singleton.1 hb2, hbe]; exact hp.1
                · exact hq.elim
              · exact hq.elim
            · exact hq.elim
        · exact hq.elim
      · exact hq.elim
    cases e with
    | normal => exact fin hp
    | ret => exact fin hp
    | exit id => obtain ⟨σ, φ, G', M', _, hq⟩ := hp; exact hq.elim
    | _ => exact hp.elim
theorem HoldsM.of_vcc {T : Tab} (hT : TabOK P T) (hm : P.follows .mixedOrders = true) {f : Nat} {fd : Func} {code : Code} {c : C} {ros : List RO} {fn : Fn} {ms : List Mk} (hf : P.funcs[f]? = some fd) (hname : fd.name ≠ "runtime.NumGoroutine") (hb : fd.body = some code)
    (hc : compC P TT fd.ntmps rowAt code = some (erase c)) (hro : compRes P fd.results.toList = some ros) (hres : okRes fn.r = true) (hbk : plain fn.bk = true) (hargs : okArgsM fn.a ms = true)
    (h : ∀ x, fn.pre x → ∀ b, vc T c (RQM ros fn x (boxKs 0 ms) b) ⟨initEnv 0 (inArgs 0 fn.a ms x).1 ++ pins (boxKs 0 ms) b, putAll [] (inArgs 0 fn.a ms x).2⟩) : HoldsM P f fn ms :=
  .of_snd hf hname hb hro hres hbk hargs fun x hx b X a w φ G M QQ hN hR hQ => vc_sound2 hT hm hN hc (h x hx b) hR hQ
theorem HoldsM.of_vc {T : Tab} (hT : TabOK P T) (hm : P.follows .mixedOrders = true) {f : Nat} {fd : Func} {code : Code} {c : C} {ros : List RO} {fn : Fn} {ms : List Mk} (hf : P.funcs[f]? = some fd) (hname : fd.name ≠ "runtime.NumGoroutine") (hb : fd.body = some code)
    (hc : compC P TT fd.ntmps rowAt code = some c) (hro : compRes P fd.results.toList = some ros) (hres : okRes fn.r = true) (hbk : plain fn.bk = true) (hargs : okArgsM fn.a ms = true)
    (h : ∀ x, fn.pre x → ∀ b, vc T c (RQM ros fn x (boxKs 0 ms) b) ⟨initEnv 0 (inArgs 0 fn.a ms x).1 ++ pins (boxKs 0 ms) b, putAll [] (inArgs 0 fn.a ms x).2⟩) : HoldsM P f fn ms :=
  .of_snd hf hname hb hro hres hbk hargs fun x hx b X a w φ G M QQ hN hR hQ => vc_sound hT hm hN hc (h x hx b) hR hQ
end
end Go.AM
