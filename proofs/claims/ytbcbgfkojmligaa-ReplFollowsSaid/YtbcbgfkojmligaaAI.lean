import Derived.Test.YtbcbgfkojmligaaAH
import Derived.Scope
import Derived.Orders
import Derived.Deep.LoopGhost
/- Part of an abstract machine for Go code and of its soundness, for any program of the model; no condition. -/
set_option linter.unusedVariables false
set_option linter.unusedSimpArgs false
set_option linter.unusedSimpArgs false
set_option linter.constructorNameAsVariable false
namespace Go.AM
open Go.RowKit
section
variable {P : Program} {TT : TyTab} {N : Nat} {rowAt : List Nat} {X : Ctx} {σ : St} {a : Act} {w : World} {φ : Nat → Loc} {G M : Nat → Prop}

theorem shape_refl (o : Obj) : shape o o := by cases o <;> simp [shape]

theorem Rel.eqv {σ' : St} (h : Rel P X σ a w φ G M) (e : Eqv σ' σ) : Rel P X σ' a w φ G M := by
  have E : Ext φ φ G G M M w w σ.heap σ'.heap := ⟨fun _ h => h, fun _ _ => rfl, fun _ _ _ => rfl, fun k o hk => ⟨rfl, o, by rw [← e.2 k]; exact hk, shape_refl o⟩, fun _ _ h => h, Nat.le_refl _⟩
  have hH : RelH P φ G M w σ'.heap := ⟨fun k o hk => RObj.mono E rfl (fun _ => rfl) (fun h => h) (h.heap.obj k o (by rw [e.2 k]; exact hk)), fun k k' o o' hk hk' => h.heap.inj k k' o o' (by rw [e.2 k]; exact hk) (by rw [e.2 k']; exact hk'), h.heap.bnd, h.heap.mnd, h.heap.sep⟩
  have := Rel.step h E hH rfl rfl rfl (fun _ hb _ => .inl hb)
  exact { this with env := fun t => by rw [← e.1 t]; exact this.env t }

theorem vc_sound {T : Tab} (hT : TabOK P T) (hm : P.follows .mixedOrders = true) (hN : N ≤ X.N) : ∀ {code : Code} {c : C} {Q : Ex → St → Prop} {σ : St} {a : Act} {w : World} {φ : Nat → Loc} {G M : Nat → Prop} {QQ : Exit → Act → World → Prop},
    compC P TT N rowAt code = some c → vc T c Q σ → Rel P X σ a w φ G M → (∀ e a w, Post P X Q e a w → QQ e a w) → code.wp P QQ a w := by
  intro code
  induction code with
  | skip => intro c Q σ a w φ G M QQ hc h hR hQ; cases hc; exact wp_skip (hQ _ _ _ ⟨σ, φ, G, M, hR, h⟩)
  | label l => intro c Q σ a w φ G M QQ hc h hR hQ; cases hc; exact wp_label (hQ _ _ _ ⟨σ, φ, G, M, hR, h⟩)
  | exit id => intro c Q σ a w φ G M QQ hc h hR hQ; cases hc; exact wp_exit (hQ _ _ _ ⟨σ, φ, G, M, hR, h⟩)
  | ret => intro c Q σ a w φ G M QQ hc h hR hQ; cases hc; exact wp_ret (hQ _ _ _ ⟨σ, φ, G, M, hR, h⟩)
  | region id ops d =>
    intro c Q σ a w φ G M QQ hc h hR hQ
    cases d with
    | false =>
      simp only [compC] at hc
      split at hc
      · rename_i xs hxs
        cases hc
        refine wp_region ?_
        rw [List.range_eq_range']
        exact wpOps_sound hT hN (K := Q .norm) (fun a w h => hQ _ _ _ h) (by omega) hxs hR h
      · cases hc
    | true =>
      simp only [compC] at hc
      split at hc
      · rename_i xs hxs
        cases hc
        refine wp_region_any hm ?_
        refine anyOps_sound hT hN hxs (K := fun σ' => ∃ σf, Eqv σf σ' ∧ Q .norm σf) (fun a w ⟨σ', φ', G', M', hR', σf, he, hq⟩ => hQ _ _ _ ⟨σf, φ', G', M', hR'.eqv he, hq⟩) (by simp) (by simp [List.filter_replicate]) (hR.drew) ?_
        have e : (Array.replicate ops.size false).toList = xs.map fun _ => false := by
          have := compOps_len hxs
          rw [Array.toList_replicate]
          rw [List.map_const', this]; simp
        rw [e]
        have hl := compOps_len hxs
        simp only [Array.length_toList] at hl
        rw [← hl]
        exact evTab_any h
      · cases hc
  | seq x y ihx ihy =>
    intro c Q σ a w φ G M QQ hc h hR hQ
    simp only [compC] at hc
    split at hc
    · rename_i cx cy hx hy
      cases hc
      refine wp_seq (ihx hx h hR fun e a w hp => ?_)
      cases e with
      | normal => obtain ⟨σ', φ', G', M', hR', h'⟩ := hp; exact ihy hy h' hR' hQ
      | exit id => exact hQ _ _ _ hp
      | ret => exact hQ _ _ _ hp
      | _ => exact hp.elim
    · cases hc
  | cond cnd x y ihx ihy =>
    intro c Q σ a w φ G M QQ hc h hR hQ
    simp only [compC] at hc
    split at hc
    · rename_i oc cx cy hcc hx hy
      cases hc
      simp only [vc] at h
      have hv := opd_sound hR hcc
      split at h
      · rename_i t ht
        rw [ht] at hv
        simp only [RA] at hv
        exact wp_cond_split hv (fun e => ihx hx (h.1 e) hR hQ) (fun e => ihy hy (h.2 e) hR hQ)
      · rename_i d t ht
        rw [ht] at hv
        simp only [RA] at hv
        exact wp_cond_split (hv.1 h.1) (fun e => ihx hx (h.2.1 e) hR hQ) (fun e => ihy hy (h.2.2 e) hR hQ)
      · exact h.elim
    · cases hc
  | block id x ih =>
    intro c Q σ a w φ G M QQ hc h hR hQ
    simp only [compC] at hc
    split at hc
    · rename_i cx hx
      cases hc
      refine wp_block (ih hx h hR fun e a w hp => ?_)
      cases e with
      | normal => exact hQ _ _ _ hp
      | exit i =>
        obtain ⟨σ', φ', G', M', hR', h'⟩ := hp
        simp only [inBlock] at h'
        simp only [Exit.inBlock]
        split at h'
        · rename_i e; rw [if_pos e]; exact hQ _ _ _ ⟨σ', φ', G', M', hR', h'⟩
        · rename_i e; rw [if_neg e]; exact hQ _ _ _ ⟨σ', φ', G', M', hR', h'⟩
      | ret => exact hQ _ _ _ hp
      | _ => exact hp.elim
    · cases hc
  | scope x ih =>
    intro c Q σ a w φ G M QQ hc h hR hQ
    simp only [compC] at hc
    refine wp_scope_straight (ih hc h hR fun e a w hp => ?_)
    cases e with
    | goto l => exact hp.elim
    | _ => exact hQ _ _ _ hp
  | loop x ih =>
    intro c Q σ a w φ G M QQ hc h hR hQ
    simp only [compC] at hc
    split at hc
    · rename_i cx hx
      cases hc
      simp only [vc] at h
      obtain ⟨I, ⟨n0, σ0, hE, hI⟩, hstep⟩ := h
      refine wp_loop_ghost (fun n a w => ∃ σ φ G M, Rel P X σ a w φ G M ∧ I n σ) n0 ?_ ?_
      · obtain ⟨φ', G', M', hR'⟩ := hE P X a w φ G M hR
        exact ⟨σ0, φ', G', M', hR', hI⟩
      · rintro n a w ⟨σ, φ, G, M, hR, hI⟩
        refine ih hx (hstep n σ hI) hR fun e a w hp => ?_
        cases e with
        | normal =>
          obtain ⟨σ', φ', G', M', hR', n', σ'', hlt, hE', hI'⟩ := hp
          obtain ⟨φ'', G'', M'', hR''⟩ := hE' P X a w φ' G' M' hR'
          exact ⟨n', hlt, σ'', φ'', G'', M'', hR'', hI'⟩
        | exit id => exact hQ _ _ _ hp
        | ret => exact hQ _ _ _ hp
        | _ => exact hp.elim
    · cases hc
  | _ => intro c Q σ a w φ G M QQ hc h hR hQ; cases hc
theorem Ent.refl0 (σ : St) : Ent σ σ := fun _ _ _ _ φ G M h => ⟨φ, G, M, h⟩
theorem Ent.trans0 {a b c : St} (h : Ent a b) (h' : Ent b c) : Ent a c := fun P X act w φ G M hR => by
  obtain ⟨φ1, G1, M1, h1⟩ := h P X act w φ G M hR
  exact h' P X act w φ1 G1 M1 h1
def isCut : C → Bool
  | .cut _ => true
  | _ => false
theorem strip {T : Tab} {Q : Ex → St → Prop} : ∀ {c : C} {σ : St}, vc T c Q σ → ∃ c' σ', isCut c' = false ∧ erase c' = erase c ∧ Ent σ σ' ∧ vc T c' Q σ' := by
  intro c
  induction c with
  | cut c ih =>
    intro σ h
    simp only [vc] at h
    obtain ⟨σ1, h1, h2⟩ := h
    obtain ⟨c', σ', h3, h4, h5, h6⟩ := ih h2
    exact ⟨c', σ', h3, by rw [h4]; simp only [erase], h1.trans0 h5, h6⟩
  | _ => intro σ h; exact ⟨_, σ, rfl, rfl, Ent.refl0 σ, h⟩

theorem erase_seq {c a b : C} (hn : isCut c = false) (h : some (C.seq a b) = some (erase c)) : ∃ x y, c = .seq x y ∧ erase x = a ∧ erase y = b := by
  cases c with
  | seq x y => simp only [erase, Option.some.injEq, C.seq.injEq] at h; exact ⟨x, y, rfl, h.1.symm, h.2.symm⟩
  | _ => simp [erase, isCut] at h hn
theorem erase_cond {c a b : C} {o : Opd} (hn : isCut c = false) (h : some (C.cond o a b) = some (erase c)) : ∃ x y, c = .cond o x y ∧ erase x = a ∧ erase y = b := by
  cases c with
  | cond o' x y => simp only [erase, Option.some.injEq, C.cond.injEq] at h; obtain ⟨rfl, h1, h2⟩ := h; exact ⟨x, y, rfl, h1.symm, h2.symm⟩
  | _ => simp [erase, isCut] at h hn
theorem erase_block {c a : C} {i : Nat} (hn : isCut c = false) (h : some (C.block i a) = some (erase c)) : ∃ x, c = .block i x ∧ erase x = a := by
  cases c with
  | block i' x => simp only [erase, Option.some.injEq, C.block.injEq] at h; obtain ⟨rfl, h1⟩ := h; exact ⟨x, rfl, h1.symm⟩
  | _ => simp [erase, isCut] at h hn
theorem erase_loop {c a : C} (hn : isCut c = false) (h : some (C.loop a) = some (erase c)) : ∃ x, c = .loop x ∧ erase x = a := by
  cases c <;> simp [erase, isCut] at h hn ⊢
  exact h.symm
theorem erase_skip {c : C} (hn : isCut c = false) (h : some C.skip = some (erase c)) : c = .skip := by
  cases c <;> simp [erase, isCut] at h hn ⊢
theorem erase_ret {c : C} (hn : isCut c = false) (h : some C.ret = some (erase c)) : c = .ret := by
  cases c <;> simp [erase, isCut] at h hn ⊢
theorem erase_exit {c : C} {i : Nat} (hn : isCut c = false) (h : some (C.exit i) = some (erase c)) : c = .exit i := by
  cases c <;> simp [erase, isCut] at h hn ⊢
  exact h.symm
theorem erase_reg {c : C} {ops : List AOp} (hn : isCut c = false) (h : some (C.reg ops) = some (erase c)) : c = .reg ops := by
  cases c <;> simp [erase, isCut] at h hn ⊢
  exact h.symm
theorem erase_regd {c : C} {ops : List AOp} {b : List Nat} (hn : isCut c = false) (h : some (C.regd ops b) = some (erase c)) : c = .regd ops b := by
  cases c <;> simp [erase, isCut] at h hn ⊢
  exact ⟨h.1.symm, h.2.symm⟩

theorem vc_sound2 {T : Tab} (hT : TabOK P T) (hm : P.follows .mixedOrders = true) (hN : N ≤ X.N) : ∀ {code : Code} {c : C} {Q : Ex → St → Prop} {σ : St} {a : Act} {w : World} {φ : Nat → Loc} {G M : Nat → Prop} {QQ : Exit → Act → World → Prop},
    compC P TT N rowAt code = some (erase c) → vc T c Q σ → Rel P X σ a w φ G M → (∀ e a w, Post P X Q e a w → QQ e a w) → code.wp P QQ a w := by
  intro code
  induction code with
  | skip => intro c Q σ a w φ G M QQ hc h hR hQ; obtain ⟨c, σ, hn, he, hE, h⟩ := strip h; rw [← he] at hc; obtain ⟨φ, G, M, hR⟩ := hE P X a w φ G M hR; clear he hE; simp only [compC] at hc; cases erase_skip hn hc; exact wp_skip (hQ _ _ _ ⟨σ, φ, G, M, hR, h⟩)
  | label l => intro c Q σ a w φ G M QQ hc h hR hQ; obtain ⟨c, σ, hn, he, hE, h⟩ := strip h; rw [← he] at hc; obtain ⟨φ, G, M, hR⟩ := hE P X a w φ G M hR; clear he hE; simp only [compC] at hc; cases erase_skip hn hc; exact wp_label (hQ _ _ _ ⟨σ, φ, G, M, hR, h⟩)
  | exit id => intro c Q σ a w φ G M QQ hc h hR hQ; obtain ⟨c, σ, hn, he, hE, h⟩ := strip h; rw [← he] at hc; obtain ⟨φ, G, M, hR⟩ := hE P X a w φ G M hR; clear he hE; simp only [compC] at hc; cases erase_exit hn hc; exact wp_exit (hQ _ _ _ ⟨σ, φ, G, M, hR, h⟩)
  | ret => intro c Q σ a w φ G M QQ hc h hR hQ; obtain ⟨c, σ, hn, he, hE, h⟩ := strip h; rw [← he] at hc; obtain ⟨φ, G, M, hR⟩ := hE P X a w φ G M hR; clear he hE; simp only [compC] at hc; cases erase_ret hn hc; exact wp_ret (hQ _ _ _ ⟨σ, φ, G, M, hR, h⟩)
  | region id ops d =>
    intro c Q σ a w φ G M QQ hc h hR hQ; obtain ⟨c, σ, hn, he, hE, h⟩ := strip h; rw [← he] at hc; obtain ⟨φ, G, M, hR⟩ := hE P X a w φ G M hR; clear he hE
    cases d with
    | false =>
      simp only [compC] at hc
      split at hc
      · rename_i xs hxs
        cases erase_reg hn hc
        refine wp_region ?_
        rw [List.range_eq_range']
        exact wpOps_sound hT hN (K := Q .norm) (fun a w h => hQ _ _ _ h) (by omega) hxs hR h
      · cases hc
    | true =>
      simp only [compC] at hc
      split at hc
      · rename_i xs hxs
        cases erase_regd hn hc
        refine wp_region_any hm ?_
        refine anyOps_sound hT hN hxs (K := fun σ' => ∃ σf, Eqv σf σ' ∧ Q .norm σf) (fun a w ⟨σ', φ', G', M', hR', σf, he, hq⟩ => hQ _ _ _ ⟨σf, φ', G', M', hR'.eqv he, hq⟩) (by simp) (by simp [List.filter_replicate]) (hR.drew) ?_
        have e : (Array.replicate ops.size false).toList = xs.map fun _ => false := by
          have := compOps_len hxs
          rw [Array.toList_replicate]
          rw [List.map_const', this]; simp
        rw [e]
        have hl := compOps_len hxs
        simp only [Array.length_toList] at hl
        rw [← hl]
        exact evTab_any h
      · cases hc
  | seq x y ihx ihy =>
    intro c Q σ a w φ G M QQ hc h hR hQ; obtain ⟨c, σ, hn, he, hE, h⟩ := strip h; rw [← he] at hc; obtain ⟨φ, G, M, hR⟩ := hE P X a w φ G M hR; clear he hE
    simp only [compC] at hc
    split at hc
    · rename_i cx cy hx hy
      obtain ⟨c1, c2, rfl, rfl, rfl⟩ := erase_seq hn hc
      refine wp_seq (ihx hx h hR fun e a w hp => ?_)
      cases e with
      | normal => obtain ⟨σ', φ', G', M', hR', h'⟩ := hp; exact ihy hy h' hR' hQ
      | exit id => exact hQ _ _ _ hp
      | ret => exact hQ _ _ _ hp
      | _ => exact hp.elim
    · cases hc
  | cond cnd x y ihx ihy =>
    intro c Q σ a w φ G M QQ hc h hR hQ; obtain ⟨c, σ, hn, he, hE, h⟩ := strip h; rw [← he] at hc; obtain ⟨φ, G, M, hR⟩ := hE P X a w φ G M hR; clear he hE
    simp only [compC] at hc
    split at hc
    · rename_i oc cx cy hcc hx hy
      obtain ⟨c1, c2, rfl, rfl, rfl⟩ := erase_cond hn hc
      simp only [vc] at h
      have hv := opd_sound hR hcc
      split at h
      · rename_i t ht
        rw [ht] at hv
        simp only [RA] at hv
        exact wp_cond_split hv (fun e => ihx hx (h.1 e) hR hQ) (fun e => ihy hy (h.2 e) hR hQ)
      · rename_i d t ht
        rw [ht] at hv
        simp only [RA] at hv
        exact wp_cond_split (hv.1 h.1) (fun e => ihx hx (h.2.1 e) hR hQ) (fun e => ihy hy (h.2.2 e) hR hQ)
      · exact h.elim
    · cases hc
  | block id x ih =>
    intro c Q σ a w φ G M QQ hc h hR hQ; obtain ⟨c, σ, hn, he, hE, h⟩ := strip h; rw [← he] at hc; obtain ⟨φ, G, M, hR⟩ := hE P X a w φ G M hR; clear he hE
    simp only [compC] at hc
    split at hc
    · rename_i cx hx
      obtain ⟨c1, rfl, rfl⟩ := erase_block hn hc
      refine wp_block (ih hx h hR fun e a w hp => ?_)
      cases e with
      | normal => exact hQ _ _ _ hp
      | exit i =>
        obtain ⟨σ', φ', G', M', hR', h'⟩ := hp
        simp only [inBlock] at h'
        simp only [Exit.inBlock]
        split at h'
        · rename_i e; rw [if_pos e]; exact hQ _ _ _ ⟨σ', φ', G', M', hR', h'⟩
        · rename_i e; rw [if_neg e]; exact hQ _ _ _ ⟨σ', φ', G', M', hR', h'⟩
      | ret => exact hQ _ _ _ hp
      | _ => exact hp.elim
    · cases hc
  | scope x ih =>
    intro c Q σ a w φ G M QQ hc h hR hQ; obtain ⟨c, σ, hn, he, hE, h⟩ := strip h; rw [← he] at hc; obtain ⟨φ, G, M, hR⟩ := hE P X a w φ G M hR; clear he hE
    simp only [compC] at hc
    refine wp_scope_straight (ih hc h hR fun e a w hp => ?_)
    cases e with
    | goto l => exact hp.elim
    | _ => exact hQ _ _ _ hp
  | loop x ih =>
    intro c Q σ a w φ G M QQ hc h hR hQ; obtain ⟨c, σ, hn, he, hE, h⟩ := strip h; rw [← he] at hc; obtain ⟨φ, G, M, hR⟩ := hE P X a w φ G M hR; clear he hE
    simp only [compC] at hc
    split at hc
    · rename_i cx hx
      obtain ⟨c1, rfl, rfl⟩ := erase_loop hn hc
      simp only [vc] at h
      obtain ⟨I, ⟨n0, σ0, hE, hI⟩, hstep⟩ := h
      refine wp_loop_ghost (fun n a w => ∃ σ φ G M, Rel P X σ a w φ G M ∧ I n σ) n0 ?_ ?_
      · obtain ⟨φ', G', M', hR'⟩ := hE P X a w φ G M hR
        exact ⟨σ0, φ', G', M', hR', hI⟩
      · rintro n a w ⟨σ, φ, G, M, hR, hI⟩
        refine ih hx (hstep n σ hI) hR fun e a w hp => ?_
        cases e with
        | normal =>
          obtain ⟨σ', φ', G', M', hR', n', σ'', hlt, hE', hI'⟩ := hp
          obtain ⟨φ'', G'', M'', hR''⟩ := hE' P X a w φ' G' M' hR'
          exact ⟨n', hlt, σ'', φ'', G'', M'', hR'', hI'⟩
        | exit id => exact hQ _ _ _ hp
        | ret => exact hQ _ _ _ hp
        | _ => exact hp.elim
    · cases hc
  | _ => intro c Q σ a w φ G M QQ hc h hR hQ; simp [compC] at hc
end
end Go.AM

set_option linter.unusedSimpArgs false
set_option linter.constructorNameAsVariable false
namespace Go.AM
open Go.RowKit
section
variable {P : Program} {TT : TyTab} {N : Nat} {rowAt : List Nat} {X : Ctx} {σ : St} {a : Act} {w : World} {φ : Nat → Loc} {G M : Nat → Prop}

/-- Where a result stands. -/
inductive RO where
  | t (n : Nat)
  | c (n size : Nat)

def compRes (P : Program) : List ResultVar → Option (List RO)
  | [] => some []
  | .tmp n :: rs => match compRes P rs with
    | some r => some (.t n :: r)
    | none => none
  | .cell n t :: rs => match compRes P rs with
    | some r => if isAggB P t then some (.c n (P.cellsOf t) :: r) else none
    | none => none

def readO (σ : St) : RO → Option AV
  | .t n => some (eget σ.env n)
  | .c n size => match eget σ.env n with
    | .ptr k 0 => match hget σ.heap k with
      | some (.box cs) => match cut cs 0 size with
        | some r => some (.agg r)
        | none => none
      | _ => none
    | _ => none
def readAll (σ : St) : List RO → Option (List AV)
  | [] => some []
  | r :: rs => match readO σ r with
    | some v => match readAll σ rs with
      | some vs => some (v :: vs)
      | none => none
    | none => none

def rdRes (tmps : Array Value) : ResultVar → Sem Value
  | .tmp t => pure (tmps.getD t undef)
  | .cell a t => do loadVar t (← asAddr (tmps.getD a undef))

theorem results_eq (fn : Func) (tmps : Array Value) : results fn tmps = (do
    let vs ← fn.results.mapM (rdRes tmps)
    pure (if h : vs.size = 1 then vs[0] else .tuple vs)) := by
  unfold results
  congr 1

theorem loadVar_sound (hR : Rel P X σ a w φ G M) {t : TypeId} {n k : Nat} {cs r : List AV} (hag : isAggB P t = true) (he : eget σ.env n = .ptr k 0) (hk : hget σ.heap k = some (.box cs)) (hc : cut cs 0 (P.cellsOf t) = some r) :
    ∃ u, (rdRes a.tmps (.cell n t)).run P w = .ok u w ∧ RA P φ G M w σ.heap (.agg r) u := by
  have hp := hR.env n
  rw [he] at hp
  simp only [RA] at hp
  have hob := hR.heap.obj k _ hk
  simp only [RObj] at hob
  obtain ⟨c, ty, hblk, hm, hcs⟩ := hob
  obtain ⟨h1, h2⟩ := cut_sound hcs hc
  have hlen : ((c.toList.drop 0).take (P.cellsOf t)).length = P.cellsOf t := by simp at h2 ⊢; omega
  let o : Oper := { (default : Oper) with op := .load t (.tmp n) }
  obtain ⟨u, hrun, hra⟩ := load_sound (P := P) (w := w) (a := a) (o := o) (φ := φ) (G := G) (M := M) (H := σ.heap) (v := .agg r) (agg := true) rfl (hp.1) (.inl ⟨hag, rfl, rfl⟩) h1 hlen (fun j u hu => by
    have hj : j < P.cellsOf t := by have := (List.getElem?_eq_some_iff.1 hu).1; omega
    rw [List.getElem?_take_of_lt hj, List.getElem?_drop] at hu
    simp only [World.cell?, hblk, Option.isSome_none, Bool.false_eq_true, if_false]
    rw [← Array.getElem?_toList]; exact hu) rfl
  refine ⟨u, ?_, hra⟩
  have hx : a.tmps.getD n undef = .pointer (some ⟨(φ k).blk, 0, none⟩) := hp.1
  have hx2 : a.eval (.tmp n) = .pointer (some ⟨(φ k).blk, 0, none⟩) := hp.1
  simp only [o, execOp, Instr.loadAt, Instr.sureAddr, hx2, Sem.run_bind, Sem.run_pure, Result.andThen_ok] at hrun
  simp only [rdRes, hx, asAddr, Sem.run_bind, Sem.run_pure, Result.andThen_ok]
  cases hl : (loadVar t ⟨(φ k).blk, 0, none⟩).run P w with
  | ok v w' => rw [hl] at hrun; simp only [Result.andThen_ok, Sem.run_pure] at hrun; cases hrun; rfl
  | halt x w' => rw [hl] at hrun; simp [Result.andThen] at hrun

theorem readAll_sound (hR : Rel P X σ a w φ G M) : ∀ {rs : List ResultVar} {ros : List RO} {vs : List AV}, compRes P rs = some ros → readAll σ ros = some vs → ∃ us, (rs.mapM (rdRes a.tmps)).run P w = .ok us w ∧ RAL P φ G M w σ.heap vs us := by
  intro rs
  induction rs with
  | nil =>
    intro ros vs hc h
    cases hc
    cases h
    exact ⟨[], by simp, by simp only [RAL]⟩
  | cons r rs ih =>
    intro ros vs hc h
    have key : ∀ {x : RO} {xs : List RO} {vs : List AV}, compRes P rs = some xs → readAll σ (x :: xs) = some vs → (∀ v, readO σ x = some v → ∃ u, (rdRes a.tmps r).run P w = .ok u w ∧ RA P φ G M w σ.heap v u) →
        ∃ us, ((r :: rs).mapM (rdRes a.tmps)).run P w = .ok us w ∧ RAL P φ G M w σ.heap vs us := by
      intro x xs vs hcx h hx
      simp only [readAll] at h
      split at h
      · rename_i v hv
        split at h
        · rename_i vs' hvs
          cases h
          obtain ⟨u, hu, hra⟩ := hx v hv
          obtain ⟨us, hus, hral⟩ := ih hcx hvs
          refine ⟨u :: us, ?_, by simp only [RAL]; exact ⟨u, us, rfl, hra, hral⟩⟩
          simp only [List.mapM_cons, Sem.run_bind, hu, hus, Result.andThen_ok, Sem.run_pure]
        · cases h
      · cases h
    cases r with
    | tmp n =>
      simp only [compRes] at hc
      split at hc
      · rename_i xs hxs
        cases hc
        refine key hxs h fun v hv => ?_
        simp only [readO] at hv
        cases hv
        exact ⟨_, by simp only [rdRes, Sem.run_pure], hR.env n⟩
      · cases hc
    | cell n t =>
      simp only [compRes] at hc
      split at hc
      · rename_i xs hxs
        split at hc
        · rename_i hag
          cases hc
          refine key hxs h fun v hv => ?_
          simp only [readO] at hv
          split at hv
          · rename_i k he
            split at hv
            · rename_i cs hk
              split at hv
              · rename_i r hcut
                cases hv
                exact loadVar_sound hR hag he hk hcut
              · cases hv
            · cases hv
          · cases hv
        · cases hc
      · cases hc

/-- A list that leaves the function with its place. -/
def ownOf (H : Heap) (t : Ty) : AV → Option (List (den t) × Option Nat)
  | .own k 0 n => match hget H k with
    | some (.row t' xs false) => match castL? t' t (xs.take n) with
      | some ys => some (ys, some k)
      | none => none
    | _ => none
  | .sl t' [] true => if t' = t then some ([], none) else none
  | _ => none

/-- Do these values answer so? os: the rows that leave; fs: the rows that are frozen. -/
def resP (H : Heap) : (r : Ty) → den r → List AV → List Nat → List Nat → Prop
  | .pair (.olist t) b, y, v :: vs, os, fs => match ownOf H t v with
    | some (xs, some k) => xs = y.1 ∧ k ∉ os ∧ k ∉ fs ∧ resP H b y.2 vs (k :: os) fs
    | some (xs, none) => xs = y.1 ∧ resP H b y.2 vs os fs
    | none => False
  | .pair t b, y, v :: vs, os, fs => match toV H t v with
    | some x => x = y.1 ∧ noRef t = true ∧ (∀ k ∈ keysV H v, k ∉ os) ∧ resP H b y.2 vs os (keysV H v ++ fs)
    | none => False
  | .unit, _, [], _, _ => True
  | _, _, _, _, _ => False

def frzK (H : Heap) : (r : Ty) → List AV → List Nat
  | .pair (.olist _) b, _ :: vs => frzK H b vs
  | .pair _ b, v :: vs => keysV H v ++ frzK H b vs
  | _, _ => []

theorem resP_os {H : Heap} {r : Ty} : ∀ {y : den r} {vs : List AV} {os fs : List Nat}, resP H r y vs os fs → ∀ k ∈ os, k ∉ frzK H r vs := by
  induction r with
  | pair t b _ ih =>
    intro y vs os fs h k hk
    cases vs with
    | nil => cases t <;> simp [resP] at h
    | cons v vs =>
      have ne : (∀ s, t ≠ .olist s) → k ∉ frzK H (.pair t b) (v :: vs) := by
        intro hne
        have h' : match toV H t v with
          | some x => x = y.1 ∧ noRef t = true ∧ (∀ k ∈ keysV H v, k ∉ os) ∧ resP H b y.2 vs os (keysV H v ++ fs)
          | none => False := by
          cases t <;> first | exact h | exact absurd rfl (hne _)
        have e : frzK H (.pair t b) (v :: vs) = keysV H v ++ frzK H b vs := by
          cases t <;> first | rfl | exact absurd rfl (hne _)
        rw [e, List.mem_append, not_or]
        split at h'
        · exact ⟨fun hv => h'.2.2.1 k hv hk, ih h'.2.2.2 k hk⟩
        · exact h'.elim
      cases t with
      | olist s =>
        simp only [resP] at h
        simp only [frzK]
        split at h
        · exact ih h.2.2.2 k (List.mem_cons_of_mem _ hk)
        · exact ih h.2 k hk
        · exact h.elim
      | _ => exact ne (by intro s; simp)
  | _ => intro y vs os fs h k hk; simp [frzK]

theorem RowAt.take {t : Ty} {xs : List (den t)} {L : Loc} (h : RowAt P t G w xs L) (n : Nat) : RowAt P t G w (xs.take n) L := by
  obtain ⟨h1, h2, h3⟩ := h
  refine ⟨h1, h2, ?_⟩
  rcases h3 with ⟨hc, rfl⟩ | ⟨c, e, a1, a2, a3, a4, a5, a6⟩
  · exact .inl ⟨hc, by simp⟩
  · refine .inr ⟨c, e, a1, a2, a3, a4, by simp; omega, fun i hi => ?_⟩
    have hi' : i < xs.length := by simp at hi; omega
    have := a6 i hi'
    simpa using this

theorem resP_sound (hR : Rel P X σ a w φ G M) {H0 : Heap} (hs : HS H0 σ.heap) {ks : List Nat} (ho : ∀ k, k ∉ ks → hget σ.heap k = hget H0 k) (hf : Frozen σ.heap ks) {r : Ty} :
    ∀ {y : den r} {vs : List AV} {us : List Value} {os fs : List Nat}, resP H0 r y vs os fs → RAL P φ G M w σ.heap vs us → (∀ k, k ∈ ks → k ∈ fs ∨ k ∈ frzK H0 r vs) → (∀ k ∈ frzK H0 r vs, k ∈ ks) →
      ∃ Ls, ROs P r G w y us Ls ∧ (∀ L ∈ Ls, 0 < L.cap → ∃ k t xs, k ∉ os ∧ hget σ.heap k = some (.row t xs false) ∧ φ k = L) ∧ Ls.Pairwise fun a b => 0 < a.cap → 0 < b.cap → a.blk ≠ b.blk := by
  induction r with
  | unit =>
    intro y vs us os fs h hv _ _
    cases vs with
    | nil => simp only [RAL] at hv; subst hv; exact ⟨[], by simp [ROs], by simp, .nil⟩
    | cons v vs => simp [resP] at h
  | pair t b _ ih =>
    intro y vs us os fs h hv hk1 hk2
    cases vs with
    | nil => cases t <;> simp [resP] at h
    | cons v vs =>
      simp only [RAL] at hv
      obtain ⟨u, us', rfl, hu, hus⟩ := hv
      have ne : (∀ s, t ≠ .olist s) → ∃ Ls, ROs P (.pair t b) G w y (u :: us') Ls ∧ (∀ L ∈ Ls, 0 < L.cap → ∃ k t xs, k ∉ os ∧ hget σ.heap k = some (.row t xs false) ∧ φ k = L) ∧ Ls.Pairwise fun a b => 0 < a.cap → 0 < b.cap → a.blk ≠ b.blk := by
        intro hne
        have h' : match toV H0 t v with
          | some x => x = y.1 ∧ noRef t = true ∧ (∀ k ∈ keysV H0 v, k ∉ os) ∧ resP H0 b y.2 vs os (keysV H0 v ++ fs)
          | none => False := by
          cases t <;> first | exact h | exact absurd rfl (hne _)
        have e : frzK H0 (.pair t b) (v :: vs) = keysV H0 v ++ frzK H0 b vs := by
          cases t <;> first | rfl | exact absurd rfl (hne _)
        rw [e] at hk1 hk2
        split at h'
        · rename_i x hx
          obtain ⟨rfl, hnr, _, hb⟩ := h'
          obtain ⟨Ls, h1, h2, h3⟩ := ih hb hus (fun k hk => by
            rcases hk1 k hk with h | h
            · exact .inl (List.mem_append_right _ h)
            · rcases List.mem_append.1 h with h | h
              · exact .inl (List.mem_append_left _ h)
              · exact .inr h) (fun k hk => hk2 k (List.mem_append_right _ hk))
          have hrv : RV P t G w y.1 u := toV_sound hR.heap (fun _ h => h) (.inr ⟨hnr, hf.sub fun k hk => hk2 k (List.mem_append_left _ (keysV_sub H0 v k hk))⟩) hu (by rw [toV_same hs]; exact hx)
          refine ⟨Ls, ?_, h2, h3⟩
          simp only [ROs]
          refine ⟨u, us', [], Ls, rfl, rfl, ?_, h1⟩
          cases t <;> first | exact ⟨rfl, hrv⟩ | exact absurd rfl (hne _)
        · exact h'.elim
      cases t with
      | olist s =>
        simp only [resP] at h
        simp only [frzK] at hk1 hk2
        cases hown : ownOf H0 s v with
        | none => rw [hown] at h; exact h.elim
        | some p =>
          obtain ⟨xs, ko⟩ := p
          cases ko with
          | none =>
            rw [hown] at h
            simp only at h
            obtain ⟨rfl, hb⟩ := h
            obtain ⟨Ls, h1, h2, h3⟩ := ih hb hus hk1 hk2
            refine ⟨⟨0, 0, 0⟩ :: Ls, ?_, ?_, ?_⟩
            · simp only [ROs]
              refine ⟨u, us', [⟨0, 0, 0⟩], Ls, rfl, rfl, ?_, h1⟩
              unfold ownOf at hown
              split at hown
              · split at hown
                · split at hown <;> simp at hown
                · cases hown
              · split at hown
                · rename_i e
                  subst e
                  simp only [Option.some.injEq, Prod.mk.injEq, and_true] at hown
                  rw [← hown]
                  simp only [RA] at hu
                  obtain ⟨p1, p2, _, p4⟩ := hu
                  obtain ⟨A, rfl⟩ := p4 trivial
                  simp only [RVL]
                  exact ⟨⟨0, 0, 0⟩, rfl, ⟨A, by simp, by simp, .inl rfl⟩, p1, p2, .inl ⟨rfl, rfl⟩⟩
                · cases hown
              · cases hown
            · intro L hL hc
              rcases List.mem_cons.1 hL with rfl | hL
              · exact absurd hc (by simp)
              · exact h2 L hL hc
            · exact List.Pairwise.cons (fun L _ hc => absurd hc (by simp)) h3
          | some k =>
            rw [hown] at h
            simp only at h
            obtain ⟨rfl, hko, hkf, hb⟩ := h
            obtain ⟨Ls, h1, h2, h3⟩ := ih hb hus hk1 hk2
            have hks : k ∉ ks := fun hk => by
              rcases hk1 k hk with h | h
              · exact hkf h
              · exact resP_os hb k (List.mem_cons_self ..) h
            have hhk := ho k hks
            unfold ownOf at hown
            split at hown
            · rename_i k' n
              split at hown
              · rename_i t' xs' hkk
                split at hown
                · rename_i ys hys
                  simp only [Option.some.injEq, Prod.mk.injEq] at hown
                  obtain ⟨rfl, rfl⟩ := hown
                  obtain ⟨e, hye⟩ := castL?_eq hys
                  subst e
                  simp only at hye
                  rw [hkk] at hhk
                  simp only [RA, hhk] at hu
                  have hob := hR.heap.obj k' _ hhk
                  simp only [RObj] at hob
                  refine ⟨φ k' :: Ls, ?_, ?_, ?_⟩
                  · simp only [ROs]
                    refine ⟨u, us', [φ k'], Ls, rfl, rfl, ?_, h1⟩
                    simp only [RVL]
                    refine ⟨φ k', rfl, ?_, by rw [← hye]; exact hob.1.take n⟩
                    rw [← hye]
                    have hl : (xs'.take n).length = n := by simp; omega
                    rw [hl]
                    exact hu.2
                  · intro L hL hc
                    rcases List.mem_cons.1 hL with rfl | hL
                    · exact ⟨k', t', xs', hko, hhk, rfl⟩
                    · obtain ⟨k2, t2, xs2, e1, e2, e3⟩ := h2 L hL hc
                      exact ⟨k2, t2, xs2, fun hm => e1 (List.mem_cons_of_mem _ hm), e2, e3⟩
                  · refine List.Pairwise.cons (fun L hL hc hc' => ?_) h3
                    obtain ⟨k2, t2, xs2, e1, e2, e3⟩ := h2 L hL hc'
                    have hne : k' ≠ k2 := fun e => e1 (by rw [e]; exact List.mem_cons_self ..)
                    rw [← e3]
                    exact hR.heap.inj _ _ _ _ hhk e2 hne (by simpa [alloc] using hc) (by rw [← e3] at hc'; simpa [alloc] using hc')
                · cases hown
              · cases hown
            · split at hown <;> simp at hown
            · cases hown
      | _ => exact ne (by intro s; simp)
  | _ => intro y vs us os fs h; cases vs <;> simp [resP] at h

def initEnv : Nat → List AV → Env
  | _, [] => []
  | i, v :: vs => (i, v) :: initEnv (i + 1) vs

/-- What a function's end must show. -/
def RQ (ros : List RO) (r : Ty) (y : den r) (e : Ex) (σ : St) : Prop :=
  match e with
  | .exit _ => False
  | _ => match readAll σ ros with
    | some vs => resP σ.heap r y vs [] []
    | none => False

/-- Arguments that the machine knows. -/
def okArgs : Ty → Bool
  | .pair (.fn _ _) b => okArgs b
  | .pair t b => plain t && okArgs b
  | .unit => true
  | _ => false

theorem initEnv_sound {H : Heap} : ∀ {vs : List AV} {us : List Value} {i t : Nat}, RAL P φ G M w H vs us → (i ≤ t → RA P φ G M w H (eget (initEnv i vs) t) (us.getD (t - i) undef)) ∧ (t < i → eget (initEnv i vs) t = .undef) := by
  intro vs
  induction vs with
  | nil => intro us i t h; exact ⟨fun _ => by simp only [initEnv, eget, RA], fun _ => rfl⟩
  | cons v vs ih =>
    intro us i t h
    simp only [RAL] at h
    obtain ⟨u, us', rfl, hu, hus⟩ := h
    simp only [initEnv, eget]
    refine ⟨fun hle => ?_, fun hlt => ?_⟩
    · by_cases e : i = t
      · subst e; simpa using hu
      · rw [if_neg e]
        have := (ih (i := i + 1) (t := t) hus).1 (by omega)
        have e2 : t - i = (t - (i + 1)) + 1 := by omega
        rw [e2]; simpa using this
    · rw [if_neg (by omega)]
      exact (ih (i := i + 1) (t := t) hus).2 (by omega)

theorem ofArgs_sound {H : Heap} {ty : Ty} : ∀ {x : den ty} {us : List Value}, okArgs ty = true → (∀ b, ¬ M b) → RArgs P ty G w x us → RAL P φ G M w H (ofArgs ty x) us := by
  induction ty with
  | unit => intro x us _ _ h; simp only [RArgs] at h; subst h; simp only [ofArgs, RAL]
  | pair t b _ ih =>
    intro x us ho hM h
    simp only [RArgs] at h
    obtain ⟨v, vs', rfl, h1, h2⟩ := h
    simp only [ofArgs, RAL]
    have hb : okArgs b = true := by
      cases t <;> simp only [okArgs, Bool.and_eq_true] at ho <;> first | exact ho.2 | exact ho
    refine ⟨v, vs', rfl, ?_, ih hb hM h2⟩
    have ne : plain t = true → RA P φ G M w H (ofV t x.1) v := fun hp => RV.ra hp h1
    cases t with
    | fn a' r' =>
      simp only [isSt, Bool.false_eq_true, if_false, RT] at h1
      obtain ⟨f, caps, wd, e, e1, e2, e3, e4⟩ := h1
      simp only [List.cons.injEq, and_true] at e
      simp only [ofV, RA]
      exact ⟨f, caps, wd, e, e1, e2, e3, fun b _ => hM b, e4⟩
    | _ => simp only [okArgs, Bool.and_eq_true] at ho; exact ne ho.1
  | _ => intro x us ho; simp [okArgs] at ho

theorem readAll_frz {σ : St} (ks : List Nat) : ∀ {ros : List RO}, readAll ⟨σ.env, frzH σ.heap ks⟩ ros = readAll σ ros := by
  have key : ∀ k cs, hget (frzH σ.heap ks) k = some (.box cs) ↔ hget σ.heap k = some (.box cs) := by
    intro k cs
    have := HS.frz ks σ.heap k
    cases h1 : hget σ.heap k with
    | none =>
      cases h2 : hget (frzH σ.heap ks) k with
      | none => simp
      | some o => rw [h1, h2] at this; simp [oSame] at this
    | some o =>
      cases o with
      | box cs1 =>
        cases h2 : hget (frzH σ.heap ks) k with
        | none => rw [h1, h2] at this; simp [oSame] at this
        | some o2 =>
          cases o2 with
          | box cs2 => rw [h1, h2] at this; simp only [oSame] at this; rw [this]
          | row t xs f => rw [h1, h2] at this; simp [oSame] at this
      | row t xs f =>
        rw [h1] at this
        simp only [oSame] at this
        obtain ⟨f', e⟩ := this
        rw [e]; simp
  intro ros
  induction ros with
  | nil => rfl
  | cons r ros ih =>
    have e : readO ⟨σ.env, frzH σ.heap ks⟩ r = readO σ r := by
      cases r with
      | t n => rfl
      | c n size =>
        simp only [readO]
        cases eget σ.env n with
        | ptr k off =>
          cases off with
          | zero =>
            simp only
            cases hb : hget σ.heap k with
            | none =>
              cases hb' : hget (frzH σ.heap ks) k with
              | none => rfl
              | some o =>
                cases o with
                | box cs => rw [(key k cs).1 hb'] at hb; cases hb
                | row t xs f => rfl
            | some o =>
              cases o with
              | box cs => rw [(key k cs).2 hb]
              | row t xs f =>
                cases hb' : hget (frzH σ.heap ks) k with
                | none => rfl
                | some o =>
                  cases o with
                  | box cs => rw [(key k cs).1 hb'] at hb; cases hb
                  | row t xs f => rfl
          | succ n => rfl
        | _ => rfl
    simp only [readAll, e, ih]

theorem resP_len {H : Heap} {r : Ty} : ∀ {y : den r} {vs : List AV} {os fs : List Nat}, resP H r y vs os fs → ∀ {us : List Value}, us.length = vs.length → (r = .unit ∧ us = []) ∨ ∃ t b, r = .pair t b ∧ ((b = .unit ∧ ∃ u, us = [u]) ∨ (b ≠ .unit ∧ 2 ≤ us.length)) := by
  intro y vs os fs h us hl
  cases r with
  | unit => cases vs with
    | nil => exact .inl ⟨rfl, List.eq_nil_of_length_eq_zero hl⟩
    | cons v vs => simp [resP] at h
  | pair t b =>
    refine .inr ⟨t, b, rfl, ?_⟩
    cases vs with
    | nil => cases t <;> simp [resP] at h
    | cons v vs =>
      have hb : ∃ os' fs', resP H b y.2 vs os' fs' := by
        cases t with
        | olist s =>
          simp only [resP] at h
          split at h
          · exact ⟨_, _, h.2.2.2⟩
          · exact ⟨_, _, h.2⟩
          · exact h.elim
        | _ =>
          simp only [resP] at h
          split at h
          · exact ⟨_, _, h.2.2.2⟩
          · exact h.elim
      obtain ⟨os', fs', hb⟩ := hb
      cases b with
      | unit =>
        cases vs with
        | nil => simp only [List.length_cons, List.length_nil] at hl; exact .inl ⟨rfl, List.length_eq_one_iff.1 (by omega)⟩
        | cons v' vs => simp [resP] at hb
      | pair t' b' =>
        refine .inr ⟨by simp, ?_⟩
        cases vs with
        | nil => cases t' <;> simp [resP] at hb
        | cons v' vs => simp only [List.length_cons] at hl; omega
      | _ => cases vs <;> simp [resP] at hb
  | _ => cases vs <;> simp [resP] at h

/-- What a function's code is to do from a state on. -/
def Snd (P : Program) (Q : Ex → St → Prop) (code : Code) (N : Nat) (σ : St) : Prop := ∀ (X : Ctx) (a : Act) (w : World) (φ : Nat → Loc) (G M : Nat → Prop) (QQ : Exit → Act → World → Prop), N ≤ X.N → Rel P X σ a w φ G M → (∀ e a w, Post P X Q e a w → QQ e a w) → code.wp P QQ a w
theorem Holds.of_snd {f : Nat} {fd : Func} {code : Code} {ros : List RO} {fn : Fn} (hf : P.funcs[f]? = some fd) (hname : fd.name ≠ "runtime.NumGoroutine") (hb : fd.body = some code)
    (hro : compRes P fd.results.toList = some ros) (hres : okRes fn.r = true) (hargs : okArgs fn.a = true) (htot : fn.tot = true → ∀ x, fn.pre x)
    (h : ∀ x, fn.pre x → Snd P (RQ ros fn.r (fn.f x)) code fd.ntmps ⟨initEnv 0 (ofArgs fn.a x), []⟩) : Holds P f fn where
  tot := htot
  res := hres
  code := ⟨fd, hf, hname, by rw [hb]; rfl⟩
  calls := by
    intro w G x args hpre hG ha
    refine calls_of_wp hf hb ?_
    have hi := ofArgs_sound (φ := fun _ => ⟨0, 0, 0⟩) (M := fun _ => False) (H := []) hargs (fun _ h => h) ha
    let X : Ctx := { w0 := w, G0 := G, RB := fun _ => False, N := fd.ntmps }
    have hR : Rel P X ⟨initEnv 0 (ofArgs fn.a x), []⟩ { tmps := args.toArray ++ Array.replicate (fd.ntmps - args.toArray.size) undef, defers := [] } w (fun _ => ⟨0, 0, 0⟩) G (fun _ => False) := by
      refine ⟨fun t => ?_, ⟨fun k o hk => by simp [hget] at hk, fun k k' o o' hk => by simp [hget] at hk, hG, fun _ h => h.elim, fun _ _ h => h⟩, ?_, rfl, fun _ _ _ => rfl, Nat.le_refl _, rfl, rfl, rfl, fun b hb _ => .inl hb, fun _ h => h.elim⟩
      · have h1 := (initEnv_sound (i := 0) (t := t) hi).1 (Nat.zero_le _)
        have e : (args.toArray ++ Array.replicate (fd.ntmps - args.toArray.size) undef).getD t undef = args.getD t undef := by
          rw [Array.getD_eq_getD_getElem?, List.getD_eq_getElem?_getD, Array.getElem?_append]
          split
          · simp
          · rename_i hlt
            simp only [List.size_toArray, Nat.not_lt] at hlt
            rw [List.getElem?_eq_none (by omega)]
            rw [Array.getElem?_replicate]
            split <;> rfl
        show RA P _ _ _ _ _ _ ((args.toArray ++ Array.replicate (fd.ntmps - args.toArray.size) undef).getD t undef)
        rw [e]
        simpa using h1
      · show fd.ntmps ≤ _
        simp; omega
    refine h x hpre X _ _ _ _ _ _ (Nat.le_refl _) hR fun e a w' hp => ?_
    have fin : (∃ σ φ G' M', Rel P X σ a w' φ G' M' ∧ RQ ros fn.r (fn.f x) .norm σ) → a.defers = [] ∧ ∃ v, (results fd a.tmps).run P w' = .ok v w' ∧ ∃ u G' Ls, Ending.returned v = .returned u ∧ Below w.heap.size w w' ∧ (∀ b, G' b → b < w'.heap.size ∧ (b < w.heap.size → G b)) ∧
        ResV P fn.r G' w' (fn.f x) u Ls ∧ OwnLs w w' G' Ls := by
      rintro ⟨σ, φ, G1, M1, hR1, hq⟩
      refine ⟨hR1.def_, ?_⟩
      simp only [RQ] at hq
      split at hq
      · rename_i vs hvs
        obtain ⟨G2, M2, _, hR2⟩ := Rel.frz (frzK σ.heap fn.r vs) hR1
        obtain ⟨us, hrun, hral⟩ := readAll_sound hR2 hro (by rw [readAll_frz]; exact hvs)
        obtain ⟨Ls, hros, hown, hpw⟩ := resP_sound hR2 (HS.frz _ _) (fun k hk => frzH_other hk) (frzH_frozen _ _) hq hral (fun k hk => .inr hk) (fun k hk => hk)
        have hlen := resP_len hq (us := us) hral.len
        have hrun2 : (results fd a.tmps).run P w' = .ok (if h : us.toArray.size = 1 then us.toArray[0] else .tuple us.toArray) w' := by
          rw [results_eq]
          rw [Array.mapM_eq_mapM_toList]
          simp [Sem.run_bind, hrun]
        refine ⟨_, hrun2, _, G2, Ls, rfl, ?_, ?_, ?_, ?_⟩
        · exact ⟨hR2.os, hR2.tape, hR2.output, hR2.size, fun b hb => hR2.old b hb (fun h => h)⟩
        · exact fun b hb => ⟨hR2.heap.bnd b hb, fun hlt => (hR2.g0 b hb hlt).resolve_right (fun h => h)⟩
        · generalize fn.f x = y at hros ⊢
          generalize fn.r = r at y hros hlen ⊢
          rcases hlen with ⟨rfl, rfl⟩ | ⟨t, b, rfl, ⟨rfl, u, rfl⟩ | ⟨hbn, h2⟩⟩
          · exact ⟨#[], by simp, by simpa using hros⟩
          · simp only [ROs] at hros
            obtain ⟨v, vs', L1, L2, e, rfl, h1, e2, rfl⟩ := hros
            subst e2
            simp only [List.cons.injEq, and_true] at e
            subst e
            simpa [ResV] using h1
          · have hs : ¬ us.toArray.size = 1 := by simp; omega
            rw [dif_neg hs]
            cases b with
            | unit => exact absurd rfl hbn
            | _ => exact ⟨us.toArray, rfl, by simpa using hros⟩
        · refine ⟨fun L hL hc => ?_, hpw⟩
          obtain ⟨k, t, xs, _, hk, rfl⟩ := hown L hL hc
          have hob := hR2.heap.obj k _ hk
          simp only [RObj] at hob
          have hMk := (hob.2 hc).2 trivial
          exact ⟨Nat.le_of_not_lt fun hlt => hR2.mt _ hMk hlt, hR2.heap.mnd _ hMk, fun hg => hR2.heap.sep _ hg hMk⟩
      · exact hq.elim
    cases e with
    | normal => exact fin hp
    | ret => exact fin hp
    | exit id => obtain ⟨σ, φ, G', M', _, hq⟩ := hp; exact hq.elim
    | _ => exact hp.elim
theorem Holds.of_vc {T : Tab} (hT : TabOK P T) (hm : P.follows .mixedOrders = true) {f : Nat} {fd : Func} {code : Code} {c : C} {ros : List RO} {fn : Fn} (hf : P.funcs[f]? = some fd) (hname : fd.name ≠ "runtime.NumGoroutine") (hb : fd.body = some code)
    (hc : compC P TT fd.ntmps rowAt code = some c) (hro : compRes P fd.results.toList = some ros) (hres : okRes fn.r = true) (hargs : okArgs fn.a = true) (htot : fn.tot = true → ∀ x, fn.pre x)
    (h : ∀ x, fn.pre x → vc T c (RQ ros fn.r (fn.f x)) ⟨initEnv 0 (ofArgs fn.a x), []⟩) : Holds P f fn :=
  .of_snd hf hname hb hro hres hargs htot fun x hx X a w φ G M QQ hN hR hQ => vc_sound hT hm hN hc (h x hx) hR hQ
/-- The same with marks in the code. -/
theorem Holds.of_vcc {T : Tab} (hT : TabOK P T) (hm : P.follows .mixedOrders = true) {f : Nat} {fd : Func} {code : Code} {c : C} {ros : List RO} {fn : Fn} (hf : P.funcs[f]? = some fd) (hname : fd.name ≠ "runtime.NumGoroutine") (hb : fd.body = some code)
    (hc : compC P TT fd.ntmps rowAt code = some (erase c)) (hro : compRes P fd.results.toList = some ros) (hres : okRes fn.r = true) (hargs : okArgs fn.a = true) (htot : fn.tot = true → ∀ x, fn.pre x)
    (h : ∀ x, fn.pre x → vc T c (RQ ros fn.r (fn.f x)) ⟨initEnv 0 (ofArgs fn.a x), []⟩) : Holds P f fn :=
  .of_snd hf hname hb hro hres hargs htot fun x hx X a w φ G M QQ hN hR hQ => vc_sound2 hT hm hN hc (h x hx) hR hQ
end
end Go.AM

set_option linter.unusedSimpArgs false
set_option linter.constructorNameAsVariable false
namespace Go.AM

def mget : List (Nat × Nat) → Nat → Option Nat
  | [], _ => none
  | (k, k0) :: m, j => if k = j then some k0 else mget m j

mutual
/-- The new value (second) says no more than the old one. m: where the new keys come from. -/
def VM (m : List (Nat × Nat)) (H H' : Heap) : AV → AV → Prop
  | _, .undef => True
  | .nilf, .nilf => True
  | .int k n, .int k' n' => k' = k ∧ n' = n
  | .bool b, .bool b' => b' = b
  | .str s, .str s' => s' = s
  | .sl t xs f, .sl t' xs' f' => castL? t t' xs = some xs' ∧ (f' = true → f = true)
  | .sl t xs true, .own k lo n => xs = [] ∧ lo = 0 ∧ n = 0 ∧ mget m k = none ∧ (match hget H' k with | some (.row _ _ _) => True | _ => False)
  | .own k0 lo0 n0, .sl t xs f => f = false ∧ plain t = true ∧ match hget H k0 with
    | some (.row t0 ys true) => castL? t0 t ((ys.drop lo0).take n0) = some xs
    | _ => False
  | .own k0 lo0 n0, .own k lo n => mget m k = some k0 ∧ lo = lo0 ∧ n = n0 ∧ (hget H' k).isSome = true
  | .ptr k0 off0, .ptr k off => mget m k = some k0 ∧ off = off0 ∧ (hget H' k).isSome = true
  | .rptr k0 i0 off0, .rptr k i off => mget m k = some k0 ∧ i = i0 ∧ off = off0 ∧ (hget H' k).isSome = true
  | .el t x off, .el t' x' off' => cast? t t' x = some x' ∧ off' = off
  | .agg cs, .agg cs' => VML m H H' cs cs'
  | .tup cs, .tup cs' => VML m H H' cs cs'
  | .clo f cs, .clo f' cs' => f' = f ∧ VML m H H' cs cs'
  | .fv a r p, .fv a' r' p' => a' = a ∧ r' = r ∧ HEq p' p
  | .g b v, .g b' v' => b' = b ∧ VM m H H' v v'
  | _, _ => False
def VML (m : List (Nat × Nat)) (H H' : Heap) : List AV → List AV → Prop
  | [], [] => True
  | c :: cs, c' :: cs' => VM m H H' c c' ∧ VML m H H' cs cs'
  | _, _ => False
end

def OM (m : List (Nat × Nat)) (H H' : Heap) (k : Nat) (o : Obj) : Prop :=
  match mget m k with
  | some k0 => match hget H k0, o with
    | some (.box cs), .box cs' => VML m H H' cs cs'
    | some (.row t xs f), .row t' xs' f' => castL? t t' xs = some xs' ∧ f' = f
    | _, _ => False
  | none => match o with
    | .row t xs f => xs = [] ∧ f = false ∧ plain t = true ∧ 0 < AM.size t
    | _ => False
def EntE (m : List (Nat × Nat)) (H H' : Heap) (E : Env) : Env → Prop
  | [] => True
  | (t, v) :: e => VM m H H' (eget E t) v ∧ EntE m H H' E e
def EntH (m : List (Nat × Nat)) (H H' : Heap) : Heap → Prop
  | [] => True
  | (k, o) :: h => OM m H H' k o ∧ EntH m H H' h
def inj2 : List (Nat × Nat) → Bool
  | [] => true
  | (_, k0) :: m => m.all (fun p => p.2 != k0) && inj2 m

variable {P : Program} {X : Ctx} {σ : St} {a : Act} {w : World} {φ : Nat → Loc} {G M : Nat → Prop}

def phi (m : List (Nat × Nat)) (φ : Nat → Loc) (k : Nat) : Loc := match mget m k with
  | some k0 => φ k0
  | none => ⟨0, 0, 0⟩

theorem EntH_get {m : List (Nat × Nat)} {H H' : Heap} : ∀ {h : Heap} {k : Nat} {o : Obj}, EntH m H H' h → hget h k = some o → OM m H H' k o := by
  intro h
  induction h with
  | nil => intro k o _ hk; simp [hget] at hk
  | cons p h ih =>
    intro k o hE hk
    obtain ⟨j, o'⟩ := p
    simp only [hget] at hk
    split at hk
    · rename_i e; cases hk; subst e; exact hE.1
    · exact ih hE.2 hk

mutual
theorem VM_sound {m : List (Nat × Nat)} {H H' : Heap} (hR : RelH P φ G M w H) (hE : ∀ k o, hget H' k = some o → OM m H H' k o) : ∀ (v' v : AV) (u : Value), VM m H H' v v' → RA P φ G M w H v u → RA P (phi m φ) G M w H' v' u
  | .undef, v, u, h, hr => by simp only [RA]
  | .nilf, v, u, h, hr => by
    cases v <;> simp only [VM] at h
    simpa only [RA] using hr
  | .int k' n', v, u, h, hr => by
    cases v <;> simp only [VM] at h
    obtain ⟨rfl, rfl⟩ := h
    simpa only [RA] using hr
  | .bool b', v, u, h, hr => by
    cases v <;> simp only [VM] at h
    subst h
    simpa only [RA] using hr
  | .str s', v, u, h, hr => by
    cases v <;> simp only [VM] at h
    subst h
    simpa only [RA] using hr
  | .sl t' xs' f', v, u, h, hr => by
    cases v with
    | sl t xs f =>
      have h2 : castL? t t' xs = some xs' ∧ (f' = true → f = true) := by cases f <;> simpa only [VM] using h
      obtain ⟨h1, h2⟩ := h2
      obtain ⟨e, he⟩ := castL?_eq h1
      subst e
      simp only at he
      subst he
      simp only [RA] at hr ⊢
      exact ⟨hr.1, hr.2.1, hr.2.2.1, fun hf => hr.2.2.2 (h2 hf)⟩
    | own k0 lo0 n0 =>
      simp only [VM] at h
      obtain ⟨rfl, hp, h⟩ := h
      split at h
      · rename_i t0 ys hk
        obtain ⟨e, he⟩ := castL?_eq h
        subst e
        simp only at he
        have hso : slOf H t0 (.own k0 lo0 n0) = some xs' := by simp only [slOf, hk, castL?_self, he]
        have hz : 0 < AM.size t0 := by
          have := hR.obj k0 _ hk
          simp only [RObj] at this
          exact this.1.2.1
        have hrt := slOf_sound hR (G1 := G) (fun _ h => h) (.inr (fun j hj t1 xs1 f1 hj' => by
          simp only [keys1, List.mem_singleton] at hj
          subst hj
          rw [hk] at hj'
          cases hj'; rfl)) hr hso
        simp only [RA]
        exact ⟨hp, hz, hrt.2.2, fun hf => (by cases hf)⟩
      · exact h.elim
    | _ => simp [VM] at h
  | .own k lo n, v, u, h, hr => by
    cases v with
    | own k0 lo0 n0 =>
      simp only [VM] at h
      obtain ⟨hm, rfl, rfl, hs⟩ := h
      obtain ⟨o, ho⟩ := Option.isSome_iff_exists.1 hs
      have := hE k o ho
      simp only [OM, hm] at this
      simp only [RA] at hr ⊢
      rw [ho]
      cases hk0 : hget H k0 with
      | none => rw [hk0] at hr; exact hr.elim
      | some o0 =>
        rw [hk0] at hr this
        cases o0 with
        | box cs => exact hr.elim
        | row t xs f =>
          cases o with
          | box cs => exact this.elim
          | row t' xs' f' =>
            obtain ⟨e, he⟩ := castL?_eq this.1
            subst e
            simp only at he
            subst he
            simp only at hr ⊢
            have : phi m φ k = φ k0 := by simp only [phi, hm]
            rw [this]; exact hr
    | sl t xs f =>
      cases f with
      | false => simp [VM] at h
      | true =>
        simp only [VM] at h
        obtain ⟨rfl, rfl, rfl, hm, hs⟩ := h
        simp only [RA] at hr ⊢
        split at hs
        · rename_i t' xs' f' ho
          rw [ho]
          obtain ⟨A, hA⟩ := hr.2.2.2 trivial
          simp only [phi, hm, SlV]
          exact ⟨Nat.zero_le _, A, by simpa using hA, by simp, .inl (by simp)⟩
        · exact hs.elim
    | _ => simp [VM] at h
  | .ptr k off, v, u, h, hr => by
    cases v <;> simp only [VM] at h
    rename_i k0 off0
    obtain ⟨hm, rfl, hs⟩ := h
    obtain ⟨o, ho⟩ := Option.isSome_iff_exists.1 hs
    have := hE k o ho
    simp only [OM, hm] at this
    simp only [RA] at hr ⊢
    rw [ho]
    have e : phi m φ k = φ k0 := by simp only [phi, hm]
    rw [e]
    refine ⟨hr.1, ?_⟩
    have h2 := hr.2
    cases hk0 : hget H k0 with
    | none => rw [hk0] at h2; exact h2.elim
    | some o0 =>
      rw [hk0] at h2 this
      cases o0 with
      | row t xs f => exact h2.elim
      | box cs => cases o with
        | box cs' => trivial
        | row t xs f => exact this.elim
  | .rptr k i off, v, u, h, hr => by
    cases v <;> simp only [VM] at h
    rename_i k0 i0 off0
    obtain ⟨hm, rfl, rfl, hs⟩ := h
    obtain ⟨o, ho⟩ := Option.isSome_iff_exists.1 hs
    have := hE k o ho
    simp only [OM, hm] at this
    simp only [RA] at hr ⊢
    rw [ho]
    have e : phi m φ k = φ k0 := by simp only [phi, hm]
    rw [e]
    cases hk0 : hget H k0 with
    | none => rw [hk0] at hr; exact hr.elim
    | some o0 =>
      rw [hk0] at hr this
      cases o0 with
      | box cs => exact hr.elim
      | row t xs f => cases o with
        | box cs' => exact this.elim
        | row t' xs' f' =>
          obtain ⟨e, he⟩ := castL?_eq this.1
          subst e
          simp only at he
          subst he
          exact hr
  | .el t' x' off', v, u, h, hr => by
    cases v <;> simp only [VM] at h
    obtain ⟨h1, rfl⟩ := h
    obtain ⟨e, he⟩ := cast?_eq h1
    subst e
    simp only at he
    subst he
    simpa only [RA] using hr
  | .agg cs', v, u, h, hr => by
    cases v <;> simp only [VM] at h
    simp only [RA] at hr ⊢
    obtain ⟨us, rfl, h2⟩ := hr
    exact ⟨us, rfl, VML_sound hR hE _ _ _ h h2⟩
  | .tup cs', v, u, h, hr => by
    cases v <;> simp only [VM] at h
    simp only [RA] at hr ⊢
    obtain ⟨us, rfl, h2⟩ := hr
    exact ⟨us, rfl, VML_sound hR hE _ _ _ h h2⟩
  | .clo f' cs', v, u, h, hr => by
    cases v <;> simp only [VM] at h
    obtain ⟨rfl, h⟩ := h
    simp only [RA] at hr ⊢
    obtain ⟨us, rfl, h2⟩ := hr
    exact ⟨us, rfl, VML_sound hR hE _ _ _ h h2⟩
  | .fv a' r' p', v, u, h, hr => by
    cases v <;> simp only [VM] at h
    obtain ⟨rfl, rfl, h⟩ := h
    cases h
    simpa only [RA] using hr
  | .g b' v', v, u, h, hr => by
    cases v <;> simp only [VM] at h
    obtain ⟨rfl, h⟩ := h
    simp only [RA] at hr ⊢
    exact ⟨fun hb => VM_sound hR hE _ _ _ h (hr.1 hb), hr.2⟩
theorem VML_sound {m : List (Nat × Nat)} {H H' : Heap} (hR : RelH P φ G M w H) (hE : ∀ k o, hget H' k = some o → OM m H H' k o) : ∀ (vs' vs : List AV) (us : List Value), VML m H H' vs vs' → RAL P φ G M w H vs us → RAL P (phi m φ) G M w H' vs' us
  | [], vs, us, h, hr => by
    cases vs <;> simp only [VML] at h
    simpa only [RAL] using hr
  | v' :: vs', vs, us, h, hr => by
    cases vs <;> simp only [VML] at h
    simp only [RAL] at hr ⊢
    obtain ⟨u, us', rfl, h1, h2⟩ := hr
    exact ⟨u, us', rfl, VM_sound hR hE _ _ _ h.1 h1, VML_sound hR hE _ _ _ h.2 h2⟩
end

theorem mget_mem {m : List (Nat × Nat)} {k k0 : Nat} (h : mget m k = some k0) : (k, k0) ∈ m := by
  induction m with
  | nil => simp [mget] at h
  | cons p m ih =>
    obtain ⟨j, j0⟩ := p
    simp only [mget] at h
    split at h
    · rename_i e; cases h; subst e; exact List.mem_cons_self ..
    · exact List.mem_cons_of_mem _ (ih h)
theorem inj2_spec {m : List (Nat × Nat)} (h : inj2 m = true) {k k' k0 : Nat} (h1 : mget m k = some k0) (h2 : mget m k' = some k0) : k = k' := by
  induction m with
  | nil => simp [mget] at h1
  | cons p m ih =>
    obtain ⟨j, j0⟩ := p
    simp only [inj2, Bool.and_eq_true, List.all_eq_true, bne_iff_ne, ne_eq] at h
    simp only [mget] at h1 h2
    split at h1
    · rename_i e1
      cases h1
      split at h2
      · rename_i e2; rw [← e1, ← e2]
      · exact absurd rfl (h.1 _ (mget_mem h2))
    · split at h2
      · cases h2; exact absurd rfl (h.1 _ (mget_mem h1))
      · exact ih h.2 h1 h2

/-- A state that says no more. -/
theorem Ent_of {σ σ' : St} (m : List (Nat × Nat)) (hm : inj2 m = true) (hh : EntH m σ.heap σ'.heap σ'.heap) (he : EntE m σ.heap σ'.heap σ.env σ'.env) : Ent σ σ' := by
  intro P X a w φ G M hR
  have hE : ∀ k o, hget σ'.heap k = some o → OM m σ.heap σ'.heap k o := fun k o hk => EntH_get hh hk
  refine ⟨phi m φ, G, M, ?_⟩
  have hloc : ∀ k o, hget σ'.heap k = some o → alloc (phi m φ) k o → ∃ k0 o0, mget m k = some k0 ∧ hget σ.heap k0 = some o0 ∧ alloc φ k0 o0 := by
    intro k o hk ha
    have := hE k o hk
    simp only [OM] at this
    cases hmk : mget m k with
    | none =>
      rw [hmk] at this
      cases o with
      | box cs => exact this.elim
      | row t xs f => simp [alloc, phi, hmk] at ha
    | some k0 =>
      rw [hmk] at this
      simp only at this
      cases h0 : hget σ.heap k0 with
      | none => rw [h0] at this; exact this.elim
      | some o0 =>
        rw [h0] at this
        refine ⟨k0, o0, rfl, h0, ?_⟩
        cases o0 with
        | box cs => trivial
        | row t xs f => cases o with
          | box cs => exact this.elim
          | row t' xs' f' => simpa [alloc, phi, hmk] using ha
  have hH : RelH P (phi m φ) G M w σ'.heap := by
    refine ⟨fun k o hk => ?_, fun k k' o o' hk hk' hne ha ha' => ?_, hR.heap.bnd, hR.heap.mnd, hR.heap.sep⟩
    · have := hE k o hk
      simp only [OM] at this
      cases hmk : mget m k with
      | none =>
        rw [hmk] at this
        cases o with
        | box cs => exact this.elim
        | row t xs f =>
          obtain ⟨rfl, rfl, hp, hz⟩ := this
          have e : phi m φ k = ⟨0, 0, 0⟩ := by simp only [phi, hmk]
          simp only [RObj, e]
          exact ⟨⟨hp, hz, .inl ⟨rfl, rfl⟩⟩, fun h => absurd h (by simp)⟩
      | some k0 =>
        rw [hmk] at this
        simp only at this
        have e : phi m φ k = φ k0 := by simp only [phi, hmk]
        cases h0 : hget σ.heap k0 with
        | none => rw [h0] at this; exact this.elim
        | some o0 =>
          rw [h0] at this
          have hob := hR.heap.obj k0 _ h0
          cases o0 with
          | box cs => cases o with
            | row t xs f => exact this.elim
            | box cs' =>
              simp only [RObj, e] at hob ⊢
              obtain ⟨c, ty, h1, h2, h3⟩ := hob
              exact ⟨c, ty, h1, h2, VML_sound hR.heap hE _ _ _ this h3⟩
          | row t xs f => cases o with
            | box cs => exact this.elim
            | row t' xs' f' =>
              obtain ⟨h1, rfl⟩ := this
              obtain ⟨e1, he1⟩ := castL?_eq h1
              subst e1
              simp only at he1
              subst he1
              simpa only [RObj, e] using hob
    · obtain ⟨k0, o0, h1, h2, h3⟩ := hloc k o hk ha
      obtain ⟨k1, o1, h4, h5, h6⟩ := hloc k' o' hk' ha'
      have e : phi m φ k = φ k0 := by simp only [phi, h1]
      have e' : phi m φ k' = φ k1 := by simp only [phi, h4]
      rw [e, e']
      refine hR.heap.inj k0 k1 o0 o1 h2 h5 (fun hk => hne ?_) h3 h6
      subst hk
      exact inj2_spec hm h1 h4
  have hen : ∀ (E : Env), EntE m σ.heap σ'.heap σ.env E → ∀ t, RA P (phi m φ) G M w σ'.heap (eget E t) (a.tmps.getD t undef) := by
    intro E
    induction E with
    | nil => intro _ t; simp only [eget, RA]
    | cons p E ih =>
      intro hEE t
      obtain ⟨j, v⟩ := p
      simp only [eget]
      split
      · rename_i e; subst e; exact VM_sound hR.heap hE _ _ _ hEE.1 (hR.env j)
      · exact ih hEE.2 t
  exact { env := hen _ he, heap := hH, sz := hR.sz, def_ := hR.def_, old := hR.old, size := hR.size, os := hR.os, tape := hR.tape, output := hR.output, g0 := hR.g0, mt := hR.mt }

/-- Rows are frozen. -/
theorem Ent_frz (σ : St) (ks : List Nat) : Ent σ ⟨σ.env, frzH σ.heap ks⟩ := by
  intro P X a w φ G M hR
  obtain ⟨G', M', _, h⟩ := Rel.frz ks hR
  exact ⟨φ, G', M', h⟩
theorem Ent.refl (σ : St) : Ent σ σ := fun _ _ _ _ φ G M h => ⟨φ, G, M, h⟩
theorem Ent.trans {a b c : St} (h : Ent a b) (h' : Ent b c) : Ent a c := fun P X act w φ G M hR => by
  obtain ⟨φ1, G1, M1, h1⟩ := h P X act w φ G M hR
  exact h' P X act w φ1 G1 M1 h1
end Go.AM
