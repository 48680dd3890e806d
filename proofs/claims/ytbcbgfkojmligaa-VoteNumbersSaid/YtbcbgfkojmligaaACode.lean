import Derived.Test.YtbcbgfkojmligaaAOps12
import Derived.Test.YtbcbgfkojmligaaAVc
import Derived.Orders
import Derived.Deep.LoopGhost
/- Part of an abstract machine for Go code and of its soundness, for any program of the model; no condition. -/
set_option linter.unusedVariables false
set_option linter.unusedSimpArgs false
set_option linter.unusedSimpArgs false
set_option linter.constructorNameAsVariable false
namespace Go.AM
open Go.RowKit
section
variable {P : Program} {TT : TyTab} {N : Nat} {rowAt : List Nat} {X : Ctx} {σ : St} {a : Act} {w : World} {φ : Nat → Loc} {G M : Nat → Prop}

def Post (P : Program) (X : Ctx) (Q : Ex → St → Prop) : Exit → Act → World → Prop
  | .normal, a, w => ∃ σ φ G M, Rel P X σ a w φ G M ∧ Q .norm σ
  | .exit id, a, w => ∃ σ φ G M, Rel P X σ a w φ G M ∧ Q (.exit id) σ
  | .ret, a, w => ∃ σ φ G M, Rel P X σ a w φ G M ∧ Q .ret σ
  | _, _, _ => False

def PK (P : Program) (X : Ctx) (K : St → Prop) (a : Act) (w : World) : Prop := ∃ σ φ G M, Rel P X σ a w φ G M ∧ K σ

theorem upd_rel {o : AOp} {d : Option Nat} {v : AV} {e : Eff} {w' : World} {φ' : Nat → Loc} {G' M' : Nat → Prop} {u : Value} (hR : Rel P X (σ.eff e) a w' φ' G' M') (hd : ∀ i, d = some i → i < X.N) (hv : RA P φ' G' M' w' (σ.eff e).heap v u) :
    Rel P X (σ.upd d v e) (a.put d u) w' φ' G' M' := Rel.put (P := P) hR d v u hd hv

def asB : Value → Option Bool
  | .bool b => some b
  | _ => none

theorem actOf_spec {want : Bool} {v : AV} {u : Value} {act : Bool} {H : Heap} (h : actOf want v = some act) (hv : RA P φ G M w H v u) : (asB u == some want) = act := by
  unfold actOf at h
  split at h
  · cases h
    simp only [RA] at hv
    subst hv
    rename_i b
    cases b <;> cases want <;> rfl
  · rename_i d b
    cases h
    simp only [RA] at hv
    cases d with
    | false => have := hv.2 rfl; subst this; rfl
    | true =>
      have := hv.1 rfl; subst this
      cases b <;> cases want <;> rfl
  · cases h

theorem eff_quiet {e : Eff} (h : e.quiet = true) : ∃ f, e = ⟨f, [], []⟩ := by
  obtain ⟨f, d, p⟩ := e
  cases d <;> cases p <;> simp [Eff.quiet] at h
  exact ⟨f, rfl⟩

theorem op_sound {T : Tab} (hT : TabOK P T) (hR : Rel P X σ a w φ G M) (hN : N ≤ X.N) {ops : Array Oper} {o : Oper} {ao : AOp} (hc : compOp P TT N rowAt ops o = some ao) {K : Act → World → Prop} {Q : Exit → Act → World → Prop}
    (hb : (ev T ao σ).bind fun n v e => n ∧ ∀ a' w' φ' G' M', Rel P X (σ.upd ao.d v e) a' w' φ' G' M' → K a' w') :
    if Region.wanted o (yielded ops a.tmps) then o.wp P a w K Q else K (a.put o.dst undef) w := by
  unfold compOp at hc
  split at hc
  · cases hc
  · rename_i k xs hk
    split at hc
    · rename_i hdN
      have hd : ∀ i, o.dst = some i → i < X.N := fun i hi => by
        rw [hi] at hdN
        simp only [dstOk, decide_eq_true_eq] at hdN
        exact Nat.lt_of_lt_of_le hdN hN
      split at hc
      · rename_i hg
        cases hc
        have hw : Region.wanted o (yielded ops a.tmps) = true := by simp [Region.wanted, hg]
        rw [if_pos hw]
        refine kk_sound hT hR hk rfl ?_
        simp only [ev] at hb
        unfold Conc
        refine bind_mono hb fun n v e h => ⟨h.1, fun w' u φ' G' M' hR' hv => h.2 _ _ _ _ _ (upd_rel (o := ⟨o.dst, k, xs, none⟩) hR' hd hv)⟩
      · rename_i j want hg
        split at hc
        · rename_i oj hj
          split at hc
          · rename_i t ht
            split at hc
            · rename_i htN
              cases hc
              have hlt : t < a.tmps.size := Nat.lt_of_lt_of_le htN (Nat.le_trans hN hR.sz)
              have hy : yielded ops a.tmps j = asB (a.tmps.getD t undef) := by
                unfold yielded
                simp only [hj, ht, Option.bind_some]
                rw [Array.getElem?_eq_getElem hlt]
                have e : a.tmps.getD t undef = a.tmps[t] := by simp [Array.getD, hlt]
                rw [e]
                cases a.tmps[t] <;> rfl
              simp only [ev] at hb
              cases hact : actOf want (eget σ.env t) with
              | none => rw [hact] at hb; simp [R.bind] at hb
              | some act =>
                rw [hact] at hb
                simp only at hb
                have hwa := actOf_spec hact (hR.env t)
                have hw : Region.wanted o (yielded ops a.tmps) = act := by
                  simp only [Region.wanted, hg, hy]
                  exact hwa
                cases hr : run1 T (o.dst.getD 0) σ.heap k (vals σ.env xs) with
                | no => rw [hr] at hb; simp [R.bind] at hb
                | amb n p => rw [hr] at hb; simp [R.bind] at hb
                | ok n v e =>
                  rw [hr] at hb
                  simp only at hb
                  cases hq : e.quiet with
                  | false => rw [hq] at hb; simp [R.bind] at hb
                  | true =>
                    rw [hq] at hb
                    simp only [R.bind] at hb
                    rw [hw]
                    cases act with
                    | true =>
                      simp only [if_true]
                      refine kk_sound hT hR hk rfl ?_
                      rw [hr]
                      exact ⟨hb.1 rfl, fun w' u φ' G' M' hR' hv => hb.2 _ _ _ _ _ (upd_rel (o := ⟨o.dst, k, xs, none⟩) hR' hd (by simp only [RA]; exact ⟨fun _ => hv, fun h => (by cases h)⟩))⟩
                    | false =>
                      simp only [Bool.false_eq_true, if_false]
                      obtain ⟨f, rfl⟩ := eff_quiet hq
                      obtain ⟨G', M', _, hR'⟩ := Rel.frz f hR
                      exact hb.2 _ _ φ G' M' (upd_rel (o := ⟨o.dst, k, xs, none⟩) hR' hd (by simp only [RA]; exact ⟨fun h => (by cases h), fun _ => trivial⟩))
            · cases hc
          · cases hc
        · cases hc
    · cases hc

theorem wpOps_sound {T : Tab} (hT : TabOK P T) (hN : N ≤ X.N) {ops : Array Oper} {Q : Exit → Act → World → Prop} {K : St → Prop} (hQ : ∀ a w, PK P X K a w → Q .normal a w) :
    ∀ {n i : Nat} {l : List AOp} {σ : St} {a : Act} {w : World} {φ : Nat → Loc} {G M : Nat → Prop}, i + n = ops.size → compOps P TT N rowAt ops (ops.toList.drop i) = some l → Rel P X σ a w φ G M → evOps T l σ K →
      wpOps P ops Q (List.range' i n) a w := by
  intro n
  induction n with
  | zero =>
    intro i l σ a w φ G M hi hc hR h
    have : ops.toList.drop i = [] := List.drop_of_length_le (by simp; omega)
    rw [this] at hc
    cases hc
    exact hQ _ _ ⟨σ, φ, G, M, hR, h⟩
  | succ n ih =>
    intro i l σ a w φ G M hi hc hR h
    have hlt : i < ops.size := by omega
    have hd : ops.toList.drop i = ops[i] :: ops.toList.drop (i + 1) := by
      rw [List.drop_eq_getElem_cons (by simpa using hlt)]; simp
    rw [hd] at hc
    simp only [compOps] at hc
    split at hc
    · rename_i x hx
      split at hc
      · rename_i xs hxs
        cases hc
        rw [List.range'_succ, wpOps_cons]
        unfold wpOp
        rw [Array.getElem?_eq_getElem hlt]
        simp only
        have := op_sound hT hR hN hx (K := wpOps P ops Q (List.range' (i + 1) n)) (Q := Q) (bind_mono h fun nd v e hh => ⟨hh.1, fun a' w' φ' G' M' hR' => ih (by omega) hxs hR' hh.2⟩)
        split
        · rename_i hw
          rw [if_pos hw] at this
          exact .inl this
        · rename_i hw
          rw [if_neg hw] at this
          exact this
      · cases hc
    · cases hc

theorem compOps_get {ops : Array Oper} : ∀ {l : List Oper} {xs : List AOp} {i : Nat} {o : Oper}, compOps P TT N rowAt ops l = some xs → l[i]? = some o → ∃ x, xs[i]? = some x ∧ compOp P TT N rowAt ops o = some x := by
  intro l
  induction l with
  | nil => intro xs i o _ h; simp at h
  | cons y l ih =>
    intro xs i o h hi
    simp only [compOps] at h
    split at h
    · rename_i x hx
      split at h
      · rename_i ys hys
        cases h
        cases i with
        | zero => simp at hi; subst hi; exact ⟨x, rfl, hx⟩
        | succ i => simpa using ih hys (by simpa using hi)
      · cases h
    · cases h

theorem compOps_len {ops : Array Oper} : ∀ {l : List Oper} {xs : List AOp}, compOps P TT N rowAt ops l = some xs → xs.length = l.length := by
  intro l
  induction l with
  | nil => intro xs h; cases h; rfl
  | cons y l ih =>
    intro xs h
    simp only [compOps] at h
    split at h
    · split at h
      · rename_i ys hys; cases h; simp [ih hys]
      · cases h
    · cases h


/-- The operations that are listed, in Lean's two ways. -/
structure Lst (listed : Array Bool) (ls : List Bool) (n : Nat) : Prop where
  eq : listed.toList = ls
  len : ls.length = n

theorem edges_bit {o : Oper} {j : Nat} (h : ∀ e ∈ o.after, Region.binds .any e = true → e.on ≠ j) : bitIn ((edgesOf o).foldl (fun s j => s ||| 2 ^ j) 0) j = false := by
  have key : ∀ (l : List Nat) (s : Nat), s.testBit j = false → (∀ k ∈ l, k ≠ j) → (l.foldl (fun s j => s ||| 2 ^ j) s).testBit j = false := by
    intro l
    induction l with
    | nil => intro s h _; exact h
    | cons k l ih =>
      intro s h hk
      simp only [List.foldl_cons]
      refine ih _ ?_ fun k' hk' => hk k' (List.mem_cons_of_mem _ hk')
      rw [Nat.testBit_or, h, Nat.testBit_two_pow]
      simp [hk k (List.mem_cons_self ..)]
  refine key _ _ (by simp) ?_
  intro k hk
  unfold edgesOf at hk
  simp only [List.mem_map, List.mem_filter] at hk
  obtain ⟨e, ⟨he, hb⟩, rfl⟩ := hk
  exact h e (Array.mem_toList_iff.1 he) hb

theorem edges_bit' {o : Oper} {e : Edge} (he : e ∈ o.after) (hb : Region.binds .any e = true) : bitIn ((edgesOf o).foldl (fun s j => s ||| 2 ^ j) 0) e.on = true := by
  have mono : ∀ (l : List Nat) (s j : Nat), s.testBit j = true → (l.foldl (fun s j => s ||| 2 ^ j) s).testBit j = true := by
    intro l
    induction l with
    | nil => intro s j h; exact h
    | cons k l ih =>
      intro s j h
      simp only [List.foldl_cons]
      exact ih _ _ (by rw [Nat.testBit_or, h]; rfl)
  have key : ∀ (l : List Nat) (s : Nat), e.on ∈ l → (l.foldl (fun s j => s ||| 2 ^ j) s).testBit e.on = true := by
    intro l
    induction l with
    | nil => intro s h; cases h
    | cons k l ih =>
      intro s h
      simp only [List.foldl_cons]
      rcases List.mem_cons.1 h with rfl | h
      · exact mono _ _ _ (by rw [Nat.testBit_or, Nat.testBit_two_pow_self]; simp)
      · exact ih _ h
  refine key _ _ ?_
  unfold edgesOf
  simp only [List.mem_map, List.mem_filter]
  exact ⟨e, ⟨Array.mem_toList_iff.2 he, hb⟩, rfl⟩

theorem count_set : ∀ {l : List Bool} {i : Nat}, l[i]? = some false → ((l.set i true).filter (!·)).length + 1 = (l.filter (!·)).length := by
  intro l
  induction l with
  | nil => intro i h; simp at h
  | cons b l ih =>
    intro i h
    cases i with
    | zero => simp at h; subst h; simp
    | succ i =>
      have := ih (i := i) (by simpa using h)
      cases b <;> simp <;> omega

theorem anyOps_sound {T : Tab} (hT : TabOK P T) (hN : N ≤ X.N) {ops : Array Oper} {xs : List AOp} (hc : compOps P TT N rowAt ops ops.toList = some xs) {Q : Exit → Act → World → Prop} {K : St → Prop} (hQ : ∀ a w, PK P X K a w → Q .normal a w) :
    ∀ {n : Nat} {listed : Array Bool} {σ : St} {a : Act} {w : World} {φ : Nat → Loc} {G M : Nat → Prop}, listed.size = ops.size → (listed.toList.filter (!·)).length ≤ n → Rel P X σ a w φ G M →
      anyOps T xs (ops.toList.map fun o => (edgesOf o).foldl (fun s j => s ||| 2 ^ j) 0) n listed.toList σ K → wpAny P .any ops Q n listed a w := by
  have hlen := compOps_len hc
  intro n
  induction n with
  | zero =>
    intro listed σ a w φ G M hs hf hR h
    refine ⟨?_, hQ _ _ ⟨σ, φ, G, M, hR, h⟩⟩
    apply List.eq_nil_iff_forall_not_mem.2
    intro i hi
    rw [mem_ready] at hi
    have hi1 := hi.1
    have hm : false ∈ listed.toList := by
      cases hg : listed[i]? with
      | none => rw [Array.getD_eq_getD_getElem?, hg] at hi1; cases hi1
      | some b =>
        rw [Array.getD_eq_getD_getElem?, hg] at hi1
        simp only [Option.getD_some] at hi1
        subst hi1
        exact Array.mem_toList_iff.2 (Array.mem_of_getElem? hg)
    have : 0 < (listed.toList.filter (!·)).length := List.length_pos_of_mem (List.mem_filter.2 ⟨hm, rfl⟩)
    omega
  | succ n ih =>
    intro listed σ a w φ G M hs hf hR h
    obtain ⟨h0, h1⟩ := h
    have rdy : ∀ i, i ∈ Region.ready .any ops listed ↔ (listed.toList[i]? = some false ∧ ∃ o, ops[i]? = some o ∧ ∀ e ∈ o.after, Region.binds .any e = true → listed.getD e.on false = true) := by
      intro i
      rw [mem_ready]
      refine and_congr ?_ Iff.rfl
      rw [Array.getD_eq_getD_getElem?, Array.getElem?_toList]
      cases listed[i]? with
      | none => simp
      | some b => simp
    refine ⟨fun hr => ?_, fun i hi => ?_⟩
    · refine hQ _ _ ⟨σ, φ, G, M, hR, h0 fun i hi => ?_⟩
      have hlt : i < listed.size := by
        rw [Array.getElem?_toList] at hi
        exact (Array.getElem?_eq_some_iff.1 hi).1
      have hlt' : i < ops.size := by omega
      apply Classical.byContradiction
      intro hn
      have : i ∈ Region.ready .any ops listed := (rdy i).2 ⟨hi, ops[i], Array.getElem?_eq_getElem hlt', fun e he hb => by
        cases hg : listed.getD e.on false with
        | true => rfl
        | false =>
          refine absurd ⟨e.on, ?_, ?_⟩ hn
          · have hget : (ops.toList.map fun o => (edgesOf o).foldl (fun s j => s ||| 2 ^ j) 0).getD i 0 = (edgesOf ops[i]).foldl (fun s j => s ||| 2 ^ j) 0 := by
              rw [List.getD_eq_getElem?_getD, List.getElem?_map, Array.getElem?_toList, Array.getElem?_eq_getElem hlt']; rfl
            rw [hget]
            exact edges_bit' he hb
          · rw [List.getD_eq_getElem?_getD, Array.getElem?_toList, ← Array.getD_eq_getD_getElem?]; exact hg⟩
      rw [hr] at this
      cases this
    · obtain ⟨hl, o, ho, he⟩ := (rdy i).1 hi
      obtain ⟨x, hx, hcx⟩ := compOps_get hc (by rw [Array.getElem?_toList]; exact ho)
      have hb := h1 i x hx hl (by
        intro j hj
        apply Classical.byContradiction
        intro hn
        have : bitIn ((edgesOf o).foldl (fun s j => s ||| 2 ^ j) 0) j = false := edges_bit fun e hem hbd hej => hn (by
          have := he e hem hbd
          rw [hej] at this
          rw [List.getD_eq_getElem?_getD, Array.getElem?_toList, ← Array.getD_eq_getD_getElem?]; exact this)
        have hget : (ops.toList.map fun o => (edgesOf o).foldl (fun s j => s ||| 2 ^ j) 0).getD i 0 = (edgesOf o).foldl (fun s j => s ||| 2 ^ j) 0 := by
          rw [List.getD_eq_getElem?_getD, List.getElem?_map, Array.getElem?_toList, ho]; rfl
        rw [hget, this] at hj
        cases hj)
      unfold wpOp
      rw [ho]
      simp only
      have hcnt : (((listed.setIfInBounds i true).toList).filter (!·)).length ≤ n := by
        have := count_set hl
        rw [Array.toList_setIfInBounds]
        omega
      have := op_sound hT hR hN hcx (K := wpAny P .any ops Q n (listed.setIfInBounds i true)) (Q := Q) (bind_mono hb fun nd v e hh => ⟨hh.1, fun a' w' φ' G' M' hR' => ih (by simpa using hs) hcnt hR' (by simpa using hh.2)⟩)
      split
      · rename_i hw
        rw [if_pos hw] at this
        exact .inl this
      · rename_i hw
        rw [if_neg hw] at this
        exact this

end
end Go.AM
