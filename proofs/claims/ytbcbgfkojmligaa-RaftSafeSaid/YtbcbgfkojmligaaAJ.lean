import Derived.Test.YtbcbgfkojmligaaAI
import Derived.Test.YtbcbgfkojmligaaAC
import Derived.Orders
import Derived.Deep.LoopGhost
/- Part of an abstract machine for Go code and of its soundness, for any program of the model; no condition. -/
set_option maxHeartbeats 4000000
set_option linter.unusedVariables false
set_option linter.unusedSimpArgs false
set_option linter.unusedSimpArgs false
set_option linter.constructorNameAsVariable false
namespace Go.AM
open Go.RowKit
section
variable {P : Program} {TT : TyTab} {N : Nat} {rowAt : List Nat} {X : Ctx} {σ : St} {a : Act} {w : World} {φ : Nat → Loc} {G M : Nat → Prop}

def Post (P : Program) (X : Ctx) (Q : Ex → St → Prop) : Exit → Act → World → Prop
  | .normal, a, w => ∃ σ φ G M, Rel P X σ a w φ G M ∧ Q .norm σ
  | .exit id, a, w => ∃ σ φ G M, Rel P X σ a w φ G M ∧ Q (.exit id) σ
  | .ret, a, w => ∃ σ φ G M, Rel P X σ a w φ G M ∧ Q .ret σ
  | _, _, _ => False

def PK (P : Program) (X : Ctx) (K : St → Prop) (a : Act) (w : World) : Prop := ∃ σ φ G M, Rel P X σ a w φ G M ∧ K σ

theorem upd_rel {o : AOp} {d : Option Nat} {v : AV} {e : Eff} {w' : World} {φ' : Nat → Loc} {G' M' : Nat → Prop} {u : Value} (hR : Rel P X (σ.eff e) a w' φ' G' M') (hd : ∀ i, d = some i → i < X.N) (hv : RA P φ' G' M' w' (σ.eff e).heap v u) :
    Rel P X (σ.upd d v e) (a.put d u) w' φ' G' M' := Rel.put (P := P) hR d v u hd hv

def asB : Value → Option Bool
  | .bool b => some b
  | _ => none

theorem actOf_spec {want : Bool} {v : AV} {u : Value} {act : Bool} {H : Heap} (h : actOf want v = some act) (hv : RA P φ G M w H v u) : (asB u == some want) = act := by
  unfold actOf at h
  split at h
  · cases h
    simp only [RA] at hv
    subst hv
    rename_i b
    cases b <;> cases want <;> rfl
  · rename_i d b
    cases h
    simp only [RA] at hv
    cases d with
    | false => have := hv.2 rfl; subst this; rfl
    | true =>
      have := hv.1 rfl; subst this
      cases b <;> cases want <;> rfl
  · cases h

theorem eff_quiet {e : Eff} (h : e.quiet = true) : ∃ f, e = ⟨f, [], []⟩ := by
  obtain ⟨f, d, p⟩ := e
  cases d <;> cases p <;> simp [Eff.quiet] at h
  exact ⟨f, rfl⟩

theorem op_sound {T : Tab} (hT : TabOK P T) (hR : Rel P X σ a w φ G M) (hN : N ≤ X.N) {ops : Array Oper} {o : Oper} {ao : AOp} (hc : compOp P TT N rowAt ops o = some ao) {K : Act → World → Prop} {Q : Exit → Act → World → Prop}
    (hb : (ev T ao σ).bind fun n v e => n ∧ ∀ a' w' φ' G' M', Rel P X (σ.upd ao.d v e) a' w' φ' G' M' → K a' w') :
    if Region.wanted o (yielded ops a.tmps) then o.wp P a w K Q else K (a.put o.dst undef) w := by
  unfold compOp at hc
  split at hc
  · cases hc
  · rename_i k xs hk
    split at hc
    · rename_i hdN
      have hd : ∀ i, o.dst = some i → i < X.N := fun i hi => by
        rw [hi] at hdN
        simp only [dstOk, decide_eq_true_eq] at hdN
        exact Nat.lt_of_lt_of_le hdN hN
      split at hc
      · rename_i hg
        cases hc
        have hw : Region.wanted o (yielded ops a.tmps) = true := by simp [Region.wanted, hg]
        rw [if_pos hw]
        refine kk_sound hT hR hk rfl ?_
        simp only [ev] at hb
        unfold Conc
        refine bind_mono hb fun n v e h => ⟨h.1, fun w' u φ' G' M' hR' hv => h.2 _ _ _ _ _ (upd_rel (o := ⟨o.dst, k, xs, none⟩) hR' hd hv)⟩
      · rename_i j want hg
        split at hc
        · rename_i oj hj
          split at hc
          · rename_i t ht
            split at hc
            · rename_i htN
              cases hc
              have hlt : t < a.tmps.size := Nat.lt_of_lt_of_le htN (Nat.le_trans hN hR.sz)
              have hy : yielded ops a.tmps j = asB (a.tmps.getD t undef) := by
                unfold yielded
                simp only [hj, ht, Option.bind_some]
                rw [Array.getElem?_eq_getElem hlt]
                have e : a.tmps.getD t undef = a.tmps[t] := by simp [Array.getD, hlt]
                rw [e]
                cases a.tmps[t] <;> rfl
              simp only [ev] at hb
              cases hact : actOf want (eget σ.env t) with
              | none => rw [hact] at hb; simp [R.bind] at hb
              | some act =>
                rw [hact] at hb
                simp only at hb
                have hwa := actOf_spec hact (hR.env t)
                have hw : Region.wanted o (yielded ops a.tmps) = act := by
                  simp only [Region.wanted, hg, hy]
                  exact hwa
                cases hr : run1 T (o.dst.getD 0) σ.heap k (vals σ.env xs) with
                | no => rw [hr] at hb; simp [R.bind] at hb
                | amb n p => rw [hr] at hb; simp [R.bind] at hb
                | ok n v e =>
                  rw [hr] at hb
                  simp only at hb
                  cases hq : e.quiet with
                  | false => rw [hq] at hb; simp [R.bind] at hb
                  | true =>
                    rw [hq] at hb
                    simp only [R.bind] at hb
                    rw [hw]
                    cases act with
                    | true =>
                      simp only [if_true]
                      refine kk_sound hT hR hk rfl ?_
                      rw [hr]
                      exact ⟨hb.1 rfl, fun w' u φ' G' M' hR' hv => hb.2 _ _ _ _ _ (upd_rel (o := ⟨o.dst, k, xs, none⟩) hR' hd (by simp only [RA]; exact ⟨fun _ => hv, fun h => (by cases h)⟩))⟩
                    | false =>
                      simp only [Bool.false_eq_true, if_false]
                      obtain ⟨f, rfl⟩ := eff_quiet hq
                      obtain ⟨G', M', _, hR'⟩ := Rel.frz f hR
                      exact hb.2 _ _ φ G' M' (upd_rel (o := ⟨o.dst, k, xs, none⟩) hR' hd (by simp only [RA]; exact ⟨fun h => (by cases h), fun _ => trivial⟩))
            · cases hc
          · cases hc
        · cases hc
    · cases hc

theorem wpOps_sound {T : Tab} (hT : TabOK P T) (hN : N ≤ X.N) {ops : Array Oper} {Q : Exit → Act → World → Prop} {K : St → Prop} (hQ : ∀ a w, PK P X K a w → Q .normal a w) :
    ∀ {n i : Nat} {l : List AOp} {σ : St} {a : Act} {w : World} {φ : Nat → Loc} {G M : Nat → Prop}, i + n = ops.size → compOps P TT N rowAt ops (ops.toList.drop i) = some l → Rel P X σ a w φ G M → evOps T l σ K →
      wpOps P ops Q (List.range' i n) a w := by
  intro n
  induction n with
  | zero =>
    intro i l σ a w φ G M hi hc hR h
    have : ops.toList.drop i = [] := List.drop_of_length_le (by simp; omega)
    rw [this] at hc
    cases hc
    exact hQ _ _ ⟨σ, φ, G, M, hR, h⟩
  | succ n ih =>
    intro i l σ a w φ G M hi hc hR h
    have hlt : i < ops.size := by omega
    have hd : ops.toList.drop i = ops[i] :: ops.toList.drop (i + 1) := by
      rw [List.drop_eq_getElem_cons (by simpa using hlt)]; simp
    rw [hd] at hc
    simp only [compOps] at hc
    split at hc
    · rename_i x hx
      split at hc
      · rename_i xs hxs
        cases hc
        rw [List.range'_succ, wpOps_cons]
        unfold wpOp
        rw [Array.getElem?_eq_getElem hlt]
        simp only
        have := op_sound hT hR hN hx (K := wpOps P ops Q (List.range' (i + 1) n)) (Q := Q) (bind_mono h fun nd v e hh => ⟨hh.1, fun a' w' φ' G' M' hR' => ih (by omega) hxs hR' hh.2⟩)
        split
        · rename_i hw
          rw [if_pos hw] at this
          exact .inl this
        · rename_i hw
          rw [if_neg hw] at this
          exact this
      · cases hc
    · cases hc

theorem compOps_get {ops : Array Oper} : ∀ {l : List Oper} {xs : List AOp} {i : Nat} {o : Oper}, compOps P TT N rowAt ops l = some xs → l[i]? = some o → ∃ x, xs[i]? = some x ∧ compOp P TT N rowAt ops o = some x := by
  intro l
  induction l with
  | nil => intro xs i o _ h; simp at h
  | cons y l ih =>
    intro xs i o h hi
    simp only [compOps] at h
    split at h
    · rename_i x hx
      split at h
      · rename_i ys hys
        cases h
        cases i with
        | zero => simp at hi; subst hi; exact ⟨x, rfl, hx⟩
        | succ i => simpa using ih hys (by simpa using hi)
      · cases h
    · cases h

theorem compOps_len {ops : Array Oper} : ∀ {l : List Oper} {xs : List AOp}, compOps P TT N rowAt ops l = some xs → xs.length = l.length := by
  intro l
  induction l with
  | nil => intro xs h; cases h; rfl
  | cons y l ih =>
    intro xs h
    simp only [compOps] at h
    split at h
    · split at h
      · rename_i ys hys; cases h; simp [ih hys]
      · cases h
    · cases h


/-- The operations that are listed, in Lean's two ways. -/
structure Lst (listed : Array Bool) (ls : List Bool) (n : Nat) : Prop where
  eq : listed.toList = ls
  len : ls.length = n

theorem edges_bit {o : Oper} {j : Nat} (h : ∀ e ∈ o.after, Region.binds .any e = true → e.on ≠ j) : bitIn ((edgesOf o).foldl (fun s j => s ||| 2 ^ j) 0) j = false := by
  have key : ∀ (l : List Nat) (s : Nat), s.testBit j = false → (∀ k ∈ l, k ≠ j) → (l.foldl (fun s j => s ||| 2 ^ j) s).testBit j = false := by
    intro l
    induction l with
    | nil => intro s h _; exact h
    | cons k l ih =>
      intro s h hk
      simp only [List.foldl_cons]
      refine ih _ ?_ fun k' hk' => hk k' (List.mem_cons_of_mem _ hk')
      rw [Nat.testBit_or, h, Nat.testBit_two_pow]
      simp [hk k (List.mem_cons_self ..)]
  refine key _ _ (by simp) ?_
  intro k hk
  unfold edgesOf at hk
  simp only [List.mem_map, List.mem_filter] at hk
  obtain ⟨e, ⟨he, hb⟩, rfl⟩ := hk
  exact h e (Array.mem_toList_iff.1 he) hb

theorem edges_bit' {o : Oper} {e : Edge} (he : e ∈ o.after) (hb : Region.binds .any e = true) : bitIn ((edgesOf o).foldl (fun s j => s ||| 2 ^ j) 0) e.on = true := by
  have mono : ∀ (l : List Nat) (s j : Nat), s.testBit j = true → (l.foldl (fun s j => s ||| 2 ^ j) s).testBit j = true := by
    intro l
    induction l with
    | nil => intro s j h; exact h
    | cons k l ih =>
      intro s j h
      simp only [List.foldl_cons]
      exact ih _ _ (by rw [Nat.testBit_or, h]; rfl)
  have key : ∀ (l : List Nat) (s : Nat), e.on ∈ l → (l.foldl (fun s j => s ||| 2 ^ j) s).testBit e.on = true := by
    intro l
    induction l with
    | nil => intro s h; cases h
    | cons k l ih =>
      intro s h
      simp only [List.foldl_cons]
      rcases List.mem_cons.1 h with rfl | h
      · exact mono _ _ _ (by rw [Nat.testBit_or, Nat.testBit_two_pow_self]; simp)
      · exact ih _ h
  refine key _ _ ?_
  unfold edgesOf
  simp only [List.mem_map, List.mem_filter]
  exact ⟨e, ⟨Array.mem_toList_iff.2 he, hb⟩, rfl⟩

theorem count_set : ∀ {l : List Bool} {i : Nat}, l[i]? = some false → ((l.set i true).filter (!·)).length + 1 = (l.filter (!·)).length := by
  intro l
  induction l with
  | nil => intro i h; simp at h
  | cons b l ih =>
    intro i h
    cases i with
    | zero => simp at h; subst h; simp
    | succ i =>
      have := ih (i := i) (by simpa using h)
      cases b <;> simp <;> omega

theorem anyOps_sound {T : Tab} (hT : TabOK P T) (hN : N ≤ X.N) {ops : Array Oper} {xs : List AOp} (hc : compOps P TT N rowAt ops ops.toList = some xs) {Q : Exit → Act → World → Prop} {K : St → Prop} (hQ : ∀ a w, PK P X K a w → Q .normal a w) :
    ∀ {n : Nat} {listed : Array Bool} {σ : St} {a : Act} {w : World} {φ : Nat → Loc} {G M : Nat → Prop}, listed.size = ops.size → (listed.toList.filter (!·)).length ≤ n → Rel P X σ a w φ G M →
      anyOps T xs (ops.toList.map fun o => (edgesOf o).foldl (fun s j => s ||| 2 ^ j) 0) n listed.toList σ K → wpAny P .any ops Q n listed a w := by
  have hlen := compOps_len hc
  intro n
  induction n with
  | zero =>
    intro listed σ a w φ G M hs hf hR h
    refine ⟨?_, hQ _ _ ⟨σ, φ, G, M, hR, h⟩⟩
    apply List.eq_nil_iff_forall_not_mem.2
    intro i hi
    rw [mem_ready] at hi
    have hi1 := hi.1
    have hm : false ∈ listed.toList := by
      cases hg : listed[i]? with
      | none => rw [Array.getD_eq_getD_getElem?, hg] at hi1; cases hi1
      | some b =>
        rw [Array.getD_eq_getD_getElem?, hg] at hi1
        simp only [Option.getD_some] at hi1
        subst hi1
        exact Array.mem_toList_iff.2 (Array.mem_of_getElem? hg)
    have : 0 < (listed.toList.filter (!·)).length := List.length_pos_of_mem (List.mem_filter.2 ⟨hm, rfl⟩)
    omega
  | succ n ih =>
    intro listed σ a w φ G M hs hf hR h
    obtain ⟨h0, h1⟩ := h
    have rdy : ∀ i, i ∈ Region.ready .any ops listed ↔ (listed.toList[i]? = some false ∧ ∃ o, ops[i]? = some o ∧ ∀ e ∈ o.after, Region.binds .any e = true → listed.getD e.on false = true) := by
      intro i
      rw [mem_ready]
      refine and_congr ?_ Iff.rfl
      rw [Array.getD_eq_getD_getElem?, Array.getElem?_toList]
      cases listed[i]? with
      | none => simp
      | some b => simp
    refine ⟨fun hr => ?_, fun i hi => ?_⟩
    · refine hQ _ _ ⟨σ, φ, G, M, hR, h0 fun i hi => ?_⟩
      have hlt : i < listed.size := by
        rw [Array.getElem?_toList] at hi
        exact (Array.getElem?_eq_some_iff.1 hi).1
      have hlt' : i < ops.size := by omega
      apply Classical.byContradiction
      intro hn
      have : i ∈ Region.ready .any ops listed := (rdy i).2 ⟨hi, ops[i], Array.getElem?_eq_getElem hlt', fun e he hb => by
        cases hg : listed.getD e.on false with
        | true => rfl
        | false =>
          refine absurd ⟨e.on, ?_, ?_⟩ hn
          · have hget : (ops.toList.map fun o => (edgesOf o).foldl (fun s j => s ||| 2 ^ j) 0).getD i 0 = (edgesOf ops[i]).foldl (fun s j => s ||| 2 ^ j) 0 := by
              rw [List.getD_eq_getElem?_getD, List.getElem?_map, Array.getElem?_toList, Array.getElem?_eq_getElem hlt']; rfl
            rw [hget]
            exact edges_bit' he hb
          · rw [List.getD_eq_getElem?_getD, Array.getElem?_toList, ← Array.getD_eq_getD_getElem?]; exact hg⟩
      rw [hr] at this
      cases this
    · obtain ⟨hl, o, ho, he⟩ := (rdy i).1 hi
      obtain ⟨x, hx, hcx⟩ := compOps_get hc (by rw [Array.getElem?_toList]; exact ho)
      have hb := h1 i x hx hl (by
        intro j hj
        apply Classical.byContradiction
        intro hn
        have : bitIn ((edgesOf o).foldl (fun s j => s ||| 2 ^ j) 0) j = false := edges_bit fun e hem hbd hej => hn (by
          have := he e hem hbd
          rw [hej] at this
          rw [List.getD_eq_getElem?_getD, Array.getElem?_toList, ← Array.getD_eq_getD_getElem?]; exact this)
        have hget : (ops.toList.map fun o => (edgesOf o).foldl (fun s j => s ||| 2 ^ j) 0).getD i 0 = (edgesOf o).foldl (fun s j => s ||| 2 ^ j) 0 := by
          rw [List.getD_eq_getElem?_getD, List.getElem?_map, Array.getElem?_toList, ho]; rfl
        rw [hget, this] at hj
        cases hj)
      unfold wpOp
      rw [ho]
      simp only
      have hcnt : (((listed.setIfInBounds i true).toList).filter (!·)).length ≤ n := by
        have := count_set hl
        rw [Array.toList_setIfInBounds]
        omega
      have := op_sound hT hR hN hcx (K := wpAny P .any ops Q n (listed.setIfInBounds i true)) (Q := Q) (bind_mono hb fun nd v e hh => ⟨hh.1, fun a' w' φ' G' M' hR' => ih (by simpa using hs) hcnt hR' (by simpa using hh.2)⟩)
      split
      · rename_i hw
        rw [if_pos hw] at this
        exact .inl this
      · rename_i hw
        rw [if_neg hw] at this
        exact this

end
end Go.AM

set_option linter.unusedSimpArgs false
set_option linter.constructorNameAsVariable false
namespace Go.AM

theorem mem_nmL {v : AV} {vs : List AV} {k : Nat} (hv : v ∈ vs) (hk : k ∈ nm v) : k ∈ nmL vs := by
  induction vs with
  | nil => cases hv
  | cons u us ih =>
    simp only [nmL, List.mem_append]
    rcases List.mem_cons.1 hv with rfl | hv
    · exact .inl hk
    · exact .inr (ih hv)
theorem nmL_mem {vs : List AV} {k : Nat} (h : k ∈ nmL vs) : ∃ v ∈ vs, k ∈ nm v := by
  induction vs with
  | nil => cases h
  | cons u us ih =>
    simp only [nmL, List.mem_append] at h
    rcases h with h | h
    · exact ⟨u, List.mem_cons_self .., h⟩
    · obtain ⟨v, h1, h2⟩ := ih h; exact ⟨v, List.mem_cons_of_mem _ h1, h2⟩
theorem nmL_app {a b : List AV} : nmL (a ++ b) = nmL a ++ nmL b := by
  induction a with
  | nil => rfl
  | cons v vs ih => simp only [List.cons_append, nmL, ih, List.append_assoc]
theorem mem_nmK {H : Heap} {ks : List Nat} {k : Nat} {cs : List AV} {j : Nat} (hk : k ∈ ks) (hb : hget H k = some (.box cs)) (hj : j ∈ nmL cs) : j ∈ nmK H ks := by
  induction ks with
  | nil => cases hk
  | cons i is ih =>
    simp only [nmK, List.mem_append]
    rcases List.mem_cons.1 hk with rfl | hk
    · exact .inl (by rw [hb]; exact hj)
    · exact .inr (ih hk)

/-- Two heaps agree on what is asked. -/
def On (S : Nat → Prop) (H H' : Heap) : Prop := ∀ k, S k → oSame (hget H k) (hget H' k)

theorem slOf_on {S : Nat → Prop} {H H' : Heap} (h : On S H H') (t : Ty) (v : AV) (hv : ∀ k ∈ nm v, S k) : slOf H' t v = slOf H t v := by
  cases v with
  | own k lo len =>
    have := h k (hv k (List.mem_singleton.2 rfl))
    simp only [slOf]
    cases hk : hget H k with
    | none => rw [hk] at this; cases hk' : hget H' k with
      | none => rfl
      | some o => simp [hk', oSame] at this
    | some o => cases o with
      | box cs => rw [hk] at this; cases hk' : hget H' k with
        | none => simp [hk', oSame] at this
        | some o => cases o with
          | box c => rfl
          | row t' xs f => simp [hk', oSame] at this
          | mp y => simp [hk', oSame] at this
      | mp cs => rw [hk] at this; cases hk' : hget H' k with
        | none => simp [hk', oSame] at this
        | some o => cases o with
          | mp c => rfl
          | row t' xs f => simp [hk', oSame] at this
          | box y => simp [hk', oSame] at this
      | row t' xs f => rw [hk] at this; simp only [oSame] at this; obtain ⟨f', e⟩ := this; rw [e]
  | _ => rfl

theorem toCells_tail {H : Heap} {t : Ty} : ∀ {cs : List AV} {x : den t} {r : List AV}, toCells H t cs = some (x, r) → ∃ p, cs = p ++ r := by
  induction t with
  | unit => intro cs x r h; simp only [toCells] at h; cases h; exact ⟨[], rfl⟩
  | pair a b iha ihb =>
    intro cs x r h
    simp only [toCells] at h
    split at h
    · rename_i x1 cs1 h1
      split at h
      · rename_i x2 cs2 h2
        cases h
        obtain ⟨p1, rfl⟩ := iha h1
        obtain ⟨p2, rfl⟩ := ihb h2
        exact ⟨p1 ++ p2, by simp⟩
      · cases h
    · cases h
  | int k => intro cs x r h; cases cs with
    | nil => simp [toCells] at h
    | cons c cs => cases c <;> simp [toCells] at h; exact ⟨[_], by rw [h.2.2]; rfl⟩
  | bool => intro cs x r h; cases cs with
    | nil => simp [toCells] at h
    | cons c cs => cases c <;> simp [toCells] at h; exact ⟨[_], by rw [h.2]; rfl⟩
  | str => intro cs x r h; cases cs with
    | nil => simp [toCells] at h
    | cons c cs => cases c <;> simp [toCells] at h; exact ⟨[_], by rw [h.2]; rfl⟩
  | list t _ => intro cs x r h; cases cs with
    | nil => simp [toCells] at h
    | cons c cs => simp only [toCells] at h; split at h <;> cases h; exact ⟨[_], rfl⟩
  | olist t _ => intro cs x r h; cases cs with
    | nil => simp [toCells] at h
    | cons c cs => cases c <;> simp [toCells] at h
  | flist t _ => intro cs x r h; cases cs with
    | nil => simp [toCells] at h
    | cons c cs => cases c with
      | sl t' xs f => cases f with
        | false => simp [toCells] at h
        | true => simp only [toCells] at h; split at h <;> cases h; exact ⟨[_], rfl⟩
      | _ => simp [toCells] at h
  | fn a b _ _ => intro cs x r h; cases cs with
    | nil => simp [toCells] at h
    | cons c cs => cases c <;> simp only [toCells] at h <;> first | cases h | skip
                   split at h
                   · cases h; exact ⟨[_], rfl⟩
                   · cases h
  | ref t _ => intro cs x r h; cases cs with
    | nil => simp [toCells] at h
    | cons c cs =>
      cases c with
      | el t' y off => cases off with
        | zero => simp only [toCells] at h; split at h <;> cases h; exact ⟨[_], rfl⟩
        | succ n => simp [toCells] at h
      | ptr k off => cases off with
        | zero =>
          simp only [toCells] at h
          split at h
          · split at h
            · split at h <;> cases h; exact ⟨[_], rfl⟩
            · cases h
          · cases h
        | succ n => simp [toCells] at h
      | _ => simp [toCells] at h

theorem toCells_on {S : Nat → Prop} {H H' : Heap} (h : On S H H') (t : Ty) : ∀ cs : List AV, (∀ k ∈ nmL cs, S k) → (noRef t = true ∨ ∀ k ∈ nmL cs, ∀ bs, hget H k = some (.box bs) → ∀ j ∈ nmL bs, S j) → toCells H' t cs = toCells H t cs := by
  induction t with
  | int k => intro cs _ _; cases cs with
    | nil => rfl
    | cons c cs => cases c <;> rfl
  | bool => intro cs _ _; cases cs with
    | nil => rfl
    | cons c cs => cases c <;> rfl
  | str => intro cs _ _; cases cs with
    | nil => rfl
    | cons c cs => cases c <;> rfl
  | list t _ => intro cs h1 _; cases cs with
    | nil => rfl
    | cons c cs => simp only [toCells, slOf_on h t c fun k hk => h1 k (by simp only [nmL, List.mem_append]; exact .inl hk)]
  | olist t _ => intro cs _ _; cases cs with
    | nil => rfl
    | cons c cs => cases c <;> rfl
  | flist t _ => intro cs _ _; cases cs with
    | nil => rfl
    | cons c cs => cases c with
      | sl t' xs f => cases f <;> rfl
      | _ => rfl
  | unit => intro cs _ _; rfl
  | pair a b iha ihb =>
    intro cs h1 h2
    simp only [noRef, Bool.and_eq_true] at h2
    have e := iha cs h1 (h2.imp (·.1) id)
    simp only [toCells, e]
    cases hc : toCells H a cs with
    | none => rfl
    | some p =>
      obtain ⟨x, cs1⟩ := p
      obtain ⟨q, rfl⟩ := toCells_tail hc
      simp only
      rw [ihb cs1 (fun k hk => h1 k (by rw [nmL_app]; exact List.mem_append_right _ hk)) (h2.imp (·.2) fun h2 k hk => h2 k (by rw [nmL_app]; exact List.mem_append_right _ hk))]
  | fn a r _ _ => intro cs _ _; cases cs with
    | nil => rfl
    | cons c cs => cases c <;> rfl
  | ref t ih =>
    intro cs h1 h2
    cases cs with
    | nil => rfl
    | cons c cs =>
      cases c with
      | ptr k off =>
        cases off with
        | zero =>
          simp only [toCells]
          split
          · rename_i hnr
            have hk0 : k ∈ nmL (.ptr k 0 :: cs) := by simp [nmL, nm]
            have := h k (h1 k hk0)
            cases hk : hget H k with
            | none => rw [hk] at this; cases hk' : hget H' k with
              | none => rfl
              | some o => simp [hk', oSame] at this
            | some o => cases o with
              | box c => rw [hk] at this; cases hk' : hget H' k with
                | none => simp [hk', oSame] at this
                | some o => cases o with
                  | box c' =>
                    rw [hk'] at this; simp only [oSame] at this; subst this
                    have h2' : ∀ j ∈ nmL c, S j := by
                      rcases h2 with h2 | h2
                      · simp [noRef] at h2
                      · exact h2 k hk0 c hk
                    simp only [ih c h2' (.inl hnr)]
                  | row t' xs f => simp [hk', oSame] at this
                  | mp y => simp [hk', oSame] at this
              | mp c => rw [hk] at this; cases hk' : hget H' k with
                | none => simp [hk', oSame] at this
                | some o => cases o with
                  | mp c' => rfl
                  | row t' xs f => simp [hk', oSame] at this
                  | box y => simp [hk', oSame] at this
              | row t' xs f => rw [hk] at this; simp only [oSame] at this; obtain ⟨f', e⟩ := this; rw [e]
          · rfl
        | succ n => rfl
      | el t x off => cases off <;> rfl
      | _ => rfl

theorem nm_cellsOf (v : AV) : nmL (cellsOf v) = nm v := by
  cases v <;> simp [cellsOf, nmL, nm]

/-- what is asked of a list of operands -/
def Reads (S : Nat → Prop) (H : Heap) (vs : List AV) : Prop := (∀ k ∈ nmL vs, S k) ∧ ∀ k ∈ nmL vs, ∀ bs, hget H k = some (.box bs) → ∀ j ∈ nmL bs, S j

def ReadsK (S : Nat → Prop) (H : Heap) (k : K) (vs : List AV) : Prop := (∀ k ∈ nmL vs, S k) ∧ (deep k = true → ∀ k ∈ nmL vs, ∀ bs, hget H k = some (.box bs) → ∀ j ∈ nmL bs, S j)

theorem Reads.cons {S : Nat → Prop} {H : Heap} {v : AV} {vs : List AV} (h : Reads S H (v :: vs)) : Reads S H [v] ∧ Reads S H vs := by
  obtain ⟨h1, h2⟩ := h
  simp only [nmL, List.mem_append] at h1 h2
  exact ⟨⟨fun k hk => h1 k (.inl (by simpa [nmL] using hk)), fun k hk => h2 k (.inl (by simpa [nmL] using hk))⟩, ⟨fun k hk => h1 k (.inr hk), fun k hk => h2 k (.inr hk)⟩⟩

theorem toV_on {S : Nat → Prop} {H H' : Heap} (h : On S H H') (t : Ty) (v : AV) (hv : Reads S H [v]) : toV H' t v = toV H t v := by
  have e := toCells_on h t [v] hv.1 (.inr hv.2)
  cases t <;> cases v <;> first | rfl | (simp only [toV, e]; done) | (rename_i cs; cases cs <;> rfl) | skip
  rename_i a b cs
  have e := toCells_on h (.pair a b) cs (by simpa [nmL, nm] using hv.1) (.inr (by simpa [nmL, nm] using hv.2))
  simp only [toV, e]
theorem toArgs0_on {S : Nat → Prop} {H H' : Heap} (h : On S H H') (a : Ty) : ∀ vs : List AV, Reads S H vs → toArgs0 H' a vs = toArgs0 H a vs := by
  induction a with
  | pair t b _ ih => intro vs hv; cases vs with
    | nil => rfl
    | cons v vs => simp only [toArgs0, toV_on h t v hv.cons.1, ih vs hv.cons.2]
  | _ => intro vs _; cases vs <;> rfl
theorem toP_on {S : Nat → Prop} {T : Tab} {H H' : Heap} (h : On S H H') (t : Ty) (v : AV) (hv : Reads S H [v]) : toP T H' t v = toP T H t v := by
  have hc : ∀ f caps, v = .clo f caps → Reads S H caps := fun f caps e => by subst e; simpa [Reads, nmL, nm] using hv
  cases t <;> cases v <;> simp only [toP, toV_on h _ _ hv]
  rename_i f caps
  have := hc f caps rfl
  simp only [toArgs0_on h _ _ this]
theorem toArgs_on {S : Nat → Prop} {T : Tab} {H H' : Heap} (h : On S H H') (a : Ty) : ∀ vs : List AV, Reads S H vs → toArgs T H' a vs = toArgs T H a vs := by
  induction a with
  | pair t b _ ih => intro vs hv; cases vs with
    | nil => rfl
    | cons v vs => simp only [toArgs, toP_on h t v hv.cons.1, ih vs hv.cons.2]
  | _ => intro vs _; cases vs <;> rfl
theorem dataAll_on {S : Nat → Prop} {H H' : Heap} (h : On S H H') (t : Ty) : ∀ vs : List AV, Reads S H vs → dataAll H' t vs = dataAll H t vs := by
  intro vs
  induction vs with
  | nil => intro _; rfl
  | cons v vs ih => intro hv; simp only [dataAll, toV_on h t v hv.cons.1, ih hv.cons.2]
theorem box_on {S : Nat → Prop} {H H' : Heap} (h : On S H H') {k : Nat} (hk : S k) {cs : List AV} : hget H' k = some (.box cs) ↔ hget H k = some (.box cs) := by
  have := h k hk
  cases h1 : hget H k with
  | none => rw [h1] at this; cases h2 : hget H' k with
    | none => simp
    | some o => simp [h2, oSame] at this
  | some o => cases o with
    | box c => rw [h1] at this; cases h2 : hget H' k with
      | none => simp [h2, oSame] at this
      | some o => cases o with
        | box c' => rw [h2] at this; simp only [oSame] at this; subst this; rfl
        | row t' xs f => simp [h2, oSame] at this
        | mp y => simp [h2, oSame] at this
    | mp c => rw [h1] at this; cases h2 : hget H' k with
      | none => simp [h2, oSame] at this
      | some o => cases o with
        | mp c' => simp
        | row t' xs f => simp [h2, oSame] at this
        | box y => simp [h2, oSame] at this
    | row t' xs f => rw [h1] at this; simp only [oSame] at this; obtain ⟨f', e⟩ := this; rw [e]; simp
theorem row_on {S : Nat → Prop} {H H' : Heap} (h : On S H H') {k : Nat} (hk : S k) {t : Ty} {xs : List (den t)} {f : Bool} (h1 : hget H k = some (.row t xs f)) : ∃ f', hget H' k = some (.row t xs f') := by
  have := h k hk
  rw [h1] at this
  simpa only [oSame] using this
theorem mp_on {S : Nat → Prop} {H H' : Heap} (h : On S H H') {k : Nat} (hk : S k) {m : List (Int × Int)} : hget H' k = some (.mp m) ↔ hget H k = some (.mp m) := by
  have := h k hk
  cases h1 : hget H k with
  | none => rw [h1] at this; cases h2 : hget H' k with
    | none => simp
    | some o => simp [h2, oSame] at this
  | some o => cases o with
    | mp c => rw [h1] at this; cases h2 : hget H' k with
      | none => simp [h2, oSame] at this
      | some o => cases o with
        | mp c' => rw [h2] at this; simp only [oSame] at this; subst this; rfl
        | row t' xs f => simp [h2, oSame] at this
        | box y => simp [h2, oSame] at this
    | box c => rw [h1] at this; cases h2 : hget H' k with
      | none => simp [h2, oSame] at this
      | some o => cases o with
        | box c' => simp
        | row t' xs f => simp [h2, oSame] at this
        | mp y => simp [h2, oSame] at this
    | row t' xs f => rw [h1] at this; simp only [oSame] at this; obtain ⟨f', e⟩ := this; rw [e]; simp
end Go.AM

set_option linter.unusedSimpArgs false
set_option linter.constructorNameAsVariable false
namespace Go.AM

theorem keysV_on {S : Nat → Prop} {H H' : Heap} (h : On S H H') (v : AV) (hv : Reads S H [v]) : keysV H' v = keysV H v := by
  have one : ∀ k off, k ∈ nmL [v] → keysV H' (.ptr k off) = keysV H (.ptr k off) := by
    intro k off hk
    simp only [keysV]
    cases h1 : hget H k with
    | none => cases h2 : hget H' k with
      | none => rfl
      | some o => have := h k (hv.1 k hk); rw [h1, h2] at this; simp [oSame] at this
    | some o => cases o with
      | box cs => rw [(box_on h (hv.1 k hk)).2 h1]
      | row t xs f => obtain ⟨f', e⟩ := row_on h (hv.1 k hk) h1; rw [e]
      | mp m => rw [(mp_on h (hv.1 k hk)).2 h1]
  cases v with
  | ptr k off => exact one k off (by simp [nmL, nm])
  | clo f caps =>
    simp only [keysV]
    have hc : ∀ c ∈ caps, ∀ k ∈ nm c, k ∈ nmL [AV.clo f caps] := fun c hc k hk => by simp only [nmL, nm, List.append_nil]; exact mem_nmL hc hk
    have : ∀ l : List AV, (∀ c ∈ l, ∀ k ∈ nm c, k ∈ nmL [AV.clo f caps]) → (l.flatMap fun
        | .own k _ _ => [k]
        | .ptr k _ => match hget H' k with
          | some (.box cs) => keysC cs
          | _ => []
        | _ => []) = l.flatMap fun
        | .own k _ _ => [k]
        | .ptr k _ => match hget H k with
          | some (.box cs) => keysC cs
          | _ => []
        | _ => [] := by
      intro l
      induction l with
      | nil => intro _; rfl
      | cons c cs ih =>
        intro hl
        simp only [List.flatMap_cons]
        rw [ih fun c hc => hl c (List.mem_cons_of_mem _ hc)]
        congr 1
        cases c with
        | ptr k off => exact one k off (hl _ (List.mem_cons_self ..) k (by simp [nm]))
        | _ => rfl
    exact this caps hc
  | _ => rfl

theorem flatKeys_on {S : Nat → Prop} {H H' : Heap} (h : On S H H') : ∀ vs : List AV, Reads S H vs → vs.flatMap (keysV H') = vs.flatMap (keysV H) := by
  intro vs
  induction vs with
  | nil => intro _; rfl
  | cons v vs ih => intro hv; simp only [List.flatMap_cons, keysV_on h v hv.cons.1, ih hv.cons.2]

theorem hasAny_on {H H' : Heap} : ∀ {ps : List (Nat × Obj)}, (∀ j ∈ ps.map (·.1), hget H' j = hget H j) → hasAny H' ps = hasAny H ps := by
  intro ps
  induction ps with
  | nil => intro _; rfl
  | cons p ps ih =>
    intro h
    obtain ⟨k, o⟩ := p
    simp only [hasAny]
    rw [h k (by simp), ih fun j hj => h j (by simp only [List.map_cons, List.mem_cons]; exact .inr hj)]

theorem callR_on {S : Nat → Prop} {d : Nat} {H H' : Heap} {vs : List AV} {pre n : Prop} {a r : Ty} {y : den r} {v : AV} {e : Eff} (hr : callR d H vs pre a r y = .ok n v e) (h : On S H H') (hv : Reads S H vs)
    (hw : ∀ j ∈ e.put.map (·.1) ++ e.del, hget H' j = hget H j) : callR d H' vs pre a r y = .ok n v e := by
  unfold callR at hr ⊢
  split at hr
  · cases hr
  · rename_i hc
    cases hr
    rw [hasAny_on (H := H) (H' := H') fun j hj => hw j (List.mem_append_left _ hj), if_neg hc, flatKeys_on h vs hv]

theorem free1_nm {c : AV} (h : free1 c = true) : nm c = [] := by cases c <;> simp [free1, nm] at h ⊢
theorem freeA_nm {v : AV} (h : freeA v = true) : nm v = [] := by
  cases v with
  | agg cs =>
    simp only [freeA] at h
    simp only [nm]
    induction cs with
    | nil => rfl
    | cons c cs ih =>
      simp only [List.all_cons, Bool.and_eq_true] at h
      simp only [nmL, free1_nm h.1, List.nil_append]
      exact ih h.2
  | _ => exact free1_nm (by simpa [freeA] using h)
theorem toCells_free {H H' : Heap} {t : Ty} {c : AV} (h : free1 c = true) : toCells H' t [c] = toCells H t [c] :=
  toCells_on (S := fun _ => False) (fun k hk => hk.elim) t [c] (by simp [nmL, free1_nm h]) (.inr (by simp [nmL, free1_nm h]))
theorem toV_free {H H' : Heap} {t : Ty} {v : AV} (h : freeA v = true) : toV H' t v = toV H t v :=
  toV_on (S := fun _ => False) (fun k hk => hk.elim) t v ⟨by simp [nmL, freeA_nm h], by simp [nmL, freeA_nm h]⟩
theorem takeC_on {H H' : Heap} {t : Ty} : ∀ {cs : List AV} {x : den t} {ks : List Nat} {r : List AV}, takeC H t cs = some (x, ks, r) → (∀ k ∈ ks, hget H' k = hget H k) → takeC H' t cs = some (x, ks, r) := by
  induction t with
  | olist t _ =>
    intro cs x ks r h hk
    cases cs with
    | nil => simp [takeC] at h
    | cons c cs =>
      cases c with
      | own k lo n =>
        simp only [takeC] at h ⊢
        split at h
        · rename_i t' xs hkk
          split at h
          · rename_i ys hys
            cases h
            rw [hk k (by simp), hkk]
            simp only [hys]
          · cases h
        · cases h
      | _ => simp [takeC] at h
  | unit => intro cs x ks r h _; simpa only [takeC] using h
  | pair s b iha ihb =>
    intro cs x ks r h hk
    simp only [takeC] at h ⊢
    split at h
    · rename_i y ks1 cs1 h1
      split at h
      · rename_i z ks2 cs2 h2
        cases h
        rw [iha h1 (fun k hk1 => hk k (List.mem_append_left _ hk1))]
        simp only
        rw [ihb h2 (fun k hk1 => hk k (List.mem_append_right _ hk1))]
      · cases h
    · cases h
  | _ =>
    intro cs x ks r h hk
    rcases cs with _ | ⟨c, cs⟩
    · simp [takeC] at h
    · simp only [takeC] at h ⊢
      split at h
      · rename_i hc
        rw [if_pos hc]
        simp only [Bool.and_eq_true] at hc
        rw [toCells_free (H := H) hc.1]
        exact h
      · cases h
theorem takeM_on {H H' : Heap} {ty : Ty} : ∀ {ms : List Mk} {vs : List AV} {x : den ty} {ks bs gs : List Nat}, takeM H ty ms vs = some (x, ks, bs, gs) → (∀ k, k ∈ ks ++ (gs ++ bs) → hget H' k = hget H k) → takeM H' ty ms vs = some (x, ks, bs, gs) := by
  induction ty with
  | unit =>
    intro ms vs x ks bs gs h _
    cases ms <;> cases vs <;> simp_all [takeM]
  | pair t b _ ih =>
    intro ms vs x ks bs gs h hk
    cases ms with
    | nil => simp [takeM] at h
    | cons m ms =>
      cases vs with
      | nil => cases m <;> simp [takeM] at h
      | cons v vs =>
        cases m with
        | no =>
          simp only [takeM] at h ⊢
          split at h
          · rename_i hc
            rw [if_pos hc]
            simp only [Bool.and_eq_true] at hc
            rw [toV_free (H := H) hc.1]
            split at h
            · rename_i y hy
              split at h
              · rename_i z ks' bs' gs' hz
                cases h
                rw [ih hz hk]
              · cases h
            · cases h
          · cases h
        | own =>
          simp only [takeM] at h ⊢
          split at h
          · rename_i y ks1 hy
            split at h
            · rename_i z ks' bs' gs' hz
              cases h
              rw [takeC_on hy (fun k h1 => hk k (by simp [h1]))]
              simp only
              rw [ih hz (fun k h1 => hk k (by simp only [List.mem_append] at h1 ⊢; exact h1.elim (fun h1 => .inl (.inr h1)) .inr))]
            · cases h
          · cases h
        | box =>
          cases t with
          | ref t =>
            cases v with
            | ptr k off =>
              cases off with
              | zero =>
                simp only [takeM] at h ⊢
                split at h
                · rename_i cs hkk
                  split at h
                  · rename_i y ks1 hy
                    split at h
                    · rename_i z ks' bs' gs' hz
                      cases h
                      rw [hk k (by simp), hkk]
                      simp only
                      rw [takeC_on hy (fun k h1 => hk k (by simp [h1]))]
                      simp only
                      rw [ih hz (fun k h1 => hk k (by
                        simp only [List.mem_append, List.mem_cons] at h1 ⊢
                        rcases h1 with h1 | h1 | h1
                        · exact .inl (.inr h1)
                        · exact .inr (.inl h1)
                        · exact .inr (.inr (.inr h1))))]
                    · cases h
                  · cases h
                · cases h
              | succ n => simp [takeM] at h
            | _ => simp [takeM] at h
          | _ => simp [takeM] at h
        | gone =>
          cases t with
          | ref t =>
            cases v with
            | ptr k off =>
              cases off with
              | zero =>
                simp only [takeM] at h ⊢
                split at h
                · rename_i cs hkk
                  split at h
                  · rename_i y ks1 hy
                    split at h
                    · rename_i z ks' bs' gs' hz
                      cases h
                      rw [hk k (by simp), hkk]
                      simp only
                      rw [takeC_on hy (fun k h1 => hk k (by simp [h1]))]
                      simp only
                      rw [ih hz (fun k h1 => hk k (by
                        simp only [List.mem_append, List.mem_cons] at h1 ⊢
                        rcases h1 with h1 | h1 | h1
                        · exact .inl (.inr h1)
                        · exact .inr (.inl (.inr h1))
                        · exact .inr (.inr h1)))]
                    · cases h
                  · cases h
                · cases h
              | succ n => simp [takeM] at h
            | _ => simp [takeM] at h
          | _ => simp [takeM] at h
  | _ => intro ms vs x ks bs gs h; cases ms <;> cases vs <;> simp [takeM] at h
theorem callM_on {d : Nat} {fn : Fn} {ms : List Mk} {H H' : Heap} {vs : List AV} {n : Prop} {v : AV} {e : Eff} (hr : callM d fn ms H vs = .ok n v e)
    (hw : ∀ j ∈ e.put.map (·.1) ++ e.del, hget H' j = hget H j) : callM d fn ms H' vs = .ok n v e := by
  unfold callM callMR at hr
  split at hr
  · rename_i x ks bs gs htk
    split at hr
    · rename_i hc
      cases hr
      have hput : ∀ k ∈ bs, hget H' k = hget H k := fun k hk => hw k (by
        simp only [List.map_append, List.map_map, List.mem_append]
        left; right
        exact List.mem_map.2 ⟨k, hk, rfl⟩)
      unfold callM callMR
      rw [takeM_on htk (fun k hk => by
        simp only [List.mem_append] at hk
        rcases hk with hk | hk | hk
        · exact hw k (by simp [hk])
        · exact hw k (by simp [hk])
        · exact hput k hk)]
      simp only
      rw [if_pos]
      refine ⟨hc.1, hc.2.1, ?_, hc.2.2.2⟩
      rw [hasAny_on (H := H) (H' := H') fun j hj => hw j (by
        simp only [List.map_append, List.mem_append] at hj ⊢
        left; left
        exact hj)]
      exact hc.2.2.1
    · cases hr
  · cases hr

theorem callF_on {S : Nat → Prop} {T : Tab} {d f : Nat} {H H' : Heap} {vs : List AV} {n : Prop} {v : AV} {e : Eff} (hr : callF T d f H vs = .ok n v e) (h : On S H H') (hv : Reads S H vs)
    (hw : ∀ j ∈ e.put.map (·.1) ++ e.del, hget H' j = hget H j) : callF T d f H' vs = .ok n v e := by
  unfold callF at hr ⊢
  split at hr
  · rename_i fn hfn
    split at hr
    · rename_i hkd
      split at hr
      · rename_i x hx
        rw [toArgs_on h _ _ hv, hx]
        exact callR_on hr h hv hw
      · cases hr
    · rename_i ms hkd
      exact callM_on hr hw
  · cases hr

theorem Reads.nil {S : Nat → Prop} {H : Heap} : Reads S H [] := by simp [Reads, nmL]
theorem Reads.mem {S : Nat → Prop} {H : Heap} {v : AV} {vs : List AV} (h : Reads S H vs) (hv : v ∈ vs) : Reads S H [v] := by
  refine ⟨fun k hk => h.1 k (mem_nmL hv (by simpa [nmL] using hk)), fun k hk => h.2 k (mem_nmL hv (by simpa [nmL] using hk))⟩
theorem Reads.app {S : Nat → Prop} {H : Heap} {vs us : List AV} (h : Reads S H vs) (h' : Reads S H us) : Reads S H (vs ++ us) := by
  obtain ⟨h1, h2⟩ := h
  obtain ⟨h3, h4⟩ := h'
  constructor
  · intro k hk; rw [nmL_app, List.mem_append] at hk; exact hk.elim (h1 k) (h3 k)
  · intro k hk; rw [nmL_app, List.mem_append] at hk; exact hk.elim (h2 k) (h4 k)

theorem keysC_nm {cs : List AV} {k : Nat} (h : k ∈ keysC cs) : k ∈ nmL cs := by
  unfold keysC at h
  simp only [List.mem_flatMap] at h
  obtain ⟨c, hc, hk⟩ := h
  refine mem_nmL hc ?_
  cases c <;> simp [keys1] at hk
  subst hk; simp [nm]

/-- only own slices are looked through where no pointer is asked for -/
theorem toCells_keys {S : Nat → Prop} {H H' : Heap} (h : On S H H') {t : Ty} : ∀ {cs : List AV}, noRef t = true → (∀ k ∈ keysC cs, S k) → toCells H' t cs = toCells H t cs := by
  induction t with
  | list t _ => intro cs _ h1; cases cs with
    | nil => rfl
    | cons c cs =>
      have : slOf H' t c = slOf H t c := by
        cases c with
        | own k lo n => exact slOf_on h t _ fun j hj => h1 j (by rw [keysC_cons]; simp only [nm] at hj; exact List.mem_append_left _ (by simpa [keys1] using hj))
        | _ => rfl
      simp only [toCells, this]
  | pair a b iha ihb =>
    intro cs hn h1
    simp only [noRef, Bool.and_eq_true] at hn
    simp only [toCells, iha hn.1 h1]
    cases hc : toCells H a cs with
    | none => rfl
    | some p =>
      obtain ⟨x, cs1⟩ := p
      obtain ⟨q, rfl⟩ := toCells_tail hc
      simp only
      rw [ihb hn.2 fun k hk => h1 k (by unfold keysC at hk ⊢; rw [List.flatMap_append]; exact List.mem_append_right _ hk)]
  | ref t _ => intro cs hn; simp [noRef] at hn
  | flist t _ => intro cs _ _; cases cs with
    | nil => rfl
    | cons c cs => cases c with
      | sl t' xs f => cases f <;> rfl
      | _ => rfl
  | unit => intro cs _ _; rfl
  | _ => intro cs _ _; cases cs with
    | nil => rfl
    | cons c cs => cases c <;> rfl

theorem run_on {S : Nat → Prop} {T : Tab} {d : Nat} {H H' : Heap} {k : K} {vs : List AV} {n : Prop} {v : AV} {e : Eff} (hr : run T d H k vs = .ok n v e) (h : On S H H') (hv : ReadsK S H k vs)
    (hw : ∀ j ∈ e.put.map (·.1) ++ e.del, hget H' j = hget H j) : run T d H' k vs = .ok n v e := by
  unfold run at hr
  split at hr
  · exact hr
  · -- box
    split at hr
    · rename_i hc
      cases hr
      simp only [run]
      rw [hw d (by simp), if_pos hc]
    · cases hr
  · split at hr
    · rename_i hc
      cases hr
      simp only [run]
      rw [hw d (by simp), if_pos hc]
    · cases hr
  · split at hr
    · rename_i hc
      cases hr
      simp only [run]
      rw [hw d (by simp), if_pos hc]
    · cases hr
  · -- load
    rename_i p
    simp only [run]
    cases p with
    | ptr k off =>
      simp only [loadR] at hr ⊢
      split at hr
      · rename_i cs hk
        rw [(box_on h (hv.1 k (by simp [nmL, nm]))).2 hk]
        exact hr
      · cases hr
    | rptr k i off =>
      simp only [loadR] at hr ⊢
      split at hr
      · rename_i t xs f hk
        obtain ⟨f', e⟩ := row_on h (hv.1 k (by simp [nmL, nm])) hk
        rw [e]
        exact hr
      · cases hr
    | el t x off => simp only [loadR] at hr ⊢; exact hr
    | _ => simp [loadR] at hr
  · -- store
    rename_i p x
    simp only [run]
    cases p with
    | ptr k off =>
      simp only [storeR] at hr ⊢
      split at hr
      · rename_i hc
        rw [if_pos hc]
        split at hr
        · rename_i cs hk
          split at hr
          · rename_i cs' hl
            cases hr
            rw [hw k (by simp), hk]
            simp only [hl]
          · cases hr
        · cases hr
      · cases hr
    | rptr k i off =>
      simp only [storeR] at hr ⊢
      split at hr
      · rename_i hc
        rw [if_pos hc]
        split at hr
        · rename_i t xs hk
          split at hr
          · rename_i hnr
            split at hr
            · rename_i cs' hl
              split at hr
              · rename_i y hy
                split at hr
                · cases hr
                · rename_i hkk
                  cases hr
                  rw [hw k (by simp), hk]
                  have : toCells H' t cs' = toCells H t cs' := toCells_keys h hnr fun j hj => by
                    rcases keys_lay hl j hj with hj | hj
                    · have := keys1_cells j hj; simp [keysC] at this
                    · refine hv.1 j ?_
                      have := keysC_nm hj
                      rw [nm_cellsOf] at this
                      simp [nmL, this]
                  simp only [hnr, hl, this, hy, if_true]
                  rw [if_neg hkk]
              · cases hr
            · cases hr
          · cases hr
        · cases hr
      · cases hr
    | _ => simp [storeR] at hr
  · simp only [run]; exact hr
  · -- idx
    rename_i x i
    simp only [run]
    cases x with
    | sl t xs f => cases i <;> simp only [idxR] at hr ⊢ <;> exact hr
    | own k lo len =>
      cases i with
      | int kk i =>
        simp only [idxR] at hr ⊢
        split at hr
        · rename_i t xs f hk
          obtain ⟨f', e⟩ := row_on h (hv.1 k (by simp [nmL, nm])) hk
          rw [e]
          exact hr
        · cases hr
      | _ => simp [idxR] at hr
    | _ => cases i <;> simp [idxR] at hr
  · simp only [run]; exact hr
  · -- aidx of a row
    rename_i S' n' k kk i
    simp only [run]
    split at hr
    · rename_i t xs f hk
      obtain ⟨f', e⟩ := row_on h (hv.1 k (by simp [nmL, nm])) hk
      rw [e]
      exact hr
    · cases hr
  · simp only [run]; exact hr
  · simp only [run]; exact hr
  · simp only [run]; exact hr
  · simp only [run]; exact hr
  · simp only [run]; exact hr
  · simp only [run]; exact hr
  · simp only [run]; exact hr
  · -- bslice
    split at hr
    · rename_i hl
      split at hr
      · rename_i xs hd
        cases hr
        simp only [run]
        have hv : Reads S H vs := ⟨hv.1, hv.2 rfl⟩
        rw [if_pos hl, dataAll_on h _ _ hv, hd]
        simp only [flatKeys_on h vs hv]
      · cases hr
    · cases hr
  · -- mks
    split at hr
    · rename_i hc
      cases hr
      simp only [run]
      rw [hw d (by simp), if_pos hc]
    · cases hr
  · -- slc
    rename_i S' lo hi mx x us
    simp only [run]
    cases x with
    | sl t xs f => simp only [slcR] at hr ⊢; exact hr
    | own k lo0 len =>
      simp only [slcR] at hr ⊢
      split at hr
      · rename_i t xs f hk
        obtain ⟨f', e⟩ := row_on h (hv.1 k (by simp [nmL, nm])) hk
        rw [e]
        exact hr
      · cases hr
    | _ => simp [slcR] at hr
  · simp only [run]; exact hr
  · simp only [run]; exact hr
  · simp only [run]; exact hr
  · simp only [run]; exact hr
  · -- append
    rename_i S' b s x
    simp only [run]
    have hx : ∀ t, slOf H' t x = slOf H t x := fun t => slOf_on h t x fun j hj => hv.1 j (by simp [nmL, hj])
    cases s with
    | sl t xs f =>
      cases f with
      | false => simp [appR] at hr
      | true =>
        simp only [appR] at hr ⊢
        split at hr
        · rename_i hc
          split at hr
          · rename_i ys hy
            cases hr
            rw [hw d (by simp), if_pos hc, hx, hy]
          · cases hr
        · cases hr
    | own k lo len =>
      simp only [appR] at hr ⊢
      split at hr
      · rename_i t xs hk
        split at hr
        · rename_i hc
          split at hr
          · rename_i ys hy
            cases hr
            rw [hw k (by simp), hk]
            simp only
            rw [hw d (by simp), if_pos hc, hx, hy]
          · cases hr
        · cases hr
      · cases hr
    | _ => simp [appR] at hr
  · simp only [run]; exact hr
  · simp only [run]; exact hr
  · simp only [run]; exact hr
  · simp only [run]; exact callF_on hr h ⟨hv.1, hv.2 rfl⟩ hw
  · -- a closure
    rename_i f caps us
    have hv : Reads S H (.clo f caps :: us) := ⟨hv.1, hv.2 rfl⟩
    simp only [run]
    refine callF_on hr h ?_ hw
    exact hv.cons.2.app (by simpa [Reads, nmL, nm] using hv.cons.1)
  · -- a function value
    rename_i a r p us
    have hv : Reads S H (.fv a r p :: us) := ⟨hv.1, hv.2 rfl⟩
    simp only [run]
    split at hr
    · rename_i hok
      split at hr
      · rename_i x hx
        rw [if_pos hok, toArgs_on h _ _ hv.cons.2, hx]
        exact callR_on hr h hv.cons.2 hw
      · cases hr
    · cases hr
  · simp only [run]; exact hr
  · simp only [run]; exact hr
  · simp only [run]; exact hr
  · simp only [run]; exact hr
  · -- a new map
    split at hr
    · rename_i hc
      cases hr
      simp only [run]
      rw [hw d (by simp), if_pos hc]
    · cases hr
  · -- what a map holds
    rename_i k x
    simp only [run]
    split at hr
    · rename_i m hk
      rw [(mp_on h (hv.1 k (by simp [nmL, nm]))).2 hk]
      exact hr
    · cases hr
  · -- a map is written
    rename_i k x v'
    simp only [run]
    split at hr
    · rename_i m hk
      cases hr
      rw [hw k (by simp), hk]
    · cases hr
  · cases hr
end Go.AM

set_option linter.unusedSimpArgs false
set_option linter.constructorNameAsVariable false
namespace Go.AM

/-! ### what a step leaves, slot by slot -/
def killsV : List Nat → AV → AV
  | [], v => v
  | k :: ks, v => killsV ks (killV k v)
def killsO : List Nat → Obj → Obj
  | [], o => o
  | k :: ks, o => killsO ks (killO k o)
def frzO : Obj → Obj
  | .row t xs _ => .row t xs true
  | .box cs => .box cs
  | .mp m => .mp m
def lastPut : List (Nat × Obj) → Nat → Option Obj
  | [], _ => none
  | (k, o) :: ps, j => match lastPut ps j with
    | some o' => some o'
    | none => if j = k then some o else none

theorem eget_kill (ks : List Nat) : ∀ (σ : St) (t : Nat), eget (St.kill σ ks).env t = killsV ks (eget σ.env t) := by
  induction ks with
  | nil => intro σ t; rfl
  | cons k ks ih => intro σ t; simp only [St.kill, killsV]; rw [ih]; simp only [eget_killE]
theorem hget_kills (ks : List Nat) : ∀ (σ : St) (j : Nat), hget (St.kill σ ks).heap j = if j ∈ ks then none else (hget σ.heap j).map (killsO ks) := by
  induction ks with
  | nil => intro σ j; simp [St.kill, killsO]
  | cons k ks ih =>
    intro σ j
    simp only [St.kill]
    rw [ih]
    simp only [List.mem_cons]
    by_cases e : j = k
    · subst e
      simp only [true_or, if_true]
      rw [hget_killH, hget_hdel, if_pos rfl]
      split <;> rfl
    · simp only [e, false_or]
      rw [hget_kill k σ.heap j e]
      split
      · rfl
      · cases hget σ.heap j <;> rfl
theorem hget_frzH (ks : List Nat) : ∀ (H : Heap) (j : Nat), hget (frzH H ks) j = if j ∈ ks then (hget H j).map frzO else hget H j := by
  induction ks with
  | nil => intro H j; rfl
  | cons k ks ih =>
    intro H j
    simp only [frzH, List.mem_cons]
    split
    · rename_i t xs f hk
      rw [ih]
      by_cases e : j = k
      · subst e
        rw [hget_hput_self, hk]
        simp [frzO]
      · rw [hget_hput_ne _ _ _ _ e]
        simp [e]
    · rename_i hk
      rw [ih]
      by_cases e : j = k
      · subst e
        simp only [true_or, if_true]
        have : (hget H j).map frzO = hget H j := by
          cases ho : hget H j with
          | none => rfl
          | some o => cases o with
            | box cs => rfl
            | mp m => rfl
            | row t xs f => exact absurd ho (hk t xs f)
        rw [this]; split <;> rfl
      · simp [e]
theorem hget_putAll : ∀ (ps : List (Nat × Obj)) (H : Heap) (j : Nat), hget (putAll H ps) j = match lastPut ps j with | some o => some o | none => hget H j := by
  intro ps
  induction ps with
  | nil => intro H j; rfl
  | cons p ps ih =>
    intro H j
    obtain ⟨k, o⟩ := p
    simp only [putAll, lastPut]
    rw [ih]
    cases lastPut ps j with
    | some o' => rfl
    | none =>
      simp only
      rw [hget_hput]
      split <;> rfl
theorem lastPut_none {ps : List (Nat × Obj)} {j : Nat} (h : j ∉ ps.map (·.1)) : lastPut ps j = none := by
  induction ps with
  | nil => rfl
  | cons p ps ih =>
    obtain ⟨k, o⟩ := p
    simp only [List.map_cons, List.mem_cons, not_or] at h
    simp only [lastPut, ih h.2]
    rw [if_neg h.1]
theorem lastPut_some {ps : List (Nat × Obj)} {j : Nat} (h : j ∈ ps.map (·.1)) : ∃ o, lastPut ps j = some o ∧ (j, o) ∈ ps := by
  induction ps with
  | nil => simp at h
  | cons p ps ih =>
    obtain ⟨k, o⟩ := p
    simp only [lastPut]
    by_cases hm : j ∈ ps.map (·.1)
    · obtain ⟨o', h1, h2⟩ := ih hm
      exact ⟨o', by rw [h1], List.mem_cons_of_mem _ h2⟩
    · rw [lastPut_none hm]
      simp only [List.map_cons, List.mem_cons] at h
      rcases h with rfl | h
      · exact ⟨o, by simp, List.mem_cons_self ..⟩
      · exact absurd h hm

def updObj (e : Eff) (k : Nat) (o : Option Obj) : Option Obj :=
  match lastPut e.put k with
  | some o' => some o'
  | none => if k ∈ e.del then none else (if k ∈ e.frz then o.map frzO else o).map (killsO e.del)

theorem hget_upd (σ : St) (d : Option Nat) (v : AV) (e : Eff) (k : Nat) : hget (σ.upd d v e).heap k = updObj e k (hget σ.heap k) := by
  simp only [St.upd, St.eff, updObj]
  rw [hget_putAll, hget_kills]
  simp only
  rw [hget_frzH]
theorem eget_upd (σ : St) (d : Option Nat) (v : AV) (e : Eff) (t : Nat) : eget (σ.upd d v e).env t = if d = some t then v else killsV e.del (eget σ.env t) := by
  simp only [St.upd, St.eff]
  cases d with
  | none => simp only [setE, eget_kill]; simp
  | some d =>
    simp only [setE, eget_put]
    by_cases h : d = t
    · subst h; simp
    · rw [if_neg h, if_neg (by simpa using h), eget_kill]

/-! ### kills -/
mutual
theorem killV_id (k : Nat) : ∀ v : AV, k ∉ nm v → killV k v = v
  | .undef, _ => rfl
  | .nilf, _ => rfl
  | .int _ _, _ => rfl
  | .bool _, _ => rfl
  | .str _, _ => rfl
  | .sl _ _ _, _ => rfl
  | .own k' a b, h => by simp only [nm, List.mem_singleton] at h; simp only [killV]; rw [if_neg fun e => h e.symm]
  | .ptr k' a, h => by simp only [nm, List.mem_singleton] at h; simp only [killV]; rw [if_neg fun e => h e.symm]
  | .pn k' a, h => by simp only [nm, List.mem_singleton] at h; simp only [killV]; rw [if_neg fun e => h e.symm]
  | .mp k', h => by simp only [nm, List.mem_singleton] at h; simp only [killV]; rw [if_neg fun e => h e.symm]
  | .rptr k' a b, h => by simp only [nm, List.mem_singleton] at h; simp only [killV]; rw [if_neg fun e => h e.symm]
  | .el _ _ _, _ => rfl
  | .agg cs, h => by simp only [nm] at h; simp only [killV, killL_id k cs h]
  | .tup cs, h => by simp only [nm] at h; simp only [killV, killL_id k cs h]
  | .clo f cs, h => by simp only [nm] at h; simp only [killV, killL_id k cs h]
  | .fv _ _ _, _ => rfl
  | .g b v, h => by simp only [nm] at h; simp only [killV, killV_id k v h]
theorem killL_id (k : Nat) : ∀ cs : List AV, k ∉ nmL cs → killL k cs = cs
  | [], _ => rfl
  | c :: cs, h => by simp only [nmL, List.mem_append, not_or] at h; simp only [killL, killV_id k c h.1, killL_id k cs h.2]
end
mutual
theorem killV_comm (j k : Nat) : ∀ v : AV, killV j (killV k v) = killV k (killV j v)
  | .undef => rfl
  | .nilf => rfl
  | .int _ _ => rfl
  | .bool _ => rfl
  | .str _ => rfl
  | .sl _ _ _ => rfl
  | .own k' a b => by simp only [killV]; by_cases e : k' = k <;> by_cases e' : k' = j <;> simp [killV, e, e'] <;> simp_all [killV]
  | .ptr k' a => by simp only [killV]; by_cases e : k' = k <;> by_cases e' : k' = j <;> simp [killV, e, e'] <;> simp_all [killV]
  | .pn k' a => by simp only [killV]; by_cases e : k' = k <;> by_cases e' : k' = j <;> simp [killV, e, e'] <;> simp_all [killV]
  | .mp k' => by simp only [killV]; by_cases e : k' = k <;> by_cases e' : k' = j <;> simp [killV, e, e'] <;> simp_all [killV]
  | .rptr k' a b => by simp only [killV]; by_cases e : k' = k <;> by_cases e' : k' = j <;> simp [killV, e, e'] <;> simp_all [killV]
  | .el _ _ _ => rfl
  | .agg cs => by simp only [killV, killL_comm j k cs]
  | .tup cs => by simp only [killV, killL_comm j k cs]
  | .clo f cs => by simp only [killV, killL_comm j k cs]
  | .fv _ _ _ => rfl
  | .g b v => by simp only [killV, killV_comm j k v]
theorem killL_comm (j k : Nat) : ∀ cs : List AV, killL j (killL k cs) = killL k (killL j cs)
  | [] => rfl
  | c :: cs => by simp only [killL, killV_comm j k c, killL_comm j k cs]
end
mutual
theorem nm_killV (k : Nat) : ∀ (v : AV) (j : Nat), j ∈ nm (killV k v) → j ∈ nm v
  | .undef, j, h => h
  | .nilf, j, h => h
  | .int _ _, j, h => h
  | .bool _, j, h => h
  | .str _, j, h => h
  | .sl _ _ _, j, h => h
  | .own k' a b, j, h => by simp only [killV] at h; split at h <;> simp_all [nm]
  | .ptr k' a, j, h => by simp only [killV] at h; split at h <;> simp_all [nm]
  | .pn k' a, j, h => by simp only [killV] at h; split at h <;> simp_all [nm]
  | .mp k', j, h => by simp only [killV] at h; split at h <;> simp_all [nm]
  | .rptr k' a b, j, h => by simp only [killV] at h; split at h <;> simp_all [nm]
  | .el _ _ _, j, h => h
  | .agg cs, j, h => by simp only [killV, nm] at h ⊢; exact nmL_killL k cs j h
  | .tup cs, j, h => by simp only [killV, nm] at h ⊢; exact nmL_killL k cs j h
  | .clo f cs, j, h => by simp only [killV, nm] at h ⊢; exact nmL_killL k cs j h
  | .fv _ _ _, j, h => h
  | .g b v, j, h => by simp only [killV, nm] at h ⊢; exact nm_killV k v j h
theorem nmL_killL (k : Nat) : ∀ (cs : List AV) (j : Nat), j ∈ nmL (killL k cs) → j ∈ nmL cs
  | [], j, h => h
  | c :: cs, j, h => by
    simp only [killL, nmL, List.mem_append] at h ⊢
    exact h.imp (nm_killV k c j) (nmL_killL k cs j)
end
mutual
theorem nm_killV_ne (k : Nat) : ∀ (v : AV) (j : Nat), j ≠ k → j ∈ nm v → j ∈ nm (killV k v)
  | .undef, j, _, h => h
  | .nilf, j, _, h => h
  | .int _ _, j, _, h => h
  | .bool _, j, _, h => h
  | .str _, j, _, h => h
  | .sl _ _ _, j, _, h => h
  | .own k' a b, j, e, h => by simp only [nm, List.mem_singleton] at h; subst h; simp [killV, e, nm]
  | .ptr k' a, j, e, h => by simp only [nm, List.mem_singleton] at h; subst h; simp [killV, e, nm]
  | .pn k' a, j, e, h => by simp only [nm, List.mem_singleton] at h; subst h; simp [killV, e, nm]
  | .mp k', j, e, h => by simp only [nm, List.mem_singleton] at h; subst h; simp [killV, e, nm]
  | .rptr k' a b, j, e, h => by simp only [nm, List.mem_singleton] at h; subst h; simp [killV, e, nm]
  | .el _ _ _, j, _, h => h
  | .agg cs, j, e, h => by simp only [killV, nm] at h ⊢; exact nmL_killL_ne k cs j e h
  | .tup cs, j, e, h => by simp only [killV, nm] at h ⊢; exact nmL_killL_ne k cs j e h
  | .clo f cs, j, e, h => by simp only [killV, nm] at h ⊢; exact nmL_killL_ne k cs j e h
  | .fv _ _ _, j, _, h => h
  | .g b v, j, e, h => by simp only [killV, nm] at h ⊢; exact nm_killV_ne k v j e h
theorem nmL_killL_ne (k : Nat) : ∀ (cs : List AV) (j : Nat), j ≠ k → j ∈ nmL cs → j ∈ nmL (killL k cs)
  | [], j, _, h => h
  | c :: cs, j, e, h => by
    simp only [killL, nmL, List.mem_append] at h ⊢
    exact h.imp (nm_killV_ne k c j e) (nmL_killL_ne k cs j e)
end
theorem killsV_id {ks : List Nat} : ∀ {v : AV}, (∀ k ∈ ks, k ∉ nm v) → killsV ks v = v := by
  induction ks with
  | nil => intro v _; rfl
  | cons k ks ih =>
    intro v h
    simp only [killsV, killV_id k v (h k (List.mem_cons_self ..))]
    exact ih fun j hj => h j (List.mem_cons_of_mem _ hj)
theorem killsV_comm1 (k : Nat) {ks : List Nat} : ∀ {v : AV}, killsV ks (killV k v) = killV k (killsV ks v) := by
  induction ks with
  | nil => intro v; rfl
  | cons j ks ih => intro v; simp only [killsV, killV_comm j k v, ih]
theorem killsV_comm {js ks : List Nat} : ∀ {v : AV}, killsV js (killsV ks v) = killsV ks (killsV js v) := by
  induction js with
  | nil => intro v; rfl
  | cons j js ih => intro v; simp only [killsV, ← killsV_comm1 j (ks := ks), ih]
theorem nm_killsV {ks : List Nat} : ∀ {v : AV} {j : Nat}, j ∈ nm (killsV ks v) → j ∈ nm v := by
  induction ks with
  | nil => intro v j h; exact h
  | cons k ks ih => intro v j h; exact nm_killV k v j (ih h)
theorem nm_killsV_ne {ks : List Nat} : ∀ {v : AV} {j : Nat}, j ∉ ks → j ∈ nm v → j ∈ nm (killsV ks v) := by
  induction ks with
  | nil => intro v j _ h; exact h
  | cons k ks ih =>
    intro v j hj h
    simp only [List.mem_cons, not_or] at hj
    exact ih hj.2 (nm_killV_ne k v j hj.1 h)
theorem killO_box (k : Nat) (cs : List AV) : killO k (.box cs) = .box (killL k cs) := rfl
theorem killsO_row {ks : List Nat} {t : Ty} {xs : List (den t)} {f : Bool} : killsO ks (.row t xs f) = .row t xs f := by
  induction ks with
  | nil => rfl
  | cons k ks ih => simpa [killsO, killO] using ih
theorem killsO_mp {ks : List Nat} {m : List (Int × Int)} : killsO ks (.mp m) = .mp m := by
  induction ks with
  | nil => rfl
  | cons k ks ih => simpa [killsO, killO] using ih
def killsL : List Nat → List AV → List AV
  | [], cs => cs
  | k :: ks, cs => killsL ks (killL k cs)
theorem killsO_box {ks : List Nat} : ∀ {cs : List AV}, killsO ks (.box cs) = .box (killsL ks cs) := by
  induction ks with
  | nil => intro cs; rfl
  | cons k ks ih => intro cs; simp only [killsO, killO, killsL, ih]
theorem killsL_id {ks : List Nat} : ∀ {cs : List AV}, (∀ k ∈ ks, k ∉ nmL cs) → killsL ks cs = cs := by
  induction ks with
  | nil => intro v _; rfl
  | cons k ks ih =>
    intro v h
    simp only [killsL, killL_id k v (h k (List.mem_cons_self ..))]
    exact ih fun j hj => h j (List.mem_cons_of_mem _ hj)
theorem killsL_comm1 (k : Nat) {ks : List Nat} : ∀ {v : List AV}, killsL ks (killL k v) = killL k (killsL ks v) := by
  induction ks with
  | nil => intro v; rfl
  | cons j ks ih => intro v; simp only [killsL, killL_comm j k v, ih]
theorem killsL_comm {js ks : List Nat} : ∀ {v : List AV}, killsL js (killsL ks v) = killsL ks (killsL js v) := by
  induction js with
  | nil => intro v; rfl
  | cons j js ih => intro v; simp only [killsL, ← killsL_comm1 j (ks := ks), ih]
theorem nmL_killsL {ks : List Nat} : ∀ {v : List AV} {j : Nat}, j ∈ nmL (killsL ks v) → j ∈ nmL v := by
  induction ks with
  | nil => intro v j h; exact h
  | cons k ks ih => intro v j h; exact nmL_killL k v j (ih h)
theorem killsO_id {ks : List Nat} {o : Obj} (h : ∀ k ∈ ks, k ∉ nmO (some o)) : killsO ks o = o := by
  cases o with
  | box cs => rw [killsO_box, killsL_id h]
  | row t xs f => exact killsO_row
  | mp m => exact killsO_mp
theorem killsO_comm {js ks : List Nat} {o : Obj} : killsO js (killsO ks o) = killsO ks (killsO js o) := by
  cases o with
  | box cs => simp only [killsO_box, killsL_comm]
  | row t xs f => simp only [killsO_row]
  | mp m => simp only [killsO_mp]
theorem frzO_kills {ks : List Nat} {o : Obj} : frzO (killsO ks o) = killsO ks (frzO o) := by
  cases o with
  | box cs => simp only [killsO_box, frzO]
  | row t xs f => simp only [killsO_row, frzO]
  | mp m => simp only [killsO_mp, frzO]
end Go.AM

set_option linter.unusedSimpArgs false
set_option linter.constructorNameAsVariable false
namespace Go.AM

/-- One operation of a region, as it went in the text's order. -/
structure TE where
  o : AOp
  n : Prop
  v : AV
  e : Eff
  /-- keys that it depends on -/
  rd : List Nat
  /-- slots, boxes that its deletions clear -/
  kt : List Nat
  kb : List Nat

def TE.wr (t : TE) : List Nat := t.e.keys ++ t.kb

structure TE.OK (T : Tab) (σ : St) (t : TE) : Prop where
  ev : ev T t.o σ = .ok t.n t.v t.e
  rd : t.rd = rdOf σ t.o t.v t.e
  kt : ∀ i k, k ∈ t.e.del → k ∈ nm (eget σ.env i) → i ∈ t.kt
  kb : ∀ i k, k ∈ t.e.del → k ∈ nmO (hget σ.heap i) → i ∈ t.kb

def TE.step (t : TE) (σ : St) : St := σ.upd t.o.d t.v t.e

/-- x ahead of y, or behind it: it is all one. -/
structure Ind (x y : TE) : Prop where
  d1 : ∀ d, x.o.d = some d → d ∉ y.o.tmps ∧ y.o.d ≠ some d ∧ d ∉ y.kt
  d2 : ∀ d, y.o.d = some d → d ∉ x.o.tmps ∧ d ∉ x.kt
  t1 : ∀ i ∈ x.kt, i ∉ y.o.tmps
  t2 : ∀ i ∈ y.kt, i ∉ x.o.tmps
  w1 : ∀ k ∈ x.wr, (light y.o.k = true ∨ k ∉ y.rd) ∧ k ∉ y.wr ∧ k ∉ y.e.frz
  w2 : ∀ k ∈ y.wr, (light x.o.k = true ∨ k ∉ x.rd) ∧ k ∉ x.e.frz
  k1 : ∀ k ∈ x.e.keys, k ∉ y.rd
  k2 : ∀ k ∈ y.e.keys, k ∉ x.rd

theorem Ind.symm {x y : TE} (h : Ind x y) : Ind y x where
  d1 := fun d hd => ⟨(h.d2 d hd).1, fun e => (h.d1 d e).2.1 hd, (h.d2 d hd).2⟩
  d2 := fun d hd => ⟨(h.d1 d hd).1, (h.d1 d hd).2.2⟩
  t1 := h.t2
  t2 := h.t1
  w1 := fun k hk => ⟨(h.w2 k hk).1, fun hx => (h.w1 k hx).2.1 hk, (h.w2 k hk).2⟩
  w2 := fun k hk => ⟨(h.w1 k hk).1, (h.w1 k hk).2.2⟩
  k1 := h.k2
  k2 := h.k1

/-- The same slots, the same objects. -/
def Eqv (σ σ' : St) : Prop := (∀ t, eget σ'.env t = eget σ.env t) ∧ ∀ k, hget σ'.heap k = hget σ.heap k
theorem Eqv.refl (σ : St) : Eqv σ σ := ⟨fun _ => rfl, fun _ => rfl⟩
theorem Eqv.trans {a b c : St} (h : Eqv a b) (h' : Eqv b c) : Eqv a c := ⟨fun t => (h'.1 t).trans (h.1 t), fun k => (h'.2 k).trans (h.2 k)⟩
theorem Eqv.symm {a b : St} (h : Eqv a b) : Eqv b a := ⟨fun t => (h.1 t).symm, fun k => (h.2 k).symm⟩

theorem vals_on {E E' : Env} : ∀ {xs : List Opd}, (∀ t ∈ xsTmps xs, eget E' t = eget E t) → vals E' xs = vals E xs := by
  intro xs
  induction xs with
  | nil => intro _; rfl
  | cons x xs ih =>
    intro h
    cases x with
    | t n =>
      simp only [xsTmps, List.mem_cons, forall_eq_or_imp] at h
      simp only [vals, Opd.val, h.1, ih h.2]
    | c v => simp only [vals, Opd.val, ih h]

theorem nmL_bareL : ∀ vs : List AV, nmL (bareL vs) = nmL vs := by
  intro vs
  induction vs with
  | nil => rfl
  | cons v vs ih =>
    have : nm (bare v) = nm v := by cases v <;> rfl
    simp only [bareL, nmL, ih, this]

theorem run1_on {S : Nat → Prop} {T : Tab} {d : Nat} {H H' : Heap} {k : K} {vs : List AV} {n : Prop} {v : AV} {e : Eff} (hr : run1 T d H k vs = .ok n v e) (h : On S H H') (hv : ReadsK S H k vs)
    (hw : ∀ j ∈ e.keys, hget H' j = hget H j) : run1 T d H' k vs = .ok n v e := by
  have hv' : ReadsK S H k (bareL vs) := by simpa only [ReadsK, nmL_bareL] using hv
  have key : (match run T d H k (bareL vs) with | .ok n v e => R.ok (sureL vs ∧ n) v e | .amb n p => .amb (sureL vs ∧ n) p | .no => .no) = .ok n v e →
      (match run T d H' k (bareL vs) with | .ok n v e => R.ok (sureL vs ∧ n) v e | .amb n p => .amb (sureL vs ∧ n) p | .no => .no) = .ok n v e := by
    intro hr
    cases h1 : run T d H k (bareL vs) with
    | no => rw [h1] at hr; cases hr
    | amb n p => rw [h1] at hr; cases hr
    | ok n1 v1 e1 =>
      rw [h1] at hr
      simp only [R.ok.injEq] at hr
      obtain ⟨rfl, rfl, rfl⟩ := hr
      rw [run_on h1 h hv' hw]
  cases k <;> first | exact hr | exact key hr

theorem run_light {T : Tab} {d : Nat} {H H' : Heap} {k : K} {vs : List AV} (h : light k = true) : run T d H' k vs = run T d H k vs := by
  cases k with
  | mv => cases vs with
    | nil => rfl
    | cons v vs => cases vs <;> rfl
  | nilchk => cases vs with
    | nil => rfl
    | cons v vs => cases vs <;> rfl
  | fld o => cases vs with
    | nil => rfl
    | cons v vs => cases vs <;> rfl
  | _ => simp [light] at h
theorem run1_light {T : Tab} {d : Nat} {H H' : Heap} {k : K} {vs : List AV} (h : light k = true) : run1 T d H' k vs = run1 T d H k vs := by
  cases k with
  | mv => simp only [run1, run_light (H := H) (H' := H') h]
  | nilchk => simp only [run1, run_light (H := H) (H' := H') h]
  | fld o => simp only [run1, run_light (H := H) (H' := H') h]
  | _ => simp [light] at h
theorem light_deep {k : K} (h : light k = true) : deep k = false := by
  cases k <;> first | rfl | simp [light] at h
theorem ev_light {T : Tab} {o : AOp} {σ σ' : St} (hl : light o.k = true) (ht : ∀ t ∈ o.tmps, eget σ'.env t = eget σ.env t) : ev T o σ' = ev T o σ := by
  have hvals : vals σ'.env o.xs = vals σ.env o.xs := vals_on fun t h' => ht t (by
    unfold AOp.tmps
    split
    · exact List.mem_cons_of_mem _ h'
    · exact h')
  unfold ev
  rw [hvals, run1_light (H := σ.heap) (H' := σ'.heap) hl]
  cases hg : o.gd with
  | none => rfl
  | some p =>
    obtain ⟨t, want⟩ := p
    simp only
    rw [ht t (by simp [AOp.tmps, hg])]
theorem ev_on {S : Nat → Prop} {T : Tab} {o : AOp} {σ σ' : St} {n : Prop} {v : AV} {e : Eff} (hr : ev T o σ = .ok n v e) (ht : ∀ t ∈ o.tmps, eget σ'.env t = eget σ.env t) (h : On S σ.heap σ'.heap) (hv : ReadsK S σ.heap o.k (vals σ.env o.xs))
    (hw : ∀ j ∈ e.keys, hget σ'.heap j = hget σ.heap j) : ev T o σ' = .ok n v e := by
  have hvals : vals σ'.env o.xs = vals σ.env o.xs := vals_on fun t h' => ht t (by
    unfold AOp.tmps
    split
    · exact List.mem_cons_of_mem _ h'
    · exact h')
  unfold ev at hr ⊢
  rw [hvals]
  cases hg : o.gd with
  | none =>
    rw [hg] at hr
    exact run1_on hr h hv hw
  | some p =>
    obtain ⟨t, want⟩ := p
    rw [hg] at hr
    simp only at hr ⊢
    rw [ht t (by simp [AOp.tmps, hg])]
    cases hact : actOf want (eget σ.env t) with
    | none => rw [hact] at hr; cases hr
    | some act =>
      rw [hact] at hr
      simp only at hr ⊢
      cases h1 : run1 T (o.d.getD 0) σ.heap o.k (vals σ.env o.xs) with
      | no => rw [h1] at hr; cases hr
      | amb n p => rw [h1] at hr; cases hr
      | ok n1 v1 e1 =>
        rw [h1] at hr
        simp only at hr
        cases hq : e1.quiet with
        | false => rw [hq] at hr; cases hr
        | true =>
          rw [hq] at hr
          simp only [R.ok.injEq] at hr
          obtain ⟨rfl, rfl, rfl⟩ := hr
          rw [run1_on h1 h hv hw]
          simp only [hq]

theorem nmK_eq {H H' : Heap} : ∀ {ks : List Nat}, (∀ k ∈ ks, nmO (hget H' k) = nmO (hget H k)) → nmK H' ks = nmK H ks := by
  intro ks
  induction ks with
  | nil => intro _; rfl
  | cons k ks ih => intro h; simp only [nmK, h k (List.mem_cons_self ..), ih fun j hj => h j (List.mem_cons_of_mem _ hj)]

theorem oSame_kill {ks : List Nat} {fz : Bool} {o : Option Obj} (h : ∀ k ∈ ks, k ∉ nmO o) : oSame o ((if fz then o.map frzO else o).map (killsO ks)) := by
  cases o with
  | none => cases fz <;> trivial
  | some o =>
    cases o with
    | box cs =>
      have := killsO_id h
      cases fz <;> simp only [Option.map_some, frzO, if_true, if_false, Bool.false_eq_true, this] <;> exact oSame.refl _
    | row t xs f => cases fz <;> simp only [Option.map_some, frzO, if_true, if_false, Bool.false_eq_true, killsO_row] <;> simp [oSame]
    | mp m => cases fz <;> simp only [Option.map_some, frzO, if_true, if_false, Bool.false_eq_true, killsO_mp] <;> simp [oSame]

theorem nmO_same {o o' : Option Obj} (h : oSame o o') : nmO o' = nmO o := by
  cases o with
  | none => cases o' with
    | none => rfl
    | some o' => simp [oSame] at h
  | some o => cases o with
    | box x => cases o' with
      | none => simp [oSame] at h
      | some o' => cases o' with
        | box y => simp only [oSame] at h; subst h; rfl
        | row t y f => simp [oSame] at h
        | mp y => simp [oSame] at h
    | mp x => cases o' with
      | none => simp [oSame] at h
      | some o' => cases o' with
        | mp y => rfl
        | row t y f => simp [oSame] at h
        | box y => simp [oSame] at h
    | row t x f => simp only [oSame] at h; obtain ⟨f', rfl⟩ := h; rfl

theorem lastPut_mem {ps : List (Nat × Obj)} {j : Nat} {o : Obj} (h : lastPut ps j = some o) : j ∈ ps.map (·.1) ∧ ∀ k ∈ nmO (some o), k ∈ nmPut ps := by
  induction ps with
  | nil => cases h
  | cons p ps ih =>
    obtain ⟨k, o1⟩ := p
    simp only [lastPut] at h
    split at h
    · rename_i o2 h2
      cases h
      obtain ⟨h3, h4⟩ := ih h2
      exact ⟨List.mem_cons_of_mem _ h3, fun k hk => by simp only [nmPut, List.mem_append]; exact .inr (h4 k hk)⟩
    · split at h
      · rename_i e
        cases h
        exact ⟨by simp [e], fun k hk => by simp only [nmPut, List.mem_append]; exact .inl hk⟩
      · cases h

theorem mem_keys {e : Eff} {k : Nat} : k ∈ e.keys ↔ k ∈ e.put.map (·.1) ∨ k ∈ e.del := by simp [Eff.keys]

/-- An object that the step does not touch. -/
theorem step_same {T : Tab} {σ : St} {x : TE} (hx : x.OK T σ) {k : Nat} (hk : k ∉ x.wr) : oSame (hget σ.heap k) (hget (x.step σ).heap k) := by
  unfold TE.wr at hk
  simp only [List.mem_append, not_or, mem_keys] at hk
  simp only [TE.step, hget_upd, updObj]
  rw [lastPut_none hk.1.1, if_neg hk.1.2]
  have := oSame_kill (ks := x.e.del) (fz := decide (k ∈ x.e.frz)) (o := hget σ.heap k) fun j hj hn => hk.2 (hx.kb k j hj hn)
  simpa using this
theorem step_eq {T : Tab} {σ : St} {x : TE} (hx : x.OK T σ) {k : Nat} (hk : k ∉ x.wr) (hf : k ∉ x.e.frz) : hget (x.step σ).heap k = hget σ.heap k := by
  unfold TE.wr at hk
  simp only [List.mem_append, not_or, mem_keys] at hk
  simp only [TE.step, hget_upd, updObj]
  rw [lastPut_none hk.1.1, if_neg hk.1.2, if_neg hf]
  cases ho : hget σ.heap k with
  | none => rfl
  | some o =>
    simp only [Option.map_some]
    rw [killsO_id fun j hj hn => hk.2 (hx.kb k j hj (by rw [ho]; exact hn))]
theorem step_tmp {T : Tab} {σ : St} {x : TE} (hx : x.OK T σ) {t : Nat} (hd : x.o.d ≠ some t) (hk : t ∉ x.kt) : eget (x.step σ).env t = eget σ.env t := by
  simp only [TE.step, eget_upd]
  rw [if_neg hd, killsV_id fun j hj hn => hk (hx.kt t j hj hn)]

theorem mem_rdB {σ : St} {t : TE} (h : t.rd = rdOf σ t.o t.v t.e) {k : Nat} (hk : k ∈ nmB t.o.k σ.heap (vals σ.env t.o.xs)) : k ∈ t.rd := by
  rw [h]; unfold rdOf; exact List.mem_append_left _ hk
theorem mem_rdV {σ : St} {t : TE} (h : t.rd = rdOf σ t.o t.v t.e) {k : Nat} (hk : k ∈ nm t.v) : k ∈ t.rd := by
  rw [h]; unfold rdOf; exact List.mem_append_right _ (List.mem_append_left _ hk)
theorem mem_rdP {σ : St} {t : TE} (h : t.rd = rdOf σ t.o t.v t.e) {k : Nat} (hk : k ∈ nmPut t.e.put) : k ∈ t.rd := by
  rw [h]; unfold rdOf; exact List.mem_append_right _ (List.mem_append_right _ (List.mem_append_left _ hk))

/-- What holds of y behind x holds of it ahead of x (and the other way): the parts that count stand. -/
theorem OK_of {T : Tab} {σ σ' : St} {y : TE} (hy : y.OK T σ) (ht : ∀ t ∈ y.o.tmps, eget σ'.env t = eget σ.env t) (hd : ∀ d, y.o.d = some d → nm (eget σ'.env d) = nm (eget σ.env d))
    (hs : light y.o.k = true ∨ ∀ k ∈ y.rd, oSame (hget σ.heap k) (hget σ'.heap k)) (hw : ∀ k ∈ y.e.keys, hget σ'.heap k = hget σ.heap k)
    (hkt : ∀ i k, k ∈ y.e.del → k ∈ nm (eget σ'.env i) → i ∈ y.kt) (hkb : ∀ i k, k ∈ y.e.del → k ∈ nmO (hget σ'.heap i) → i ∈ y.kb) : y.OK T σ' := by
  have hR : ReadsK (· ∈ y.rd) σ.heap y.o.k (vals σ.env y.o.xs) := by
    refine ⟨fun k hk => mem_rdB hy.rd (List.mem_append_left _ hk), fun hdp k hk bs hb j hj => mem_rdB hy.rd (List.mem_append_right _ (by rw [hdp]; exact mem_nmK hk hb hj))⟩
  have hvals : vals σ'.env y.o.xs = vals σ.env y.o.xs := vals_on fun t h' => ht t (by
    unfold AOp.tmps
    split
    · exact List.mem_cons_of_mem _ h'
    · exact h')
  refine ⟨?_, ?_, hkt, hkb⟩
  · rcases hs with hl | hs
    · rw [ev_light hl ht]; exact hy.ev
    · exact ev_on hy.ev ht hs hR hw
  rw [hy.rd]
  unfold rdOf
  rw [hvals]
  have e1 : nmB y.o.k σ'.heap (vals σ.env y.o.xs) = nmB y.o.k σ.heap (vals σ.env y.o.xs) := by
    unfold nmB
    rcases hs with hl | hs
    · rw [light_deep hl]; rfl
    · rw [nmK_eq fun k hk => nmO_same (hs k (hR.1 k hk))]
  have e2 : nmK σ'.heap y.e.keys = nmK σ.heap y.e.keys := nmK_eq fun k hk => by rw [hw k hk]
  have e3 : nmD σ'.env y.o.d = nmD σ.env y.o.d := by
    cases hdd : y.o.d with
    | none => rfl
    | some d => exact hd d hdd
  rw [e1, e2, e3]

theorem oSame.symm {a b : Option Obj} (h : oSame a b) : oSame b a := by
  cases a with
  | none => cases b with
    | none => trivial
    | some b => simp [oSame] at h
  | some a => cases a with
    | box x => cases b with
      | none => simp [oSame] at h
      | some b => cases b with
        | box y => simp only [oSame] at h ⊢; exact h.symm
        | row t y f => simp [oSame] at h
        | mp y => simp [oSame] at h
    | mp x => cases b with
      | none => simp [oSame] at h
      | some b => cases b with
        | mp y => simp only [oSame] at h ⊢; exact h.symm
        | row t y f => simp [oSame] at h
        | box y => simp [oSame] at h
    | row t x f => simp only [oSame] at h; obtain ⟨f', rfl⟩ := h; simp [oSame]

theorem nmD_eq {σ : St} {t : TE} (h : t.rd = rdOf σ t.o t.v t.e) {d k : Nat} (hd : t.o.d = some d) (hk : k ∈ nm (eget σ.env d)) : k ∈ t.rd := by
  rw [h]; unfold rdOf
  exact List.mem_append_right _ (List.mem_append_right _ (List.mem_append_right _ (List.mem_append_right _ (by rw [hd]; exact hk))))

theorem wr_keys {t : TE} {k : Nat} (h : k ∈ t.e.keys) : k ∈ t.wr := List.mem_append_left _ h

theorem mem_rdK {σ : St} {t : TE} (h : t.rd = rdOf σ t.o t.v t.e) {i k : Nat} (hi : i ∈ t.e.keys) (hk : k ∈ nmO (hget σ.heap i)) : k ∈ t.rd := by
  rw [h]; unfold rdOf
  refine List.mem_append_right _ (List.mem_append_right _ (List.mem_append_right _ (List.mem_append_left _ ?_)))
  cases ho : hget σ.heap i with
  | none => rw [ho] at hk; simp [nmO] at hk
  | some o => cases o with
    | box cs => rw [ho] at hk; exact mem_nmK hi ho hk
    | row t xs f => rw [ho] at hk; simp [nmO] at hk
    | mp m => rw [ho] at hk; simp [nmO] at hk
theorem nmL_killsL_ne {ks : List Nat} : ∀ {v : List AV} {j : Nat}, j ∉ ks → j ∈ nmL v → j ∈ nmL (killsL ks v) := by
  induction ks with
  | nil => intro v j _ h; exact h
  | cons k ks ih =>
    intro v j hj h
    simp only [List.mem_cons, not_or] at hj
    exact ih hj.2 (nmL_killL_ne k v j hj.1 h)
theorem nmO_kills {ks : List Nat} {fz : Prop} [Decidable fz] {o : Option Obj} {j : Nat} (hj : j ∉ ks) (h : j ∈ nmO o) : j ∈ nmO ((if fz then o.map frzO else o).map (killsO ks)) := by
  cases o with
  | none => simp [nmO] at h
  | some o => cases o with
    | box cs => have : j ∈ nmL (killsL ks cs) := nmL_killsL_ne hj h
                split <;> simpa [frzO, killsO_box, nmO] using this
    | row t xs f => simp [nmO] at h
    | mp m => simp [nmO] at h
theorem nmO_kills' {ks : List Nat} {fz : Prop} [Decidable fz] {o : Option Obj} {j : Nat} (h : j ∈ nmO ((if fz then o.map frzO else o).map (killsO ks))) : j ∈ nmO o := by
  cases o with
  | none => split at h <;> simp [nmO] at h
  | some o => cases o with
    | box cs => split at h <;> (simp only [Option.map_some, frzO, killsO_box, nmO] at h; exact nmL_killsL h)
    | row t xs f => split at h <;> simp [frzO, killsO_row, nmO] at h
    | mp m => split at h <;> simp [frzO, killsO_mp, nmO] at h

theorem ahead {T : Tab} {σ : St} {x y : TE} (hx : x.OK T σ) (hy : y.OK T (x.step σ)) (h : Ind x y) : y.OK T σ := by
  refine OK_of hy (fun t ht => ?_) (fun d hd => ?_) (Classical.or_iff_not_imp_left.2 fun hl k hk => ?_) (fun k hk => ?_) (fun i k hk hn => ?_) (fun i k hk hn => ?_)
  · exact (step_tmp hx (fun e => (h.d1 t e).1 ht) (fun hk => h.t1 t hk ht)).symm
  · rw [step_tmp hx (fun e => (h.d1 d e).2.1 hd) (h.d2 d hd).2]
  · exact (step_same hx fun hw => (h.w1 k hw).1.resolve_left hl hk).symm
  · exact (step_eq hx (fun hw => (h.w1 k hw).2.1 (wr_keys hk)) (h.w2 k (wr_keys hk)).2).symm
  · by_cases e : x.o.d = some i
    · exact absurd (nmD_eq hx.rd e hn) (h.k2 k (mem_keys.2 (.inr hk)))
    · refine hy.kt i k hk ?_
      simp only [TE.step, eget_upd]
      rw [if_neg e]
      exact nm_killsV_ne (fun hkx => (h.w1 k (wr_keys (mem_keys.2 (.inr hkx)))).2.1 (wr_keys (mem_keys.2 (.inr hk)))) hn
  · by_cases e : i ∈ x.e.keys
    · exact absurd (mem_rdK hx.rd e hn) (h.k2 k (mem_keys.2 (.inr hk)))
    · refine hy.kb i k hk ?_
      have hkx : k ∉ x.e.del := fun hkx => (h.w1 k (wr_keys (mem_keys.2 (.inr hkx)))).2.1 (wr_keys (mem_keys.2 (.inr hk)))
      rw [mem_keys, not_or] at e
      simp only [TE.step, hget_upd, updObj]
      rw [lastPut_none e.1, if_neg e.2]
      exact nmO_kills hkx hn

theorem behind {T : Tab} {σ : St} {x y : TE} (hx : x.OK T σ) (hy : y.OK T σ) (h : Ind x y) : x.OK T (y.step σ) := by
  refine OK_of hx (fun t ht => ?_) (fun d hd => ?_) (Classical.or_iff_not_imp_left.2 fun hl k hk => ?_) (fun k hk => ?_) (fun i k hk hn => ?_) (fun i k hk hn => ?_)
  · exact step_tmp hy (fun e => (h.d2 t e).1 ht) (fun hk => h.t2 t hk ht)
  · rw [step_tmp hy (fun e => (h.d1 d hd).2.1 e) (h.d1 d hd).2.2]
  · exact step_same hy fun hw => (h.w2 k hw).1.resolve_left hl hk
  · exact step_eq hy (fun hw => (h.w1 k (wr_keys hk)).2.1 hw) (h.w1 k (wr_keys hk)).2.2
  · simp only [TE.step, eget_upd] at hn
    split at hn
    · exact absurd (mem_rdV hy.rd hn) (h.k1 k (mem_keys.2 (.inr hk)))
    · exact hx.kt i k hk (nm_killsV hn)
  · simp only [TE.step, hget_upd, updObj] at hn
    split at hn
    · rename_i o' ho
      exact absurd (mem_rdP hy.rd ((lastPut_mem ho).2 k hn)) (h.k1 k (mem_keys.2 (.inr hk)))
    · split at hn
      · exact absurd hn (by simp [nmO])
      · exact hx.kb i k hk (nmO_kills' hn)

theorem swap_eqv {T : Tab} {σ : St} {x y : TE} (hx : x.OK T σ) (hy : y.OK T σ) (h : Ind x y) : Eqv (x.step (y.step σ)) (y.step (x.step σ)) := by
  constructor
  · intro t
    simp only [TE.step, eget_upd]
    by_cases e1 : y.o.d = some t
    · have e2 : x.o.d ≠ some t := fun e2 => (h.d1 t e2).2.1 e1
      rw [if_pos e1, if_neg e2, if_pos e1]
      rw [killsV_id fun k hk hn => (h.k1 k (mem_keys.2 (.inr hk))) (mem_rdV hy.rd hn)]
    · rw [if_neg e1]
      by_cases e2 : x.o.d = some t
      · rw [if_pos e2, if_pos e2]
        rw [killsV_id fun k hk hn => (h.k2 k (mem_keys.2 (.inr hk))) (mem_rdV hx.rd hn)]
      · rw [if_neg e2, if_neg e2, if_neg e1, killsV_comm]
  · intro k
    simp only [TE.step, hget_upd]
    generalize hget σ.heap k = o
    have w1 := h.w1 k
    have w2 := h.w2 k
    unfold updObj
    cases hpx : lastPut x.e.put k with
    | some ox =>
      have hm := lastPut_mem hpx
      have hk : k ∈ x.wr := wr_keys (mem_keys.2 (.inl hm.1))
      have hy1 : k ∉ y.e.put.map (·.1) := fun hh => (w1 hk).2.1 (wr_keys (mem_keys.2 (.inl hh)))
      have hy2 : k ∉ y.e.del := fun hh => (w1 hk).2.1 (wr_keys (mem_keys.2 (.inr hh)))
      simp only
      rw [lastPut_none hy1, if_neg hy2, if_neg (w1 hk).2.2]
      simp only [Option.map_some]
      rw [killsO_id fun j hj hn => (h.k2 j (mem_keys.2 (.inr hj))) (mem_rdP hx.rd (hm.2 j hn))]
    | none =>
      cases hpy : lastPut y.e.put k with
      | some oy =>
        have hm := lastPut_mem hpy
        have hk : k ∈ y.wr := wr_keys (mem_keys.2 (.inl hm.1))
        have hx2 : k ∉ x.e.del := fun hh => (w1 (wr_keys (mem_keys.2 (.inr hh)))).2.1 hk
        simp only
        rw [if_neg hx2, if_neg (w2 hk).2]
        simp only [Option.map_some]
        rw [killsO_id fun j hj hn => (h.k1 j (mem_keys.2 (.inr hj))) (mem_rdP hy.rd (hm.2 j hn))]
      | none =>
        simp only
        by_cases hx2 : k ∈ x.e.del
        · rw [if_pos hx2, if_pos hx2]
          split <;> simp
        · rw [if_neg hx2, if_neg hx2]
          by_cases hy2 : k ∈ y.e.del
          · rw [if_pos hy2, if_pos hy2]; split <;> simp
          · rw [if_neg hy2, if_neg hy2]
            cases o with
            | none => split <;> split <;> rfl
            | some o =>
              have fr : ∀ ks, frzO (killsO ks o) = killsO ks (frzO o) := fun ks => frzO_kills
              have ff : frzO (frzO o) = frzO o := by cases o <;> rfl
              by_cases fx : k ∈ x.e.frz <;> by_cases fy : k ∈ y.e.frz <;> simp only [fx, fy, if_true, if_false, Option.map_some, frzO_kills, ff, killsO_comm (js := x.e.del) (ks := y.e.del)]
end Go.AM

set_option linter.unusedSimpArgs false
set_option linter.constructorNameAsVariable false
namespace Go.AM

def valid (T : Tab) : St → List TE → Prop
  | _, [] => True
  | σ, t :: ts => t.OK T σ ∧ valid T (t.step σ) ts
def fin : St → List TE → St
  | σ, [] => σ
  | σ, t :: ts => fin (t.step σ) ts

theorem OK.eqv {T : Tab} {σ σ' : St} {t : TE} (h : t.OK T σ) (e : Eqv σ σ') : t.OK T σ' :=
  OK_of h (fun t _ => e.1 t) (fun d _ => by rw [e.1 d]) (.inr fun k _ => by rw [e.2 k]; exact oSame.refl _) (fun k _ => e.2 k) (fun i k hk hn => h.kt i k hk (by rw [← e.1 i]; exact hn)) (fun i k hk hn => h.kb i k hk (by rw [← e.2 i]; exact hn))
theorem step_eqv {σ σ' : St} (t : TE) (e : Eqv σ σ') : Eqv (t.step σ) (t.step σ') := by
  constructor
  · intro i; simp only [TE.step, eget_upd, e.1 i]
  · intro k; simp only [TE.step, hget_upd, e.2 k]
theorem valid_eqv {T : Tab} : ∀ {ts : List TE} {σ σ' : St}, valid T σ ts → Eqv σ σ' → valid T σ' ts ∧ Eqv (fin σ ts) (fin σ' ts) := by
  intro ts
  induction ts with
  | nil => intro σ σ' _ e; exact ⟨trivial, e⟩
  | cons t ts ih =>
    intro σ σ' h e
    obtain ⟨h1, h2⟩ := ih h.2 (step_eqv t e)
    exact ⟨⟨OK.eqv h.1 e, h1⟩, h2⟩

theorem front {T : Tab} {i : TE} {l2 : List TE} : ∀ {l1 : List TE} {σ : St}, valid T σ (l1 ++ i :: l2) → (∀ x ∈ l1, Ind x i) → i.OK T σ ∧ valid T (i.step σ) (l1 ++ l2) ∧ Eqv (fin σ (l1 ++ i :: l2)) (fin (i.step σ) (l1 ++ l2)) := by
  intro l1
  induction l1 with
  | nil => intro σ h _; exact ⟨h.1, h.2, Eqv.refl _⟩
  | cons x l ih =>
    intro σ h hi
    obtain ⟨hx, hr⟩ := h
    obtain ⟨h1, h2, h3⟩ := ih hr fun y hy => hi y (List.mem_cons_of_mem _ hy)
    have hind := hi x (List.mem_cons_self ..)
    have hiσ := ahead hx h1 hind
    have hxi := behind hx hiσ hind
    have e := (swap_eqv hx hiσ hind).symm
    obtain ⟨h4, h5⟩ := valid_eqv h2 e
    exact ⟨hiσ, ⟨hxi, h4⟩, h3.trans h5⟩

theorem anyOps_mono {T : Tab} {ops : List AOp} {b : List Nat} {K K' : St → Prop} (hK : ∀ σ, K σ → K' σ) : ∀ {n : Nat} {listed : List Bool} {σ : St}, anyOps T ops b n listed σ K → anyOps T ops b n listed σ K' := by
  intro n
  induction n with
  | zero => intro listed σ h; exact hK _ h
  | succ n ih =>
    intro listed σ h
    exact ⟨fun hr => hK _ (h.1 hr), fun i o ho hl hj => bind_mono (h.2 i o ho hl hj) fun nd v e hh => ⟨hh.1, ih hh.2⟩⟩

/-! ### the edges, closed -/
theorem orAt_bit {j m : Nat} : ∀ {cs : List Nat} {i : Nat}, (orAt cs m i).testBit j = true → ∃ p, i ≤ p ∧ m.testBit p = true ∧ (cs.getD (p - i) 0).testBit j = true := by
  intro cs
  induction cs with
  | nil => intro i h; simp [orAt] at h
  | cons c cs ih =>
    intro i h
    simp only [orAt, Nat.testBit_or, Bool.or_eq_true] at h
    rcases h with h | h
    · split at h
      · rename_i hm; exact ⟨i, Nat.le_refl _, hm, by simpa using h⟩
      · simp at h
    · obtain ⟨p, h1, h2, h3⟩ := ih h
      refine ⟨p, by omega, h2, ?_⟩
      have : p - i = (p - (i + 1)) + 1 := by omega
      rw [this]; simpa using h3

theorem clOK_bit {b cl : List Nat} (h : clOK b cl = true) {i j : Nat} (hj : (cl.getD i 0).testBit j = true) : bitIn (b.getD i 0) j = true ∨ ∃ p, bitIn (b.getD i 0) p = true ∧ (cl.getD p 0).testBit j = true := by
  unfold clOK at h
  simp only [Bool.and_eq_true, beq_iff_eq, List.all_eq_true] at h
  obtain ⟨hl, h⟩ := h
  by_cases hi : i < cl.length
  · have hi' : i < b.length := by omega
    have hm : (b[i], cl[i]) ∈ b.zip cl := by
      rw [List.mem_iff_getElem]
      exact ⟨i, by simp; omega, by simp⟩
    have := h _ hm
    simp only at this
    have e1 : cl.getD i 0 = cl[i] := by simp [List.getD, hi]
    have e2 : b.getD i 0 = b[i] := by simp [List.getD, hi']
    rw [e1, this, Nat.testBit_or, Bool.or_eq_true] at hj
    rw [e2]
    rcases hj with hj | hj
    · exact .inl hj
    · obtain ⟨p, _, h2, h3⟩ := orAt_bit hj
      exact .inr ⟨p, h2, by simpa using h3⟩
  · have e1 : cl.getD i 0 = 0 := by simp [List.getD, List.getElem?_eq_none (Nat.le_of_not_lt hi)]
    rw [e1] at hj
    simp at hj

theorem lowB_bit : ∀ {b : List Nat} {i : Nat}, lowB i b = true → ∀ k j, bitIn (b.getD k 0) j = true → j < i + k := by
  intro b
  induction b with
  | nil => intro i _ k j h; simp [bitIn] at h
  | cons m ms ih =>
    intro i h k j hj
    simp only [lowB, Bool.and_eq_true, decide_eq_true_eq] at h
    cases k with
    | zero =>
      simp only [List.getD_cons_zero, bitIn] at hj
      have := Nat.ge_two_pow_of_testBit hj
      have : 2 ^ j < 2 ^ i := by omega
      have := (Nat.pow_lt_pow_iff_right (by omega : 1 < 2)).1 this
      omega
    | succ k =>
      simp only [List.getD_cons_succ] at hj
      have := ih h.2 k j hj
      omega

theorem closed {b cl : List Nat} (h : clOK b cl = true) (hl : lowB 0 b = true) {L : Nat → Prop} (hL : ∀ i, L i → ∀ j, bitIn (b.getD i 0) j = true → L j) :
    ∀ (n i : Nat), i ≤ n → (∀ j, bitIn (b.getD i 0) j = true → L j) → ∀ j, (cl.getD i 0).testBit j = true → L j := by
  intro n
  induction n with
  | zero =>
    intro i hi hd j hj
    rcases clOK_bit h hj with h1 | ⟨p, h1, h2⟩
    · exact hd j h1
    · have := lowB_bit hl i p h1; omega
  | succ n ih =>
    intro i hi hd j hj
    rcases clOK_bit h hj with h1 | ⟨p, h1, h2⟩
    · exact hd j h1
    · have hp := lowB_bit hl i p h1
      exact ih p (by omega) (fun q hq => hL p (hd p h1) q hq) j h2

/-- Every order comes to one end. -/
theorem anyOps_of {T : Tab} {ops : List AOp} {b cl : List Nat} (hcl : clOK b cl = true) (hlow : lowB 0 b = true) :
    ∀ {n : Nat} {listed : List Bool} {l : List (Nat × TE)} {σ : St}, l.length ≤ n → (∀ p ∈ l, ops[p.1]? = some p.2.o) → l.Pairwise (fun p q => p.1 < q.1) → (∀ i : Nat, listed[i]? = some false ↔ i ∈ l.map (·.1)) →
      (∀ i : Nat, listed[i]? = some true → ∀ j, bitIn (b.getD i 0) j = true → listed.getD j false = true) → l.Pairwise (fun p q => (cl.getD q.1 0).testBit p.1 = true ∨ Ind p.2 q.2) → (∀ p ∈ l, p.2.n) →
      valid T σ (l.map (·.2)) → anyOps T ops b n listed σ (Eqv (fin σ (l.map (·.2)))) := by
  intro n
  induction n with
  | zero =>
    intro listed l σ hn _ _ _ _ _ _ _
    cases l with
    | nil => exact Eqv.refl _
    | cons p l => simp at hn
  | succ n ih =>
    intro listed l σ hn hops hsort hun hdown hpw hneed hval
    refine ⟨fun hr => ?_, fun i o ho hi hj => ?_⟩
    · cases l with
      | nil => exact Eqv.refl _
      | cons p l =>
        exfalso
        have hp : listed[p.1]? = some false := (hun p.1).2 (by simp)
        obtain ⟨j, h1, h2⟩ := hr p.1 hp
        have hlt := lowB_bit hlow p.1 j h1
        have hlen := (List.getElem?_eq_some_iff.1 hp).1
        have hjl : j < listed.length := by omega
        have hjf : listed[j]? = some false := by
          rw [List.getD_eq_getElem?_getD, List.getElem?_eq_getElem hjl] at h2
          rw [List.getElem?_eq_getElem hjl]
          simpa using h2
        have := (hun j).1 hjf
        simp only [List.map_cons, List.mem_cons] at this
        rcases this with rfl | hm
        · omega
        · obtain ⟨q, hq, rfl⟩ := List.mem_map.1 hm
          have := (List.pairwise_cons.1 hsort).1 q hq
          omega
    · obtain ⟨p, hp, rfl⟩ := List.mem_map.1 ((hun i).1 hi)
      obtain ⟨l1, l2, rfl⟩ := List.append_of_mem hp
      have hop := hops p hp
      rw [ho] at hop
      cases hop
      have hcl1 : ∀ j, (cl.getD p.1 0).testBit j = true → listed.getD j false = true := by
        refine closed hcl hlow (L := fun j => listed.getD j false = true) (fun q hq j hj => ?_) p.1 p.1 (Nat.le_refl _) hj
        refine hdown q ?_ j hj
        rw [List.getD_eq_getElem?_getD] at hq
        cases hg : listed[q]? with
        | none => rw [hg] at hq; simp at hq
        | some c => rw [hg] at hq; simp at hq; rw [hq]
      have hpw' := List.pairwise_append.1 hpw
      have hind : ∀ x ∈ l1.map (·.2), Ind x p.2 := by
        intro x hx
        obtain ⟨q, hq, rfl⟩ := List.mem_map.1 hx
        rcases hpw'.2.2 q hq p (List.mem_cons_self ..) with h | h
        · exfalso
          have h1 := hcl1 q.1 h
          have h2 : listed[q.1]? = some false := (hun q.1).2 (List.mem_map.2 ⟨q, List.mem_append_left _ hq, rfl⟩)
          rw [List.getD_eq_getElem?_getD, h2] at h1
          cases h1
        · exact h
      rw [List.map_append, List.map_cons] at hval
      obtain ⟨h1, h2, h3⟩ := front hval hind
      rw [h1.ev]
      refine ⟨hneed p hp, ?_⟩
      rw [List.map_append, List.map_cons]
      have hs' := List.pairwise_append.1 hsort
      have hi' : p.1 < listed.length := (List.getElem?_eq_some_iff.1 hi).1
      refine anyOps_mono (K := Eqv (fin (p.2.step σ) ((l1 ++ l2).map (·.2)))) (fun σ' h => (h3.trans (by rw [List.map_append] at h; exact h))) ?_
      refine ih (by simp at hn ⊢; omega) (fun q hq => hops q ?_) ?_ (fun j => ?_) (fun j hjt k hk => ?_) ?_ (fun q hq => hneed q ?_) (by rw [List.map_append]; exact h2)
      · rcases List.mem_append.1 hq with h | h
        · exact List.mem_append_left _ h
        · exact List.mem_append_right _ (List.mem_cons_of_mem _ h)
      · exact List.pairwise_append.2 ⟨hs'.1, (List.pairwise_cons.1 hs'.2.1).2, fun a ha c hc => hs'.2.2 a ha c (List.mem_cons_of_mem _ hc)⟩
      · by_cases e : j = p.1
        · subst e
          rw [List.getElem?_set_self hi']
          refine ⟨fun h => (by cases h), fun h => ?_⟩
          exfalso
          rw [List.map_append, List.mem_append] at h
          rcases h with h | h
          · obtain ⟨q, hq, he⟩ := List.mem_map.1 h
            have := hs'.2.2 q hq p (List.mem_cons_self ..)
            omega
          · obtain ⟨q, hq, he⟩ := List.mem_map.1 h
            have := (List.pairwise_cons.1 hs'.2.1).1 q hq
            omega
        · rw [List.getElem?_set_ne (fun h => e h.symm), hun j]
          simp only [List.map_append, List.map_cons, List.mem_append, List.mem_cons, e, false_or]
      · have set1 : ∀ q, listed.getD q false = true → (listed.set p.1 true).getD q false = true := by
          intro q hq
          rw [List.getD_eq_getElem?_getD] at hq ⊢
          by_cases e : p.1 = q
          · subst e; rw [List.getElem?_set_self hi']; rfl
          · rw [List.getElem?_set_ne e]; exact hq
        by_cases e : j = p.1
        · subst e; exact set1 k (hj k hk)
        · rw [List.getElem?_set_ne (fun h => e h.symm)] at hjt
          exact set1 k (hdown j hjt k hk)
      · exact List.pairwise_append.2 ⟨hpw'.1, (List.pairwise_cons.1 hpw'.2.1).2, fun a ha c hc => hpw'.2.2 a ha c (List.mem_cons_of_mem _ hc)⟩
      · rcases List.mem_append.1 hq with h | h
        · exact List.mem_append_left _ h
        · exact List.mem_append_right _ (List.mem_cons_of_mem _ h)
end Go.AM

set_option linter.unusedSimpArgs false
set_option linter.constructorNameAsVariable false
namespace Go.AM

def TE.ts (t : TE) : TS := ⟨t.o.d, t.o.tmps, t.rd, t.wr, t.e.frz, t.kt, t.e.keys, light t.o.k⟩

theorem meets_iff {a b : List Nat} : meets a b = false ↔ ∀ k ∈ a, k ∉ b := by
  unfold meets
  rw [← Bool.not_eq_true, List.any_eq_true]
  constructor
  · intro h k ha hb; exact h ⟨k, hb, by simpa using ha⟩
  · rintro h ⟨k, hb, ha⟩; exact h k (by simpa using ha) hb

theorem ktGo_mem {ks : List Nat} {i k : Nat} (hk : k ∈ ks) : ∀ {e : Env}, k ∈ nm (eget e i) → i ∈ ktGo ks e := by
  intro e
  induction e with
  | nil => intro h; simp [eget, nm] at h
  | cons p e ih =>
    obtain ⟨j, v⟩ := p
    intro h
    simp only [eget] at h
    simp only [ktGo]
    by_cases hj : j = i
    · subst hj
      rw [if_pos rfl] at h
      have : meets ks (nm v) = true := by
        cases hm : meets ks (nm v) with
        | true => rfl
        | false => exact absurd h (meets_iff.1 hm k hk)
      rw [if_pos this]; exact List.mem_cons_self ..
    · rw [if_neg hj] at h
      split
      · exact List.mem_cons_of_mem _ (ih h)
      · exact ih h
theorem kbGo_mem {ks : List Nat} {i k : Nat} (hk : k ∈ ks) : ∀ {e : Heap}, k ∈ nmO (hget e i) → i ∈ kbGo ks e := by
  intro e
  induction e with
  | nil => intro h; simp [hget, nmO] at h
  | cons p e ih =>
    obtain ⟨j, v⟩ := p
    intro h
    simp only [hget] at h
    simp only [kbGo]
    by_cases hj : j = i
    · subst hj
      rw [if_pos rfl] at h
      have : meets ks (nmO (some v)) = true := by
        cases hm : meets ks (nmO (some v)) with
        | true => rfl
        | false => exact absurd h (meets_iff.1 hm k hk)
      rw [if_pos this]; exact List.mem_cons_self ..
    · rw [if_neg hj] at h
      split
      · exact List.mem_cons_of_mem _ (ih h)
      · exact ih h
theorem ktOf_mem {ks : List Nat} {i k : Nat} (hk : k ∈ ks) {e : Env} (h : k ∈ nm (eget e i)) : i ∈ ktOf e ks := by
  cases ks with
  | nil => cases hk
  | cons j ks => exact ktGo_mem hk h
theorem kbOf_mem {ks : List Nat} {i k : Nat} (hk : k ∈ ks) {e : Heap} (h : k ∈ nmO (hget e i)) : i ∈ kbOf e ks := by
  cases ks with
  | nil => cases hk
  | cons j ks => exact kbGo_mem hk h

theorem evTab_of {T : Tab} {b : List Nat} {K : St → Prop} : ∀ {os : List AOp} {σ : St} {acc : List TS}, evTab T b os σ acc K → ∃ ts : List TE, valid T σ ts ∧ ts.map (·.o) = os ∧ (∀ t ∈ ts, t.n) ∧ chk b ((ts.map TE.ts).reverse ++ acc) = true ∧ K (fin σ ts) := by
  intro os
  induction os with
  | nil => intro σ acc h; exact ⟨[], trivial, rfl, by simp, by simpa using h.1, h.2⟩
  | cons o os ih =>
    intro σ acc h
    simp only [evTab] at h
    split at h
    · rename_i n v e hev
      obtain ⟨ts, h1, h2, h3, h4, h5⟩ := ih h.2
      refine ⟨⟨o, n, v, e, rdOf σ o v e, ktOf σ.env e.del, kbOf σ.heap e.del⟩ :: ts, ⟨⟨hev, rfl, fun i k hk hn => ktOf_mem hk hn, fun i k hk hn => kbOf_mem hk hn⟩, h1⟩, by simp [h2], ?_, ?_, h5⟩
      · intro t ht
        rcases List.mem_cons.1 ht with rfl | ht
        · exact h.1
        · exact h3 t ht
      · simp only [List.map_cons, List.reverse_cons, List.append_assoc, List.singleton_append]
        exact h4
    · exact h.elim

theorem indB_ind {x y : TE} (h : indB x.ts y.ts = true) : Ind x y := by
  unfold indB TE.ts at h
  simp only [Bool.and_eq_true, Bool.or_eq_true, Bool.not_eq_true', meets_iff] at h
  obtain ⟨a1, a2, a3, a4, a5, a6, a7, a8, a9, a10, a11, a12, a13, a14⟩ := h
  have isd : ∀ {d : Option Nat} {l : List Nat} {i : Nat}, isD d l = false → d = some i → i ∉ l := by
    intro d l i h e
    subst e
    simpa [isD] using h
  refine ⟨fun d hd => ⟨isd a1 hd, fun e => ?_, isd a3 hd⟩, fun d hd => ⟨isd a4 hd, isd a5 hd⟩, a6, a7, fun k hk => ⟨a8.imp id fun h => h k hk, a9 k hk, a10 k hk⟩, fun k hk => ⟨a11.imp id fun h => h k hk, a12 k hk⟩, a13, a14⟩
  rw [hd, e] at a2
  simp [sameD] at a2

def idx : Nat → List TE → List (Nat × TE)
  | _, [] => []
  | i, t :: ts => (i, t) :: idx (i + 1) ts
theorem idx_snd : ∀ {ts : List TE} {i : Nat}, (idx i ts).map (·.2) = ts := by
  intro ts
  induction ts with
  | nil => intro i; rfl
  | cons t ts ih => intro i; simp [idx, ih]
theorem idx_len : ∀ {ts : List TE} {i : Nat}, (idx i ts).length = ts.length := by
  intro ts
  induction ts with
  | nil => intro i; rfl
  | cons t ts ih => intro i; simp [idx, ih]
theorem idx_mem : ∀ {ts : List TE} {i : Nat} {p : Nat × TE}, p ∈ idx i ts → i ≤ p.1 ∧ ts[p.1 - i]? = some p.2 := by
  intro ts
  induction ts with
  | nil => intro i p h; cases h
  | cons t ts ih =>
    intro i p h
    rcases List.mem_cons.1 h with rfl | h
    · simp
    · obtain ⟨h1, h2⟩ := ih h
      refine ⟨by omega, ?_⟩
      have : p.1 - i = (p.1 - (i + 1)) + 1 := by omega
      rw [this]; simpa using h2
theorem idx_fst : ∀ {ts : List TE} {i k : Nat}, k ∈ (idx i ts).map (·.1) ↔ i ≤ k ∧ k < i + ts.length := by
  intro ts
  induction ts with
  | nil => intro i k; simp [idx]; try omega
  | cons t ts ih => intro i k; simp only [idx, List.map_cons, List.mem_cons, ih, List.length_cons]; omega
theorem idx_sort : ∀ {ts : List TE} {i : Nat}, (idx i ts).Pairwise fun p q => p.1 < q.1 := by
  intro ts
  induction ts with
  | nil => intro i; exact .nil
  | cons t ts ih => intro i; exact List.Pairwise.cons (fun q hq => by have := (idx_mem hq).1; simp only; omega) ih
theorem chkTail_mem {cl : List Nat} {i : Nat} {x : TE} : ∀ {ts : List TE} {j : Nat}, chkTail cl i x.ts j (ts.map TE.ts) = true → ∀ q ∈ idx j ts, (cl.getD q.1 0).testBit i = true ∨ Ind x q.2 := by
  intro ts
  induction ts with
  | nil => intro j _ q hq; cases hq
  | cons t ts ih =>
    intro j h q hq
    simp only [List.map_cons, chkTail, Bool.and_eq_true, Bool.or_eq_true] at h
    rcases List.mem_cons.1 hq with rfl | hq
    · exact h.1.imp id indB_ind
    · exact ih h.2 q hq
theorem chkGo_pw {cl : List Nat} : ∀ {ts : List TE} {i : Nat}, chkGo cl i (ts.map TE.ts) = true → (idx i ts).Pairwise fun p q => (cl.getD q.1 0).testBit p.1 = true ∨ Ind p.2 q.2 := by
  intro ts
  induction ts with
  | nil => intro i _; exact .nil
  | cons t ts ih =>
    intro i h
    simp only [List.map_cons, chkGo, Bool.and_eq_true] at h
    exact List.Pairwise.cons (chkTail_mem h.1) (ih h.2)

theorem evTab_any {T : Tab} {b : List Nat} {K : St → Prop} {ops : List AOp} {σ : St} (h : evTab T b ops σ [] K) : anyOps T ops b ops.length (ops.map fun _ => false) σ (fun σ' => ∃ σf, Eqv σf σ' ∧ K σf) := by
  obtain ⟨ts, h1, h2, h3, h4, h5⟩ := evTab_of h
  unfold chk at h4
  simp only [Bool.and_eq_true, beq_iff_eq, List.append_nil, List.length_reverse, List.reverse_reverse, List.length_map] at h4
  obtain ⟨c1, c2, c3, c4⟩ := h4
  have hlen : ts.length = ops.length := by rw [← h2]; simp
  have := anyOps_of (T := T) (ops := ops) c1 c2 (n := ops.length) (listed := ops.map fun _ => false) (l := idx 0 ts) (σ := σ) (by rw [idx_len, hlen]; exact Nat.le_refl _)
    (fun p hp => by
      have := (idx_mem hp).2
      rw [← h2, List.getElem?_map]
      simp only [Nat.sub_zero] at this
      rw [this]; rfl) idx_sort (fun i => by
      rw [idx_fst, List.getElem?_map]
      constructor
      · intro h
        cases hg : ops[i]? with
        | none => rw [hg] at h; cases h
        | some o => have := (List.getElem?_eq_some_iff.1 hg).1; omega
      · rintro ⟨_, h⟩
        have hi : i < ops.length := by omega
        rw [List.getElem?_eq_getElem hi]; rfl) (fun i hi => by
      rw [List.getElem?_map] at hi
      cases hg : ops[i]? with
      | none => rw [hg] at hi; cases hi
      | some o => rw [hg] at hi; cases hi) (chkGo_pw c4) (fun p hp => h3 _ (by
      have := (idx_mem hp).2
      exact List.mem_of_getElem? this)) (by rw [idx_snd]; exact h1)
  rw [idx_snd] at this
  exact anyOps_mono (fun σ' e => ⟨_, e, h5⟩) this
end Go.AM
