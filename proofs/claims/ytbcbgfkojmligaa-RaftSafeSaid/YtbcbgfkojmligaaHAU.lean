import Derived.Test.YtbcbgfkojmligaaHAT
/- What functions of the program answer, each under the conditions that its contract names. -/
set_option linter.unusedVariables false
set_option linter.unusedSimpArgs false
set_option maxRecDepth 100000
set_option maxHeartbeats 8000000
set_option linter.unusedSimpArgs false
namespace Go.AM
open Go.Proofs
section
variable {N : Nat} {g : Gh} {j : Nat} {n n' : Node}
theorem gStart_gi (hI : GI N g) (hj : j < N) (hn : NI N g j n) : GI N (gStart g (nTerm n + 1) j (nLog n)) ∧ Gx g (gStart g (nTerm n + 1) j (nLog n)) := by
  have hv := hn.vfut (nTerm n + 1) (by omega)
  have ho : g.el (nTerm n + 1) → g.L (nTerm n + 1) ≠ j := fun he hL => by have := (hn.own _ he hL).1; omega
  have hx := gStart_gx (l := nLog n) hv ho
  refine ⟨?_, hx⟩
  -- first the candidate's log, then its vote
  have hI1 : GI N { g with CL := upd2 g.CL (nTerm n + 1) j (nLog n) } := by
    have hne : ∀ T, g.el T → ¬ (T = nTerm n + 1 ∧ g.L T = j) := fun T he h => ho (h.1 ▸ he) (h.1 ▸ h.2)
    have hne2 : ∀ T k c, g.V T k = some c → (T = nTerm n + 1 ∧ c = j) → k ≠ j := fun T k c hk h e => by rw [h.1, e, hv] at hk; cases hk
    have oCL : ∀ T, g.el T → upd2 g.CL (nTerm n + 1) j (nLog n) T (g.L T) = g.CL T (g.L T) := fun T he => upd2_ne (hne T he)
    have hnoj : ∀ k, g.V (nTerm n + 1) k ≠ some j := fun k hk => by rw [hI.self _ _ _ hk] at hv; cases hv
    have oCL2 : ∀ T k c, g.V T k = some c → upd2 g.CL (nTerm n + 1) j (nLog n) T c = g.CL T c := fun T k c hk => upd2_ne (by rintro ⟨rfl, rfl⟩; exact hnoj k hk)
    refine ⟨hI.pos, hI.lead, hI.maj, hI.qv, hI.gl, hI.le, fun T he => ?_, fun T he i h1 h2 => ?_, fun T he i h1 => ?_, hI.vgl, fun T k c hk h1 hq => ?_, hI.ack, hI.a0, hI.vk, hI.self⟩
    · show (upd2 g.CL (nTerm n + 1) j (nLog n) T (g.L T)).length ≤ (g.LL T).length ∧ (g.LL T).take (upd2 g.CL (nTerm n + 1) j (nLog n) T (g.L T)).length = upd2 g.CL (nTerm n + 1) j (nLog n) T (g.L T)
      rw [oCL T he]; exact hI.pre T he
    · have h1 : (upd2 g.CL (nTerm n + 1) j (nLog n) T (g.L T)).length ≤ i := h1
      rw [oCL T he] at h1
      exact hI.app T he i h1 h2
    · have h1 : i < (upd2 g.CL (nTerm n + 1) j (nLog n) T (g.L T)).length := h1
      rw [oCL T he] at h1
      show tAt (upd2 g.CL (nTerm n + 1) j (nLog n) T (g.L T)) i < T
      rw [oCL T he]
      exact hI.clt T he i h1
    · show lastTm (g.VL T k) < lastTm (upd2 g.CL (nTerm n + 1) j (nLog n) T c) ∨ (lastTm (g.VL T k) = lastTm (upd2 g.CL (nTerm n + 1) j (nLog n) T c) ∧ (g.VL T k).length ≤ (upd2 g.CL (nTerm n + 1) j (nLog n) T c).length)
      rw [oCL2 T k c h1]
      exact hI.far T k c hk h1 hq
  have hn1 : NI N { g with CL := upd2 g.CL (nTerm n + 1) j (nLog n) } j n := by
    refine ⟨hn.id, hn.nodes, hn.base, hn.bt, hn.vl, hn.nl, hn.ml, hn.t0, hn.role, hn.gl, hn.le, hn.vfut, hn.vcur, fun hr => ?_, hn.ldr, hn.kept, hn.afut, hn.own, hn.cm, hn.nx, hn.mx⟩
    obtain ⟨a, b⟩ := hn.cand hr
    exact ⟨a.trans (upd2_ne (f := g.CL) (by rintro ⟨h, _⟩; omega)).symm, b⟩
  exact gVote_gi (g := { g with CL := upd2 g.CL (nTerm n + 1) j (nLog n) }) (c := j) hI1 hj hv hn1 (by omega) (fun T' hT' _ => by omega) (.inl rfl) (.inr ⟨by
    show lastTm (nLog n) = lastTm (upd2 g.CL (nTerm n + 1) j (nLog n) (nTerm n + 1) j)
    rw [upd2_at], by
    show (nLog n).length ≤ (upd2 g.CL (nTerm n + 1) j (nLog n) (nTerm n + 1) j).length
    rw [upd2_at]; exact Nat.le_refl _⟩)
end
end Go.AM

set_option maxRecDepth 100000
set_option maxHeartbeats 8000000
set_option linter.unusedSimpArgs false
namespace Go.AM
open Go.Proofs
/-- what a step leaves of a node -/
structure Same (n n' : Node) : Prop where
  id : nId n' = nId n
  nodes : nNodes n' = nNodes n
  base : nBase n' = nBase n
  bt : nBT n' = nBT n
section
variable {N : Nat} {g : Gh} {j : Nat} {n n' : Node}
theorem NI.cm_mono {g' : Gh} (hn : NI N g j n) (hx : Gx g g') (hlog : nLog n' = nLog n) (hc : nCommit n' = nCommit n) (ht : nTerm n ≤ nTerm n') :
    nCommit n' = 0 ∨ ∃ (T : Int) (p : Nat), Cm g' N T p ∧ T ≤ nTerm n' ∧ 0 ≤ nCommit n' ∧ nCommit n' ≤ p ∧ (nCommit n').toNat ≤ (nLog n').length ∧ (nLog n').take (nCommit n').toNat = (g'.LL T).take (nCommit n').toNat := by
  rw [hlog, hc]
  rcases hn.cm with e | ⟨T, p, a, b, c, d, e, f⟩
  · exact .inl e
  · refine .inr ⟨T, p, hx.cm a, by omega, c, d, e, ?_⟩
    have : (nCommit n).toNat ≤ p := by omega
    rw [hx.take a.1 (Nat.le_trans this a.2.2.1)]
    exact f
theorem NI_start (hI : GI N g) (hj : j < N) (hn : NI N g j n) (hs : Same n n') (f5 : (nVotes n').length = N) (f6 : nNext n' = nNext n) (f7 : nMatch n' = nMatch n) (f8 : nTerm n' = nTerm n + 1) (f9 : nRole n' = 1)
    (f10 : nLog n' = nLog n) (f11 : nVote n' = (j : Int)) (f12 : nCommit n' = nCommit n) (f13 : ∀ i, i < N → (nVotes n').getD i false = true → i = j) : NI N (gStart g (nTerm n + 1) j (nLog n)) j n' := by
  obtain ⟨_, hx⟩ := gStart_gi hI hj hn
  have ht0 := hn.t0
  have eV : (gStart g (nTerm n + 1) j (nLog n)).V (nTerm n + 1) j = some j := upd2_at ..
  refine ⟨hs.id.trans hn.id, hs.nodes.trans hn.nodes, hs.base.trans hn.base, hs.bt.trans hn.bt, f5, by rw [f6]; exact hn.nl, by rw [f7]; exact hn.ml, by omega, by omega, by rw [f10]; exact hx.gl hn.gl, fun i hi => ?_, fun T hT => ?_, .inr ⟨j, hj, f11, by rw [f8]; exact eV⟩, fun _ => ⟨?_, by rw [f8]; exact eV, fun i hi hv => ?_, fun he hL => ?_⟩, fun hr => by omega, fun T p he hle hp1 hp => ?_, fun T hT => ?_, fun T he hL => ?_, hn.cm_mono hx f10 f12 (by omega), by rw [f6]; exact hn.nx, by rw [f7]; exact hn.mx⟩
  · rw [f10] at hi ⊢
    have := hn.le i hi
    omega
  · show upd2 g.V (nTerm n + 1) j (some j) T j = none
    rw [upd2_ne (by rintro ⟨h, _⟩; omega)]
    exact hn.vfut T (by omega)
  · rw [f10, f8]; exact (upd2_at ..).symm
  · rw [f13 i hi hv, f8]; exact eV
  · rw [f8] at he hL
    have := (hn.own _ he hL).1
    omega
  · have hp : p ≤ g.A T j := hp
    have hle2 : T ≤ nTerm n := by
      rcases Int.lt_or_le (nTerm n) T with h | h
      · rw [hn.afut T h] at hp; omega
      · exact h
    rw [f10]
    exact hx.kept hI he hp1 (Nat.le_trans hp (hI.ack T j hj he)) (fun T' h => by have h : T' ≤ nTerm n := h; show T' ≤ nTerm n'; omega) (hn.kept T p he hle2 hp1 hp)
  · exact hn.afut T (by omega)
  · obtain ⟨a, b⟩ := hn.own T he hL
    exact ⟨by omega, b⟩
/-- A later term is heard of. -/
theorem NI_down (hI : GI N g) (hj : j < N) (hn : NI N g j n) (hs : Same n n') (f5 : (nVotes n').length = N) (f6 : nNext n' = nNext n) (f7 : nMatch n' = nMatch n) (f8 : nTerm n < nTerm n') (f9 : nRole n' = 0)
    (f10 : nLog n' = nLog n) (f11 : nVote n' = -1) (f12 : nCommit n' = nCommit n) : NI N g j n' := by
  have hx := Gx.refl g
  have ht0 := hn.t0
  refine ⟨hs.id.trans hn.id, hs.nodes.trans hn.nodes, hs.base.trans hn.base, hs.bt.trans hn.bt, f5, by rw [f6]; exact hn.nl, by rw [f7]; exact hn.ml, by omega, by omega, by rw [f10]; exact hn.gl, fun i hi => ?_, fun T hT => hn.vfut T (by omega), .inl ⟨f11, hn.vfut _ f8⟩, fun hr => by omega, fun hr => by omega, fun T p he hle hp1 hp => ?_, fun T hT => hn.afut T (by omega), fun T he hL => ?_, hn.cm_mono hx f10 f12 (by omega), by rw [f6]; exact hn.nx, by rw [f7]; exact hn.mx⟩
  · rw [f10] at hi ⊢
    have := hn.le i hi
    omega
  · have hle2 : T ≤ nTerm n := by
      rcases Int.lt_or_le (nTerm n) T with h | h
      · rw [hn.afut T h] at hp; omega
      · exact h
    rw [f10]
    exact hx.kept hI he hp1 (Nat.le_trans hp (hI.ack T j hj he)) (fun T' h => by have h : T' ≤ nTerm n := h; show T' ≤ nTerm n'; omega) (hn.kept T p he hle2 hp1 hp)
  · obtain ⟨a, b⟩ := hn.own T he hL
    exact ⟨by omega, b⟩
/-- The term, the vote, the log stay. -/
theorem NI_keep (hn : NI N g j n) (hs : Same n n') (f5 : (nVotes n').length = N) (f6 : (nNext n').length = N) (f7 : (nMatch n').length = N) (f8 : nTerm n' = nTerm n) (f9 : 0 ≤ nRole n' ∧ nRole n' ≤ 2)
    (f10 : nLog n' = nLog n) (f11 : nVote n' = nVote n) (k1 : nRole n' = 1 → nRole n = 1 ∧ ∀ i, i < N → (nVotes n').getD i false = true → g.V (nTerm n) i = some j)
    (k2 : nRole n' = 2 → nRole n = 2 ∧ ∀ i, i < N → nAt (nMatch n') i ≤ g.A (nTerm n) i)
    (k3 : nCommit n' = 0 ∨ ∃ (T : Int) (p : Nat), Cm g N T p ∧ T ≤ nTerm n ∧ 0 ≤ nCommit n' ∧ nCommit n' ≤ p ∧ (nCommit n').toNat ≤ (nLog n).length ∧ (nLog n).take (nCommit n').toNat = (g.LL T).take (nCommit n').toNat)
    (k4 : ∀ v, v ∈ nNext n' → (1 : Int) ≤ v) (k5 : ∀ v, v ∈ nMatch n' → (0 : Int) ≤ v) : NI N g j n' := by
  refine ⟨hs.id.trans hn.id, hs.nodes.trans hn.nodes, hs.base.trans hn.base, hs.bt.trans hn.bt, f5, f6, f7, by rw [f8]; exact hn.t0, f9, by rw [f10]; exact hn.gl, by rw [f10, f8]; exact hn.le, by rw [f8]; exact hn.vfut, by rw [f8, f11]; exact hn.vcur, fun hr => ?_, fun hr => ?_, by rw [f8, f10]; exact hn.kept, by rw [f8]; exact hn.afut, by rw [f8]; exact hn.own, by rw [f8, f10]; exact k3, k4, k5⟩
  · obtain ⟨a, b⟩ := k1 hr
    obtain ⟨c1, c2, c3, c4⟩ := hn.cand a
    rw [f8, f10]
    exact ⟨c1, c2, b, c4⟩
  · obtain ⟨a, b⟩ := k2 hr
    obtain ⟨c1, c2, c3, c4⟩ := hn.ldr a
    rw [f8, f10]
    exact ⟨c1, c2, c3, b⟩
end
end Go.AM

set_option maxRecDepth 100000
set_option maxHeartbeats 8000000
set_option linter.unusedSimpArgs false
namespace Go.AM
open Go.Proofs
section
variable {N : Nat} {g : Gh} {j c : Nat} {n n' : Node}
/-- A vote is given. -/
theorem NI_vote (hI : GI N g) (hj : j < N) (hc : c < N) (hn : NI N g j n) (hv : g.V (nTerm n) j = none) (hs : Same n n') (f5 : nVotes n' = nVotes n) (f6 : nNext n' = nNext n) (f7 : nMatch n' = nMatch n) (f8 : nTerm n' = nTerm n) (f9 : nRole n' = nRole n)
    (f10 : nLog n' = nLog n) (f11 : nVote n' = (c : Int)) (f12 : nCommit n' = nCommit n) : NI N (gVote g (nTerm n) j c (nLog n)) j n' := by
  have hx : Gx g (gVote g (nTerm n) j c (nLog n)) := gVote_gx hv
  refine ⟨hs.id.trans hn.id, hs.nodes.trans hn.nodes, hs.base.trans hn.base, hs.bt.trans hn.bt, by rw [f5]; exact hn.vl, by rw [f6]; exact hn.nl, by rw [f7]; exact hn.ml, by rw [f8]; exact hn.t0, by rw [f9]; exact hn.role, by rw [f10]; exact hx.gl hn.gl, by rw [f10, f8]; exact hn.le, fun T hT => ?_, .inr ⟨c, hc, f11, by rw [f8]; exact upd2_at ..⟩, fun hr => ?_, fun hr => ?_, fun T p he hle hp1 hp => ?_, fun T hT => hn.afut T (by omega), fun T he hL => ?_, hn.cm_mono hx f10 f12 (by omega), by rw [f6]; exact hn.nx, by rw [f7]; exact hn.mx⟩
  · show upd2 g.V (nTerm n) j (some c) T j = none
    rw [upd2_ne (by rintro ⟨h, _⟩; omega)]
    exact hn.vfut T (by omega)
  · rw [f9] at hr
    obtain ⟨_, c2, _⟩ := hn.cand hr
    rw [hv] at c2; cases c2
  · rw [f9] at hr
    rw [f8, f10, f7]
    exact hn.ldr hr
  · have hp : p ≤ g.A T j := hp
    rw [f8] at hle
    rw [f10, f8]
    exact hx.kept hI he hp1 (Nat.le_trans hp (hI.ack T j hj he)) (fun _ h => h) (hn.kept T p he hle hp1 hp)
  · rw [f8]; exact hn.own T he hL
/-- One begins to lead. -/
theorem NI_lead {cmd : ByteArray} (hI : GI N g) (hj : j < N) (hn : NI N g j n) (hne : ¬ g.el (nTerm n)) (h1 : 1 ≤ nTerm n) (hr : nRole n = 1) (hm : Maj N fun k => g.V (nTerm n) k = some j)
    (hs : Same n n') (f5 : (nVotes n').length = N) (f6 : (nNext n').length = N) (f7 : (nMatch n').length = N) (f8 : nTerm n' = nTerm n) (f9 : nRole n' = 2) (f10 : nLog n' = nLog n ++ [mkE (nTerm n) cmd]) (f11 : nVote n' = nVote n) (f12 : nCommit n' = nCommit n)
    (k2 : ∀ i, i < N → nAt (nMatch n') i ≤ if i = j then ((nLog n).length + 1 : Int) else 0) (k4 : ∀ v, v ∈ nNext n' → (1 : Int) ≤ v) (k5 : ∀ v, v ∈ nMatch n' → (0 : Int) ≤ v) : NI N (gLead g (nTerm n) j (nLog n ++ [mkE (nTerm n) cmd])) j n' := by
  have hx := gLead_gx (j := j) (l := nLog n ++ [mkE (nTerm n) cmd]) hne (hI.a0 _ j hne)
  have hG := gLead_gi (cmd := cmd) hI hj hne hn rfl h1 hr hm
  have hel : ∀ T', g.el T' → T' ≠ nTerm n := fun T' he e => hne (e ▸ he)
  have eLL : (gLead g (nTerm n) j (nLog n ++ [mkE (nTerm n) cmd])).LL (nTerm n) = nLog n ++ [mkE (nTerm n) cmd] := upd1_at ..
  have eL : (gLead g (nTerm n) j (nLog n ++ [mkE (nTerm n) cmd])).L (nTerm n) = j := upd1_at ..
  have hlen : (nLog n ++ [mkE (nTerm n) cmd]).length = (nLog n).length + 1 := by rw [List.length_append]; rfl
  have eA : (gLead g (nTerm n) j (nLog n ++ [mkE (nTerm n) cmd])).A (nTerm n) j = (nLog n).length + 1 := by rw [← hlen]; exact upd2_at ..
  refine ⟨hs.id.trans hn.id, hs.nodes.trans hn.nodes, hs.base.trans hn.base, hs.bt.trans hn.bt, f5, f6, f7, by rw [f8]; exact hn.t0, by omega, ?_, ?_, fun T hT => hn.vfut T (by omega), by rw [f8, f11]; exact hn.vcur, fun h => by omega, fun _ => ?_, fun T p he hle hp1 hp => ?_, fun T hT => ?_, fun T he hL => ?_, ?_, k4, k5⟩
  · have := hG.gl _ (.inl rfl)
    rw [eLL] at this
    rw [f10]; exact this
  · have := hG.le _ (.inl rfl)
    rw [eLL] at this
    rw [f10, f8]; exact this
  · rw [f8, f10, eLL, eL]
    refine ⟨.inl rfl, rfl, rfl, fun i hi => ?_⟩
    have := k2 i hi
    by_cases e : i = j
    · subst e
      rw [eA]
      rw [if_pos rfl] at this
      omega
    · rw [if_neg e] at this
      exact Int.le_trans this (Int.natCast_nonneg _)
  · rw [f10]
    by_cases e : T = nTerm n
    · subst e
      rw [eA] at hp
      exact .inl ⟨by rw [hlen]; exact hp, by rw [eLL]⟩
    · have he0 : g.el T := he.resolve_left e
      have hp : p ≤ upd2 g.A (nTerm n) j (nLog n ++ [mkE (nTerm n) cmd]).length T j := hp
      rw [upd2_ne (fun h => e h.1)] at hp
      rw [f8] at hle ⊢
      have hk := hx.kept hI he0 hp1 (Nat.le_trans hp (hI.ack T j hj he0)) (fun _ h => h) (hn.kept T p he0 hle hp1 hp)
      rcases hk with ⟨a, b⟩ | k
      · exact .inl ⟨by rw [hlen]; omega, by rw [List.take_append_of_le_length a]; exact b⟩
      · exact .inr k
  · show upd2 g.A (nTerm n) j _ T j = 0
    rw [upd2_ne (by rintro ⟨h, _⟩; omega)]
    exact hn.afut T (by omega)
  · by_cases e : T = nTerm n
    · subst e
      rw [f8, eA, eLL, hlen]
      exact ⟨Int.le_refl _, rfl⟩
    · have he0 : g.el T := he.resolve_left e
      rw [hx.L T he0] at hL
      obtain ⟨a, b⟩ := hn.own T he0 hL
      refine ⟨by omega, ?_⟩
      show upd2 g.A (nTerm n) j _ T j = (upd1 g.LL (nTerm n) _ T).length
      rw [upd2_ne (fun h => e h.1), upd1_ne e]; exact b
  · rw [f12, f10, f8]
    rcases hn.cm with e | ⟨T, p, a, b, c, d, e, f⟩
    · exact .inl e
    · refine .inr ⟨T, p, hx.cm a, b, c, d, by rw [hlen]; omega, ?_⟩
      have : (nCommit n).toNat ≤ p := by omega
      rw [hx.take a.1 (Nat.le_trans this a.2.2.1), List.take_append_of_le_length e]
      exact f
end
end Go.AM

set_option maxRecDepth 100000
set_option maxHeartbeats 8000000
set_option linter.unusedSimpArgs false
namespace Go.AM
open Go.Proofs
/-- Where the log is the leader's already, nothing is put. -/
theorem put_same {f n : List E} {q : Nat} (ht : f.take q = n.take q) (hq : q ≤ f.length) (hqn : q ≤ n.length) : ∀ (l : List E) (k r : Nat), l = (n.drop k).take r → k + l.length ≤ q → put' f k l = f := by
  intro l
  induction l with
  | nil => intro k r _ _; rfl
  | cons e l ih =>
    intro k r hl hk
    rw [List.length_cons] at hk
    have hkn : k < n.length := by omega
    have hkf : k < f.length := by omega
    cases r with
    | zero => simp at hl
    | succ r =>
      rw [List.drop_eq_getElem_cons hkn, List.take_succ_cons] at hl
      obtain ⟨he, hl2⟩ := List.cons.inj hl
      have hfe : f[k] = n[k] := by
        have : (f.take q)[k]? = (n.take q)[k]? := by rw [ht]
        rw [List.getElem?_take_of_lt (by omega), List.getElem?_take_of_lt (by omega), List.getElem?_eq_getElem hkf, List.getElem?_eq_getElem hkn] at this
        exact Option.some.inj this
      unfold put'
      rw [if_pos (by rw [List.getElem?_eq_getElem hkf, hfe, he]; rfl)]
      exact ih (k + 1) r hl2 (by omega)
theorem complete' {N : Nat} {g : Gh} (h : GI N g) {T T' : Int} {p : Nat} (hc : Cm g N T p) (hle : T ≤ T') (he : g.el T') : Has g T' T p := by
  rcases Int.lt_or_le T T' with hlt | hge
  · exact complete h hc _ T' (Nat.le_refl _) hlt he
  · have e : T' = T := by omega
    subst e
    exact ⟨hc.2.2.1, rfl⟩
section
variable {N : Nat} {g : Gh} {j : Nat} {n n' : Node}
/-- What a leader sends is taken. -/
theorem NI_take {p r : Nat} {es : List E} {c : Int} (hI : GI N g) (hj : j < N) (hn : NI N g j n) (he : g.el (nTerm n)) (hL : g.L (nTerm n) ≠ j) (hp : p ≤ (nLog n).length) (hpt : (nLog n).take p = (g.LL (nTerm n)).take p)
    (hes : es = ((g.LL (nTerm n)).drop p).take r) (hv : p + es.length ≤ (g.LL (nTerm n)).length) (hc : c ≤ 0 ∨ ∃ (T : Int) (q : Nat), Cm g N T q ∧ T ≤ nTerm n ∧ c ≤ q)
    (hs : Same n n') (f5 : nVotes n' = nVotes n) (f6 : nNext n' = nNext n) (f7 : nMatch n' = nMatch n) (f8 : nTerm n' = nTerm n) (f9 : nRole n' = 0) (f10 : nLog n' = put' (nLog n) p es) (f11 : nVote n' = nVote n)
    (f12 : nCommit n' = max (nCommit n) (min c ((p + es.length : Nat) : Int))) : NI N (gAck g (nTerm n) j (p + es.length)) j n' ∧ p + es.length ≤ (nLog n').length := by
  have hx : Gx g (gAck g (nTerm n) j (p + es.length)) := gAck_gx
  have hgl := hI.gl _ he
  have hpf := put_follow (GL.agr hn.gl hgl) es p r hp (by omega) hpt hes
  have hsame : ∀ q, q ≤ (nLog n).length → q ≤ (g.LL (nTerm n)).length → (nLog n).take q = (g.LL (nTerm n)).take q → p + es.length ≤ q → nLog n' = nLog n := fun q h1 h2 h3 h4 => by
    rw [f10]; exact put_same h3 h1 h2 es p r hes h4
  -- in short: what the log is now
  have hlog : (nLog n' = nLog n ∧ p + es.length ≤ (nLog n).length ∧ (nLog n).take (p + es.length) = (g.LL (nTerm n)).take (p + es.length)) ∨ nLog n' = (g.LL (nTerm n)).take (p + es.length) := by
    rw [f10]; exact hpf
  generalize hv' : p + es.length = v at *
  have hlen : v ≤ (nLog n').length ∧ (nLog n').take v = (g.LL (nTerm n)).take v := by
    rcases hlog with ⟨a, b, d⟩ | a
    · rw [a]; exact ⟨b, d⟩
    · rw [a, List.length_take, List.take_take, Nat.min_self]; exact ⟨by omega, rfl⟩
  -- a prefix that the leader has too stays
  have hstay : ∀ q, q ≤ (nLog n).length → q ≤ (g.LL (nTerm n)).length → (nLog n).take q = (g.LL (nTerm n)).take q → q ≤ (nLog n').length ∧ (nLog n').take q = (g.LL (nTerm n)).take q := by
    intro q h1 h2 h3
    rcases Nat.lt_or_ge q v with hlt | hge
    · exact ⟨by omega, take_le hlen.2 (by omega)⟩
    · rw [hsame q h1 h2 h3 hge]; exact ⟨h1, h3⟩
  have hglo : GL g (nLog n') := by
    rcases hlog with ⟨a, _⟩ | a
    · rw [a]; exact hn.gl
    · rw [a]; exact hgl.take _
  have hc0 : 0 ≤ nCommit n := by
    rcases hn.cm with e | ⟨_, _, _, _, h, _⟩
    · omega
    · exact h
  have eA : ∀ T', T' ≠ nTerm n → (gAck g (nTerm n) j v).A T' j = g.A T' j := fun T' h => upd2_ne (fun e => h e.1)
  refine ⟨⟨hs.id.trans hn.id, hs.nodes.trans hn.nodes, hs.base.trans hn.base, hs.bt.trans hn.bt, by rw [f5]; exact hn.vl, by rw [f6]; exact hn.nl, by rw [f7]; exact hn.ml, by rw [f8]; exact hn.t0, by omega, hx.gl hglo, fun i hi => ?_, by rw [f8]; exact hn.vfut, by rw [f8, f11]; exact hn.vcur, fun h => by omega, fun h => by omega, fun T' q he' hle hp1 hq => ?_, fun T' hT => ?_, fun T' he' hL' => ?_, ?_, by rw [f6]; exact hn.nx, by rw [f7]; exact hn.mx⟩, hlen.1⟩
  · rw [f8]
    rcases hlog with ⟨a, _⟩ | a
    · rw [a] at hi ⊢; exact hn.le i hi
    · rw [a] at hi ⊢
      rw [List.length_take] at hi
      rw [tAt_take (k := v) (l' := g.LL (nTerm n)) (by rw [List.take_take, Nat.min_self]) (by omega)]
      exact hI.le _ he i (by omega)
  · rw [f8] at hle
    by_cases e : T' = nTerm n
    · subst e
      have hq : q ≤ upd2 g.A (nTerm n) j (max (g.A (nTerm n) j) v) (nTerm n) j := hq
      rw [upd2_at] at hq
      rcases Nat.lt_or_ge v q with hlt | hge
      · have hq2 : q ≤ g.A (nTerm n) j := by omega
        rcases hn.kept _ q he (Int.le_refl _) hp1 hq2 with ⟨a, b⟩ | ⟨T'', a, b, _⟩
        · exact .inl (hstay q a (Nat.le_trans hq2 (hI.ack _ j hj he)) b)
        · have b : T'' ≤ nTerm n := b
          omega
      · exact .inl ⟨by omega, take_le hlen.2 hge⟩
    · rw [eA T' e] at hq
      have hk := hn.kept T' q he' hle hp1 hq
      by_cases hh : Has g (nTerm n) T' q
      · rcases hk with ⟨a, b⟩ | ⟨T'', a, b, d⟩
        · obtain ⟨x, y⟩ := hstay q a hh.1 (by rw [b, hh.2])
          exact .inl ⟨x, by rw [y]; exact hh.2⟩
        · exact .inr ⟨T'', a, by show T'' ≤ nTerm n'; rw [f8]; exact b, d⟩
      · exact .inr ⟨nTerm n, by omega, by show nTerm n ≤ nTerm n'; omega, he, hh⟩
  · rw [f8] at hT
    rw [eA T' (by omega)]
    exact hn.afut T' hT
  · have e : T' ≠ nTerm n := fun e => hL (e ▸ hL')
    rw [eA T' e, f8]
    exact hn.own T' he' hL'
  · rw [f8]
    rcases Int.lt_or_le (nCommit n) (min c (v : Int)) with hlt | hge
    · have e : nCommit n' = min c (v : Int) := by rw [f12]; omega
      rcases hc with hc | ⟨T', q, c1, c2, c3⟩
      · exfalso; omega
      · have hh := complete' hI c1 c2 he
        have h1 : (nCommit n').toNat ≤ v := by omega
        have h2 : (nCommit n').toNat ≤ q := by omega
        exact .inr ⟨T', q, hx.cm c1, c2, by omega, by omega, by omega, by rw [take_le hlen.2 h1]; exact take_le hh.2 h2⟩
    · have e : nCommit n' = nCommit n := by rw [f12]; omega
      rw [e]
      rcases hn.cm with e0 | ⟨T', q, c1, c2, c3, c4, c5, c6⟩
      · exact .inl e0
      · have hh := complete' hI c1 c2 he
        have h2 : (nCommit n).toNat ≤ q := by omega
        obtain ⟨x, y⟩ := hstay _ c5 (Nat.le_trans h2 hh.1) (by rw [c6]; exact (take_le hh.2 h2).symm)
        exact .inr ⟨T', q, hx.cm c1, c2, c3, c4, x, by rw [y]; exact take_le hh.2 h2⟩
end
end Go.AM
