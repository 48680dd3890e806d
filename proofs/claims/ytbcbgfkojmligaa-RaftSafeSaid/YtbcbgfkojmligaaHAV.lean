import Derived.Test.YtbcbgfkojmligaaHAU
/- What functions of the program answer, each under the conditions that its contract names. -/
set_option linter.unusedVariables false
set_option linter.unusedSimpArgs false
set_option maxRecDepth 100000
set_option maxHeartbeats 8000000
set_option linter.unusedSimpArgs false
namespace Go.AM
open Go.Proofs
theorem lastTm_take {l : List E} {q : Nat} (hq : q < l.length) : lastTm (l.take (q + 1)) = tAt l q := by
  have hl : (l.take (q + 1)).length = q + 1 := by rw [List.length_take]; omega
  unfold lastTm
  rw [hl, if_neg (by omega), show q + 1 - 1 = q by omega]
  exact tAt_take (k := q + 1) (by rw [List.take_take, Nat.min_self]) (by omega)
theorem termV0 {n : Node} (hb : nBase n = 0) (ht : nBT n = 0) {p : Nat} (hp : p ≤ (nLog n).length) : termV n (p : Int) = lastTm ((nLog n).take p) := by
  have hl : last n = (nLog n).length := by show nBase n + ((nLog n).length : Int) = _; omega
  unfold termV
  cases p with
  | zero => rw [if_pos (by rw [hb]; rfl), ht]; rfl
  | succ q =>
    rw [if_neg (by omega), if_pos (by omega), lastTm_take (by omega), hb, show (((q + 1 : Nat) : Int) - 0 - 1).toNat = q by omega]
    rfl
theorem last0 {n : Node} (hb : nBase n = 0) : last n = (nLog n).length := by show nBase n + ((nLog n).length : Int) = _; omega
theorem cntGe_cntP {l : List Int} {i : Int} : ∀ k, k ≤ l.length → cntGe l i k = cntP k (fun j => i ≤ nAt l j) := by
  intro k
  induction k with
  | zero => intro _; rw [cntP_zero]; unfold cntGe; simp
  | succ k ih =>
    intro hk
    rw [cntGe_succ (by omega), ih (by omega)]
    by_cases h : i ≤ nAt l k
    · rw [cntP_yes h, if_pos (show i ≤ l.getD k (dflt tI) from h)]
    · rw [cntP_no h, if_neg (show ¬ i ≤ l.getD k (dflt tI) from h)]
      rfl
theorem cnt_cntP {l : List Bool} : ∀ k, k ≤ l.length → countB l id k = cntP k (fun j => l.getD j false = true) := by
  intro k
  induction k with
  | zero => intro _; rw [cntP_zero]; unfold countB; simp
  | succ k ih =>
    intro hk
    cases h : l.getD k false with
    | true => rw [cntP_yes (P := fun j => l.getD j false = true) h, countB_yes (by omega) h, ih (by omega)]
    | false => rw [cntP_no (P := fun j => l.getD j false = true) (by rw [h]; exact Bool.false_ne_true), countB_no (by omega) h, ih (by omega)]
theorem advC_is (n : Node) : ∀ d, advC n d = nCommit n ∨ ∃ i, nCommit n < i ∧ i ≤ nCommit n + d ∧ advOk n i ∧ advC n d = i := by
  intro d
  induction d with
  | zero => left; rfl
  | succ d ih =>
    unfold advC
    by_cases h : advOk n (nCommit n + d + 1)
    · rw [if_pos h]; exact .inr ⟨_, by omega, by omega, h, rfl⟩
    · rw [if_neg h]
      rcases ih with e | ⟨i, a, b, c, e⟩
      · exact .inl e
      · exact .inr ⟨i, a, by omega, c, e⟩
theorem nAt_put {l : List Int} {i v : Int} {k : Nat} (P : Int → Prop) (h1 : (k : Int) = i → P v) (h2 : P (nAt l k)) : P (nAt (putL l i v) k) := by
  unfold putL
  split
  · rename_i h
    by_cases e : i.toNat = k
    · have : nAt (l.set i.toNat v) k = v := by
        unfold nAt
        rw [List.getD_eq_getElem?_getD, ← e, List.getElem?_set_self (by omega)]; rfl
      rw [this]; exact h1 (by omega)
    · have : nAt (l.set i.toNat v) k = nAt l k := by
        unfold nAt
        rw [List.getD_eq_getElem?_getD, List.getElem?_set_ne e, ← List.getD_eq_getElem?_getD]
      rw [this]; exact h2
  · exact h2
theorem mem_putL {l : List Int} {i v x : Int} (h : x ∈ putL l i v) : x = v ∨ x ∈ l := by
  unfold putL at h
  split at h
  · rcases List.mem_or_eq_of_mem_set h with h | h
    · exact .inr h
    · exact .inl h
  · exact .inr h
section
variable {N : Nat} {g : Gh} {j : Nat} {n n' : Node}
theorem NI.cm_log (hn : NI N g j n) : 0 ≤ nCommit n ∧ nCommit n ≤ (nLog n).length := by
  rcases hn.cm with e | ⟨_, _, _, _, h, _, h2, _⟩
  · omega
  · omega
theorem NI_adv (hn : NI N g j n) : NI N g j (adv n) := by
  unfold adv
  by_cases hr : nRole n = 2
  · rw [if_pos hr]
    obtain ⟨l1, l2, l3, l4⟩ := hn.ldr hr
    obtain ⟨c0, c1⟩ := hn.cm_log
    have hlast := last0 hn.base
    have hml := hn.ml
    refine NI_keep hn ⟨rfl, rfl, rfl, rfl⟩ hn.vl hn.nl hn.ml rfl hn.role rfl rfl (fun h => ?_) (fun _ => ⟨hr, l4⟩) ?_ hn.nx hn.mx
    · have h : nRole n = 1 := h
      rw [hr] at h; cases h
    · rcases advC_is n (last n - nCommit n).toNat with e | ⟨i, a, b, ⟨ho, hm⟩, e⟩
      · rw [show nCommit (setCommit n (advC n (last n - nCommit n).toNat)) = nCommit n from e]
        exact hn.cm
      · rw [show nCommit (setCommit n (advC n (last n - nCommit n).toNat)) = i from e]
        have hi : i ≤ (nLog n).length := by omega
        have hle : i.toNat ≤ (nLog n).length := by omega
        refine .inr ⟨nTerm n, i.toNat, ⟨l1, by omega, by rw [← l3]; exact hle, ?_, ?_⟩, Int.le_refl _, by omega, by omega, hle, by rw [l3]⟩
        · have h1 := termV0 hn.base hn.bt hle
          rw [show ((i.toNat : Nat) : Int) = i by omega, ho] at h1
          rw [← l3, h1]
          have h2 : lastTm ((nLog n).take (i.toNat - 1 + 1)) = _ := lastTm_take (l := nLog n) (q := i.toNat - 1) (by omega)
          rw [show i.toNat - 1 + 1 = i.toNat by omega] at h2
          exact h2.symm
        · unfold Maj
          rw [cntGe_cntP _ (Nat.le_refl _), hml] at hm
          have h3 : most n = ((N / 2 + 1 : Nat) : Int) := by
            unfold most
            rw [hn.nodes, tq1 (by omega)]
            omega
          rw [h3] at hm
          refine Nat.le_trans (Int.ofNat_le.1 hm) (cntP_mono fun k hk h => ?_)
          have := l4 k hk
          have h : i ≤ nAt (nMatch n) k := h
          omega
  · rw [if_neg hr]; exact hn
theorem NI_own (hj : j < N) (hn : NI N g j n) (hr : nRole n = 2) : NI N g j (ownM n) := by
  unfold ownM
  refine NI_adv ?_
  obtain ⟨l1, l2, l3, l4⟩ := hn.ldr hr
  obtain ⟨o1, o2⟩ := hn.own _ l1 l2
  have hlast := last0 hn.base
  refine NI_keep hn ⟨rfl, rfl, rfl, rfl⟩ hn.vl hn.nl ((putL_len ..).trans hn.ml) rfl hn.role rfl rfl (fun h => ?_) (fun _ => ⟨hr, fun i hi => nAt_put (fun x => x ≤ (g.A (nTerm n) i : Int)) (fun e => ?_) (l4 i hi)⟩) hn.cm hn.nx (fun v hv => ?_)
  · have h : nRole n = 1 := h
    rw [hr] at h; cases h
  · rw [hn.id] at e
    have e : i = j := by omega
    rw [e, o2, hlast, l3]
    exact Int.le_refl _
  · rcases mem_putL hv with e | e
    · omega
    · exact hn.mx v e
/-- A leader's log has one entry more. -/
theorem NI_grow {cmd : ByteArray} (hI : GI N g) (hj : j < N) (hn : NI N g j n) (hr : nRole n = 2) (hs : Same n n') (f5 : nVotes n' = nVotes n) (f6 : nNext n' = nNext n) (f7 : nMatch n' = nMatch n) (f8 : nTerm n' = nTerm n) (f9 : nRole n' = nRole n)
    (f10 : nLog n' = nLog n ++ [mkE (nTerm n) cmd]) (f11 : nVote n' = nVote n) (f12 : nCommit n' = nCommit n) : NI N (gGrow g (nTerm n) j (mkE (nTerm n) cmd)) j n' := by
  obtain ⟨l1, l2, l3, l4⟩ := hn.ldr hr
  obtain ⟨o1, o2⟩ := hn.own _ l1 l2
  have hx : Gx g (gGrow g (nTerm n) j (mkE (nTerm n) cmd)) := gGrow_gx o2 rfl
  have hG : GI N (gGrow g (nTerm n) j (mkE (nTerm n) cmd)) := gGrow_gi hI l1 l2 o2 rfl (fun T' h => hn.vfut T' h)
  have eLL : (gGrow g (nTerm n) j (mkE (nTerm n) cmd)).LL (nTerm n) = nLog n ++ [mkE (nTerm n) cmd] := by rw [l3]; exact upd1_at ..
  have hlen : (nLog n ++ [mkE (nTerm n) cmd]).length = (nLog n).length + 1 := by rw [List.length_append]; rfl
  have eA : (gGrow g (nTerm n) j (mkE (nTerm n) cmd)).A (nTerm n) j = (nLog n).length + 1 := by rw [l3]; exact upd2_at ..
  have oA : ∀ T' k, ¬ (T' = nTerm n ∧ k = j) → (gGrow g (nTerm n) j (mkE (nTerm n) cmd)).A T' k = g.A T' k := fun T' k h => upd2_ne h
  have oLL : ∀ T', T' ≠ nTerm n → (gGrow g (nTerm n) j (mkE (nTerm n) cmd)).LL T' = g.LL T' := fun T' h => upd1_ne h
  refine ⟨hs.id.trans hn.id, hs.nodes.trans hn.nodes, hs.base.trans hn.base, hs.bt.trans hn.bt, by rw [f5]; exact hn.vl, by rw [f6]; exact hn.nl, by rw [f7]; exact hn.ml, by rw [f8]; exact hn.t0, by rw [f9]; exact hn.role, ?_, ?_, by rw [f8]; exact hn.vfut, by rw [f8, f11]; exact hn.vcur, fun h => by omega, fun _ => ?_, fun T p he hle hp1 hp => ?_, fun T hT => ?_, fun T he hL => ?_, ?_, by rw [f6]; exact hn.nx, by rw [f7]; exact hn.mx⟩
  · have := hG.gl _ l1
    rw [eLL] at this
    rw [f10]; exact this
  · have := hG.le _ l1
    rw [eLL] at this
    rw [f10, f8]; exact this
  · rw [f8, f10, eLL, f7]
    exact ⟨l1, l2, rfl, fun i hi => Int.le_trans (l4 i hi) (Int.ofNat_le.2 (hx.A _ i))⟩
  · rw [f8] at hle
    by_cases e : T = nTerm n
    · subst e
      rw [eA] at hp
      refine .inl ?_
      rw [f10, eLL, hlen]
      exact ⟨hp, rfl⟩
    · rw [oA _ _ (fun h => e h.1)] at hp
      have hk := hn.kept T p he hle hp1 hp
      have hk2 : Kept g (nLog n') T p (fun T' => T' ≤ nTerm n) := by
        rcases hk with ⟨a, b⟩ | h
        · refine .inl ⟨by rw [f10, hlen]; omega, ?_⟩
          rw [f10, List.take_append_of_le_length a]; exact b
        · exact .inr h
      exact hx.kept hI he hp1 (Nat.le_trans hp (hI.ack T j hj he)) (fun T' h => by have h : T' ≤ nTerm n := h; show T' ≤ nTerm n'; omega) hk2
  · rw [f8] at hT
    rw [oA _ _ (fun h => by omega)]
    exact hn.afut T hT
  · rw [f8]
    by_cases e : T = nTerm n
    · subst e
      exact ⟨Int.le_refl _, by rw [eA, eLL, hlen]⟩
    · rw [oA _ _ (fun h => e h.1), oLL T e]
      exact hn.own T he hL
  · rw [f12, f8]
    rcases hn.cm with e | ⟨T, p, a, b, c, d, e, f⟩
    · exact .inl e
    · refine .inr ⟨T, p, hx.cm a, b, c, d, by rw [f10, hlen]; omega, ?_⟩
      have : (nCommit n).toNat ≤ p := by omega
      rw [hx.take a.1 (Nat.le_trans this a.2.2.1), f10, List.take_append_of_le_length e]
      exact f
end
structure Ok (N : Nat) (g g' : Gh) (j : Nat) : Prop where
  gi : GI N g'
  gx : Gx g g'
  cl : ∀ T c, g.V T c = some c → g'.CL T c = g.CL T c
  far : ∀ i, i ≠ j → Far g g' i
section
variable {N : Nat} {g g' g'' : Gh} {j : Nat} {n n' : Node} {T : Int} {c v : Nat} {l : List E}
theorem Ok.refl (hI : GI N g) : Ok N g g j := ⟨hI, Gx.refl g, fun _ _ _ => rfl, fun _ _ => ⟨fun _ => rfl, fun _ => rfl, fun _ => rfl, fun _ h h' => absurd h h', fun _ _ _ => rfl⟩⟩
theorem ok_vote (hI : GI N (gVote g T j c l)) (hv : g.V T j = none) : Ok N g (gVote g T j c l) j :=
  ⟨hI, gVote_gx hv, fun _ _ _ => rfl, fun i hi => ⟨fun T' => upd2_ne (fun h => hi h.2), fun _ => rfl, fun _ => rfl, fun _ h h' => absurd h h', fun _ _ _ => rfl⟩⟩
theorem ok_start (hI : GI N (gStart g T j l)) (hx : Gx g (gStart g T j l)) (hv : g.V T j = none) : Ok N g (gStart g T j l) j :=
  ⟨hI, hx, fun T' c' h => upd2_ne (by rintro ⟨rfl, rfl⟩; rw [hv] at h; cases h), fun i hi => ⟨fun T' => upd2_ne (fun h => hi h.2), fun _ => rfl, fun _ => upd2_ne (fun h => hi h.2), fun _ h h' => absurd h h', fun _ _ _ => rfl⟩⟩
theorem ok_lead (hI : GI N (gLead g T j l)) (hx : Gx g (gLead g T j l)) (hne : ¬ g.el T) : Ok N g (gLead g T j l) j :=
  ⟨hI, hx, fun _ _ _ => rfl, fun i hi => ⟨fun _ => rfl, fun _ => upd2_ne (fun h => hi h.2), fun _ => rfl, fun T' h h' => by
    rcases h with h | h
    · subst h
      intro hL
      exact hi (hL.symm.trans (upd1_at g.L T' j))
    · exact absurd h h', fun T' h _ => upd1_ne (fun e => hne (e ▸ h))⟩⟩
theorem ok_ack (hI : GI N (gAck g T j v)) : Ok N g (gAck g T j v) j :=
  ⟨hI, gAck_gx, fun _ _ _ => rfl, fun i hi => ⟨fun _ => rfl, fun _ => upd2_ne (fun h => hi h.2), fun _ => rfl, fun _ h h' => absurd h h', fun _ _ _ => rfl⟩⟩
theorem ok_grow {e : E} (hI : GI N (gGrow g T j e)) (hx : Gx g (gGrow g T j e)) (hL : g.L T = j) : Ok N g (gGrow g T j e) j :=
  ⟨hI, hx, fun _ _ _ => rfl, fun i hi => ⟨fun _ => rfl, fun _ => upd2_ne (fun h => hi h.2), fun _ => rfl, fun _ h h' => absurd h h', fun T' _ h => upd1_ne (fun e => hi (by rw [← h, e, hL]))⟩⟩
end
end Go.AM

set_option maxRecDepth 100000
set_option maxHeartbeats 8000000
set_option linter.unusedSimpArgs false
namespace Go.AM
open Go.Proofs
/-- where a leader sends from; when one asks -/
structure NX (n : Node) : Prop where
  nx : nRole n = 2 → ∀ v, v ∈ nNext n → v ≤ ((nLog n).length : Int) + 1
  cd : nRole n = 1 → 1 ≤ nTerm n
theorem advLog (n : Node) : nLog (adv n) = nLog n := by unfold adv; split <;> rfl
theorem advRole (n : Node) : nRole (adv n) = nRole n := by unfold adv; split <;> rfl
theorem advTerm (n : Node) : nTerm (adv n) = nTerm n := by unfold adv; split <;> rfl
theorem NX_adv {n : Node} (h : NX n) : NX (adv n) := by
  refine ⟨fun hr v hv => ?_, fun hr => ?_⟩
  · rw [advRole] at hr
    rw [adv_next] at hv
    rw [advLog]; exact h.nx hr v hv
  · rw [advRole] at hr
    rw [advTerm]; exact h.cd hr
theorem NX_own {n : Node} (h : NX n) : NX (ownM n) := NX_adv ⟨h.nx, h.cd⟩
theorem own_role (n : Node) : nRole (ownM n) = nRole n := advRole _
/-- a step of node j, and what it sends -/
def Ev (N : Nat) (g : Gh) (j : Nat) (n' : Node) (out : List Msg) : Prop := ∃ g', Ok N g g' j ∧ NI N g' j n' ∧ NX n' ∧ ∀ m ∈ out, MSI N g' m
theorem atL_in {l : List Int} {i : Int} (P : Int → Prop) (h0 : P 0) (h : ∀ k : Nat, k < l.length → (k : Int) = i → P (nAt l k)) : P (atL l i) := by
  unfold atL
  split
  · exact h0
  · exact h i.toNat (by omega) (by omega)
theorem nAt_mem {l : List Int} {k : Nat} (h : k < l.length) : nAt l k ∈ l := by
  unfold nAt
  rw [List.getD_eq_getElem?_getD, List.getElem?_eq_getElem h]
  exact List.getElem_mem h
section
variable {N : Nat} {g : Gh} {j : Nat} {n n' : Node}
theorem MSI_send (hn : NI N g j n) (hr : nRole n = 2) (hx : NX n) {to : Int} (h0 : 0 ≤ to) (h1 : to < N) : MSI N g (sendM n to) := by
  obtain ⟨l1, l2, l3, l4⟩ := hn.ldr hr
  have hnl := hn.nl
  have hz : 0 ≤ atL (nNext n) to - 1 ∧ atL (nNext n) to - 1 ≤ (nLog n).length := by
    unfold atL
    rw [if_neg (by omega)]
    have hm : (nNext n).getD to.toNat 0 ∈ nNext n := nAt_mem (l := nNext n) (k := to.toNat) (by omega)
    have a := hn.nx _ hm
    have b := hx.nx hr _ hm
    omega
  unfold sendM
  rw [if_neg (by rw [hn.base]; omega)]
  generalize atL (nNext n) to - 1 = z at *
  have hzl : z.toNat ≤ (nLog n).length := by omega
  have hbe : behindN n z = (nLog n).drop z.toNat := by unfold behindN; rw [hn.base, show z - 0 = z by omega]
  rw [hbe]
  refine ⟨⟨(by decide : (1 : Int) ≤ 3), (by decide : (3 : Int) ≤ 4)⟩, fun h => ?_, fun h => ?_, fun _ => ⟨l1, ?_, hz.1, ?_, ?_, ⟨20, ?_⟩, ?_⟩, fun h => ?_⟩
  · have h : (3 : Int) = 1 := h
    omega
  · have h : (3 : Int) = 2 := h
    omega
  · show nId n = _
    rw [hn.id, l2]
  · show z.toNat + (((nLog n).drop z.toNat).take 20).length ≤ (g.LL (nTerm n)).length
    rw [← l3, List.length_take, List.length_drop]; omega
  · show termV n z = lastTm ((g.LL (nTerm n)).take z.toNat)
    have := termV0 hn.base hn.bt hzl
    rw [show ((z.toNat : Nat) : Int) = z by omega] at this
    rw [this, l3]
  · show ((nLog n).drop z.toNat).take 20 = ((g.LL (nTerm n)).drop z.toNat).take 20
    rw [l3]
  · show nCommit n ≤ 0 ∨ _
    rcases hn.cm with e | ⟨T, p, a, b, c, d, _⟩
    · left; omega
    · exact .inr ⟨T, p, a, b, d⟩
  · have h : (3 : Int) = 4 := h
    omega
theorem MSI_others (hn : NI N g j n) (hr : nRole n = 2) (hx : NX n) : ∀ m ∈ othersN n, MSI N g m := by
  intro m hm
  unfold othersN sendsN at hm
  obtain ⟨to, h1, rfl⟩ := List.mem_map.1 hm
  have h2 := (List.mem_filter.1 h1).1
  rw [List.mem_range] at h2
  have h3 : (nodesN n).toNat ≤ N := by
    unfold nodesN
    have := hn.nodes
    omega
  exact MSI_send hn hr hx (by omega) (by omega)
/-- only the clock, or whom one follows, changes -/
theorem NI_clock {c : Int} (hn : NI N g j n) : NI N g j (setClock n c) :=
  NI_keep hn ⟨rfl, rfl, rfl, rfl⟩ hn.vl hn.nl hn.ml rfl hn.role rfl rfl (fun h => ⟨h, (hn.cand h).2.2.1⟩) (fun h => ⟨h, (hn.ldr h).2.2.2⟩) hn.cm hn.nx hn.mx
theorem NX_clock {c : Int} (h : NX n) : NX (setClock n c) := ⟨h.nx, h.cd⟩
theorem votes_rep (hN : N ≤ 5) (h : nNodes n = N) : votes n = List.replicate N false := by
  unfold votes
  rw [h, show (max 0 (min (N : Int) 5)).toNat = N by omega]
theorem Ev_start (hI : GI N g) (hN : N ≤ 5) (hj : j < N) (hn : NI N g j n) : Ev N g j (start1 n) (start2 n) := by
  obtain ⟨hG, hx⟩ := gStart_gi hI hj hn
  have hv := votes_rep (n := start0 n) hN hn.nodes
  have hid : nId (start0 n) = j := hn.id
  have e : start1 n = mkN (nId (start0 n)) (nNodes (start0 n)) (nTerm (start0 n)) (nVote (start0 n)) (nBase (start0 n)) (nBT (start0 n)) (nSnap (start0 n)) (nLog (start0 n)) (nRole (start0 n)) (nLead (start0 n)) (nCommit (start0 n)) ((List.replicate N false).set j true) (nNext (start0 n)) (nMatch (start0 n)) (nClock (start0 n)) := by
    unfold start1 own
    rw [hv, List.length_replicate, if_pos (by rw [hid]; omega), show (nId (start0 n)).toNat = j by rw [hid]; omega]
  have hlen : (nVotes (start1 n)).length = N := by
    rw [e]; show ((List.replicate N false).set j true).length = N
    rw [List.length_set, List.length_replicate]
  have hnn : NI N (gStart g (nTerm n + 1) j (nLog n)) j (start1 n) := by
    refine NI_start hI hj hn (by rw [e]; exact ⟨rfl, rfl, rfl, rfl⟩) hlen (by rw [e]; rfl) (by rw [e]; rfl) (by rw [e]; rfl) (by rw [e]; rfl) (by rw [e]; rfl) (by rw [e]; exact hn.id) (by rw [e]; rfl) fun i hi hb => ?_
    rw [e] at hb
    have hb : ((List.replicate N false).set j true).getD i false = true := hb
    apply Classical.byContradiction
    intro hne
    rw [List.getD_eq_getElem?_getD, List.getElem?_set_ne (fun h => hne h.symm), List.getElem?_replicate, if_pos hi] at hb
    cases hb
  refine ⟨_, ok_start hG hx (hn.vfut _ (by omega)), hnn, ⟨fun hr => ?_, fun _ => ?_⟩, fun m hm => ?_⟩
  · rw [e] at hr
    have hr : (1 : Int) = 2 := hr
    omega
  · rw [e]; show 1 ≤ nTerm n + 1
    have := hn.t0
    omega
  · unfold start2 startMsgs at hm
    obtain ⟨to, _, rfl⟩ := List.mem_map.1 hm
    have hl : last (start1 n) = (nLog n).length := by rw [last0 hnn.base, e]; rfl
    refine ⟨⟨(by decide : (1 : Int) ≤ 1), (by decide : (1 : Int) ≤ 4)⟩, fun _ => ⟨j, hj, ?_, ?_, ?_, ?_⟩, fun h => ?_, fun h => ?_, fun h => ?_⟩
    · exact hnn.id
    · show upd2 g.V (nTerm n + 1) j (some j) (nTerm (start1 n)) j = some j
      rw [e]; exact upd2_at ..
    · show last (start1 n) = ((upd2 g.CL (nTerm n + 1) j (nLog n) (nTerm (start1 n)) j).length : Int)
      rw [hl, show nTerm (start1 n) = nTerm n + 1 by rw [e]; rfl, upd2_at]
    · show termV (start1 n) (last (start1 n)) = lastTm (upd2 g.CL (nTerm n + 1) j (nLog n) (nTerm (start1 n)) j)
      have hlog : nLog (start1 n) = nLog n := by rw [e]; rfl
      rw [hl, termV0 hnn.base hnn.bt (by rw [hlog]; exact Nat.le_refl _), hlog, List.take_length, show nTerm (start1 n) = nTerm n + 1 by rw [e]; rfl, upd2_at]
    · have h : (1 : Int) = 2 := h
      omega
    · have h : (1 : Int) = 3 := h
      omega
    · have h : (1 : Int) = 4 := h
      omega
theorem startRole (hN : N ≤ 5) : nRole (start1 n) = 1 := by unfold start1 own; split <;> rfl
theorem Ev_lead (hI : GI N g) (hN : N ≤ 5) (hj : j < N) (hn : NI N g j n) (hx : NX n) (hr : nRole n = 1) (hm : Maj N fun k => g.V (nTerm n) k = some j) : Ev N g j (lead1 n) (lead2 n) := by
  obtain ⟨c1, c2, c3, c4⟩ := hn.cand hr
  have h1 := hx.cd hr
  have hne : ¬ g.el (nTerm n) := by
    intro he
    obtain ⟨k, _, a, b⟩ := (hI.maj _ he).meet hm
    have a := hI.qv _ k he a
    have b : g.V (nTerm n) k = some j := b
    rw [a] at b
    exact c4 he (Option.some.inj b)
  have hG := gLead_gi (cmd := noB) hI hj hne hn rfl h1 hr hm
  have hgx := gLead_gx (j := j) (l := nLog n ++ [mkE (nTerm n) noB]) hne (hI.a0 _ j hne)
  have hnd : (nodesN n).toNat = N := by
    unfold nodesN
    have := hn.nodes
    omega
  have hlast := last0 hn.base
  have hL : NI N (gLead g (nTerm n) j (nLog n ++ [mkE (nTerm n) noB])) j (lead0 n) := by
    refine NI_lead hI hj hn hne h1 hr hm ⟨rfl, rfl, rfl, rfl⟩ hn.vl (by rw [← hnd]; exact List.length_replicate ..) (by rw [← hnd]; exact List.length_replicate ..) rfl rfl rfl rfl rfl (fun i hi => ?_) (fun v hv => ?_) (fun v hv => ?_)
    · have e : nAt (nMatch (lead0 n)) i = 0 := by
        show (List.replicate (nodesN n).toNat (0 : Int)).getD i 0 = 0
        rw [hnd, List.getD_eq_getElem?_getD, List.getElem?_replicate, if_pos hi]; rfl
      rw [e]; split <;> omega
    · have hv : v ∈ List.replicate (nodesN n).toNat (last n + 1) := hv
      have := List.eq_of_mem_replicate hv
      omega
    · have hv : v ∈ List.replicate (nodesN n).toNat (0 : Int) := hv
      have := List.eq_of_mem_replicate hv
      omega
  have hX : NX (lead0 n) := by
    refine ⟨fun _ v hv => ?_, fun h => ?_⟩
    · have hv : v ∈ List.replicate (nodesN n).toNat (last n + 1) := hv
      have := List.eq_of_mem_replicate hv
      show v ≤ ((nLog n ++ [mkE (nTerm n) noB]).length : Int) + 1
      rw [List.length_append]
      show v ≤ (((nLog n).length + 1 : Nat) : Int) + 1
      omega
    · have h : (2 : Int) = 1 := h
      omega
  have hO := NI_own hj hL rfl
  have hrO : nRole (ownM (lead0 n)) = 2 := own_role _
  exact ⟨_, ok_lead hG hgx hne, hO, NX_own hX, MSI_others hO hrO (NX_own hX)⟩
theorem Ev_stay (hI : GI N g) (hn : NI N g j n) (hx : NX n) : Ev N g j n [] := ⟨g, Ok.refl hI, hn, hx, fun _ h => by cases h⟩
theorem Ev_prop {cmd : ByteArray} (hI : GI N g) (hj : j < N) (hn : NI N g j n) (hx : NX n) : Ev N g j (prop1 n cmd) (prop2 n cmd) := by
  unfold prop1 prop2
  by_cases h : nRole n = 2 ∧ (nLog n).length < 200
  · rw [if_pos h, if_pos h]
    obtain ⟨hr, _⟩ := h
    obtain ⟨l1, l2, l3, l4⟩ := hn.ldr hr
    obtain ⟨o1, o2⟩ := hn.own _ l1 l2
    have hgx : Gx g (gGrow g (nTerm n) j (mkE (nTerm n) cmd)) := gGrow_gx o2 rfl
    have hG : GI N (gGrow g (nTerm n) j (mkE (nTerm n) cmd)) := gGrow_gi hI l1 l2 o2 rfl (fun T' h => hn.vfut T' h)
    have hA : NI N (gGrow g (nTerm n) j (mkE (nTerm n) cmd)) j (addE n cmd) := NI_grow hI hj hn hr ⟨rfl, rfl, rfl, rfl⟩ rfl rfl rfl rfl rfl rfl rfl rfl
    have hX : NX (addE n cmd) := by
      refine ⟨fun _ v hv => ?_, fun h => ?_⟩
      · have := hx.nx hr v hv
        show v ≤ ((nLog n ++ [mkE (nTerm n) cmd]).length : Int) + 1
        rw [List.length_append]
        show v ≤ (((nLog n).length + 1 : Nat) : Int) + 1
        omega
      · have h : nRole n = 1 := h
        omega
    have hO := NI_own hj hA hr
    have hrO : nRole (ownM (addE n cmd)) = 2 := (own_role _).trans hr
    exact ⟨_, ok_grow hG hgx l2, hO, NX_own hX, MSI_others hO hrO (NX_own hX)⟩
  · rw [if_neg h, if_neg h]
    exact Ev_stay hI hn hx
theorem Ev_wake (hI : GI N g) (hN : N ≤ 5) (hj : j < N) (hn : NI N g j n) : Ev N g j (wakeN j N (hard n)) [] := by
  have e1 : nId (newN j N) = j := by
    show min (max (j : Int) 0) (min (max (N : Int) 1) 5 - 1) = j
    omega
  have e2 : nNodes (newN j N) = N := by
    show min (max (N : Int) 1) 5 = N
    omega
  have e3 : (min (max (N : Int) 1) 5).toNat = N := by omega
  refine ⟨g, Ok.refl hI, NI_keep hn ⟨e1.trans hn.id.symm, e2.trans hn.nodes.symm, rfl, rfl⟩ ?_ ?_ ?_ rfl ⟨(by decide : (0 : Int) ≤ 0), (by decide : (0 : Int) ≤ 2)⟩ rfl rfl (fun h => ?_) (fun h => ?_) (.inl hn.base) (fun v hv => ?_) (fun v hv => ?_), ⟨fun h => ?_, fun h => ?_⟩, fun _ h => by cases h⟩
  · show (List.replicate (min (max (N : Int) 1) 5).toNat false).length = N
    rw [List.length_replicate, e3]
  · show (List.replicate (min (max (N : Int) 1) 5).toNat (1 : Int)).length = N
    rw [List.length_replicate, e3]
  · show (List.replicate (min (max (N : Int) 1) 5).toNat (0 : Int)).length = N
    rw [List.length_replicate, e3]
  · have h : (0 : Int) = 1 := h
    omega
  · have h : (0 : Int) = 2 := h
    omega
  · have hv : v ∈ List.replicate (min (max (N : Int) 1) 5).toNat (1 : Int) := hv
    have := List.eq_of_mem_replicate hv
    omega
  · have hv : v ∈ List.replicate (min (max (N : Int) 1) 5).toNat (0 : Int) := hv
    have := List.eq_of_mem_replicate hv
    omega
  · have h : (0 : Int) = 2 := h
    omega
  · have h : (0 : Int) = 1 := h
    omega
end
end Go.AM

set_option maxRecDepth 100000
set_option maxHeartbeats 8000000
set_option linter.unusedSimpArgs false
namespace Go.AM
open Go.Proofs
section
variable {N : Nat} {g : Gh} {j : Nat} {n n' d : Node} {m : Msg}
theorem NI_downN {t : Int} (hI : GI N g) (hN : N ≤ 5) (hj : j < N) (hn : NI N g j n) (hx : NX n) : NI N g j (down n t) ∧ NX (down n t) ∧ t ≤ nTerm (down n t) := by
  unfold down
  by_cases h : nTerm n < t
  · rw [if_pos h]
    refine ⟨NI_down hI hj hn ⟨rfl, rfl, rfl, rfl⟩ ?_ rfl rfl h rfl rfl rfl rfl, ⟨fun h => ?_, fun h => ?_⟩, Int.le_refl _⟩
    · show (votes n).length = N
      rw [votes_rep hN hn.nodes, List.length_replicate]
    · have h : (0 : Int) = 2 := h
      omega
    · have h : (0 : Int) = 1 := h
      omega
  · rw [if_neg h]
    exact ⟨hn, hx, by omega⟩
theorem Ev_asked (hI : GI N g) (hj : j < N) (hn : NI N g j d) (hx : NX d) (hm : MSI N g m) (hk : mKind m = 1) : Ev N g j (asked1' d m) (asked2' d m) := by
  unfold asked1' asked2'
  cases hb : askB d m with
  | false =>
    rw [if_neg Bool.false_ne_true]
    refine ⟨g, Ok.refl hI, hn, hx, fun x hx => ?_⟩
    cases List.mem_singleton.1 hx
    refine ⟨(by decide : (1 : Int) ≤ 2 ∧ (2 : Int) ≤ 4), fun h => ?_, fun _ h => ?_, fun h => ?_, fun h => ?_⟩
    · have h : (2 : Int) = 1 := h
      omega
    · cases h
    · have h : (2 : Int) = 3 := h
      omega
    · have h : (2 : Int) = 4 := h
      omega
  | true =>
    rw [if_pos rfl]
    obtain ⟨c, hc, f1, f2, f3, f4⟩ := hm.ask hk
    unfold askB at hb
    simp only [Bool.and_eq_true, Bool.or_eq_true, decide_eq_true_eq] at hb
    obtain ⟨⟨ht, hv⟩, hup⟩ := hb
    have hl := last0 hn.base
    have hup : lastTm (nLog d) < mAt m ∨ mAt m = lastTm (nLog d) ∧ ((nLog d).length : Int) ≤ mIndex m := by
      have := termV0 hn.base hn.bt (Nat.le_refl (nLog d).length)
      rw [List.take_length] at this
      rw [← this, ← hl]; exact hup
    rw [ht] at f2 f3 f4
    have out : ∀ g', g'.V (nTerm d) j = some c → ∀ x ∈ [mkM 2 (nId d) (mFrom m) (nTerm d) 0 0 true 0 [] noB], MSI N g' x := by
      intro g' hv' x hx
      cases List.mem_singleton.1 hx
      refine ⟨(by decide : (1 : Int) ≤ 2 ∧ (2 : Int) ≤ 4), fun h => ?_, fun _ _ => ⟨j, c, hj, hn.id, f1, hv'⟩, fun h => ?_, fun h => ?_⟩
      · have h : (2 : Int) = 1 := h
        omega
      · have h : (2 : Int) = 3 := h
        omega
      · have h : (2 : Int) = 4 := h
        omega
    rcases hn.vcur with ⟨v1, v2⟩ | ⟨c', v0, v1, v2⟩
    · have hG : GI N (gVote g (nTerm d) j c (nLog d)) := by
        refine gVote_gi hI hj v2 hn (Int.le_refl _) (fun T' h _ => by omega) (.inr f2) ?_
        rw [← f4]
        rcases hup with h | ⟨h, h'⟩
        · exact .inl h
        · exact .inr ⟨h.symm, by omega⟩
      refine ⟨_, ok_vote hG v2, NI_vote hI hj hc hn v2 ⟨rfl, rfl, rfl, rfl⟩ rfl rfl rfl rfl rfl rfl f1 rfl, ⟨hx.nx, hx.cd⟩, out _ (upd2_at ..)⟩
    · have e : c' = c := by
        rw [v1, f1] at hv
        omega
      subst e
      exact ⟨g, Ok.refl hI, NI_keep hn ⟨rfl, rfl, rfl, rfl⟩ hn.vl hn.nl hn.ml rfl hn.role rfl (f1.trans v1.symm) (fun h => ⟨h, (hn.cand h).2.2.1⟩) (fun h => ⟨h, (hn.ldr h).2.2.2⟩) hn.cm hn.nx hn.mx, ⟨hx.nx, hx.cd⟩, out _ v2⟩
theorem getD_set_true {l : List Bool} {a k : Nat} (h : (l.set a true).getD k false = true) : k = a ∨ l.getD k false = true := by
  by_cases e : a = k
  · exact .inl e.symm
  · right
    rw [List.getD_eq_getElem?_getD, List.getElem?_set_ne e, ← List.getD_eq_getElem?_getD] at h
    exact h
theorem NI_given (hI : GI N g) (hj : j < N) (hn : NI N g j d) (hx : NX d) (hm : MSI N g m) (hk : mKind m = 2) (hto : mTo m = nId d) : NI N g j (given1' d m) ∧ NX (given1' d m) ∧ nTerm (given1' d m) = nTerm d ∧ (given2' d m = true → Maj N fun k => g.V (nTerm d) k = some j) := by
  unfold given1' given2'
  by_cases h : givenC d m
  · rw [if_pos h, if_pos h]
    obtain ⟨hy, ht, hr, h0, hlt⟩ := h
    obtain ⟨i, c, hi, f1, f2, f3⟩ := hm.give hk hy
    have hc : c = j := by
      have := hn.id
      omega
    subst hc
    rw [ht] at f3
    have hfrom : (mFrom m).toNat = i := by omega
    have hvs : ∀ k, k < N → ((nVotes d).set (mFrom m).toNat true).getD k false = true → g.V (nTerm d) k = some c := by
      intro k hk h
      rcases getD_set_true h with e | e
      · rw [e, hfrom]; exact f3
      · exact (hn.cand hr).2.2.1 k hk e
    have hlen : ((nVotes d).set (mFrom m).toNat true).length = N := by rw [List.length_set]; exact hn.vl
    refine ⟨NI_keep hn ⟨rfl, rfl, rfl, rfl⟩ hlen hn.nl hn.ml rfl hn.role rfl rfl (fun _ => ⟨hr, hvs⟩) (fun h => ⟨h, (hn.ldr h).2.2.2⟩) hn.cm hn.nx hn.mx, ⟨hx.nx, hx.cd⟩, rfl, fun hb => ?_⟩
    have hb := of_decide_eq_true hb
    unfold cnt at hb
    rw [cnt_cntP _ (Nat.le_refl _), hlen] at hb
    have h3 : most d = ((N / 2 + 1 : Nat) : Int) := by
      unfold most
      rw [hn.nodes, tq1 (by omega)]
      omega
    rw [h3] at hb
    exact Nat.le_trans (Int.ofNat_le.1 hb) (cntP_mono hvs)
  · rw [if_neg h, if_neg h]
    exact ⟨hn, hx, rfl, fun h => by cases h⟩
theorem Ev_given (hI : GI N g) (hN : N ≤ 5) (hj : j < N) (hn : NI N g j n) (hx : NX n) (hm : MSI N g m) (hk : mKind m = 2) (hto : mTo m = nId n) : Ev N g j (gv1 n m) (gv2 n m) := by
  obtain ⟨hd, hdx, _⟩ := NI_downN (t := mTerm m) hI hN hj hn hx
  have hto : mTo m = nId (down n (mTerm m)) := by rw [hto, hn.id, hd.id]
  obtain ⟨h1, h2, h3, h4⟩ := NI_given hI hj hd hdx hm hk hto
  unfold gv1 gv2
  by_cases h : given2 n m = true ∧ nRole (given1 n m) = 1
  · rw [if_pos h, if_pos h]
    refine Ev_lead hI hN hj h1 h2 h.2 ?_
    rw [show nTerm (given1 n m) = nTerm (down n (mTerm m)) from h3]
    exact h4 h.1
  · rw [if_neg h, if_neg h]
    exact Ev_stay hI h1 h2
theorem NI_next {l : List Int} (hn : NI N g j d) (hl : l.length = (nNext d).length) (h : ∀ v, v ∈ l → (1 : Int) ≤ v) : NI N g j (setNext d l) :=
  NI_keep hn ⟨rfl, rfl, rfl, rfl⟩ hn.vl (hl.trans hn.nl) hn.ml rfl hn.role rfl rfl (fun h => ⟨h, (hn.cand h).2.2.1⟩) (fun h => ⟨h, (hn.ldr h).2.2.2⟩) hn.cm h hn.mx
theorem NI_match {l : List Int} (hn : NI N g j d) (hl : l.length = (nMatch d).length) (h : ∀ v, v ∈ l → (0 : Int) ≤ v) (h2 : nRole d = 2 → ∀ i, i < N → nAt l i ≤ g.A (nTerm d) i) : NI N g j (setMatch d l) :=
  NI_keep hn ⟨rfl, rfl, rfl, rfl⟩ hn.vl hn.nl (hl.trans hn.ml) rfl hn.role rfl rfl (fun h => ⟨h, (hn.cand h).2.2.1⟩) (fun h => ⟨h, h2 h⟩) hn.cm hn.nx h
theorem Ev_heard (hI : GI N g) (hj : j < N) (hn : NI N g j d) (hx : NX d) (hm : MSI N g m) (hk : mKind m = 4) (hf0 : 0 ≤ mFrom m) (hf1 : mFrom m < N) (hi0 : 0 ≤ mIndex m) : Ev N g j (heard1' d m) (heard2' d m) := by
  unfold heard1' heard2'
  by_cases h : nRole d = 2 ∧ mTerm m = nTerm d
  · rw [if_pos h, if_pos h]
    obtain ⟨hr, ht⟩ := h
    obtain ⟨l1, l2, l3, l4⟩ := hn.ldr hr
    have hl := last0 hn.base
    have hnl := hn.nl
    have hml := hn.ml
    have hmat : 0 ≤ atL (nMatch d) (mFrom m) ∧ atL (nMatch d) (mFrom m) ≤ (nLog d).length ∧ atL (nMatch d) (mFrom m) ≤ (g.A (nTerm d) (mFrom m).toNat : Int) := by
      refine atL_in (fun x => 0 ≤ x ∧ x ≤ ((nLog d).length : Int) ∧ x ≤ (g.A (nTerm d) (mFrom m).toNat : Int)) ⟨by omega, by omega, by omega⟩ fun k hk e => ?_
      have a := hn.mx _ (nAt_mem hk)
      have b := l4 k (by omega)
      have c := hI.ack (nTerm d) k (by omega) l1
      rw [← l3] at c
      rw [show (mFrom m).toNat = k by omega]
      exact ⟨a, by omega, b⟩
    have hnex : 1 ≤ atL (nNext d) (mFrom m) ∧ atL (nNext d) (mFrom m) ≤ ((nLog d).length : Int) + 1 := by
      have e : atL (nNext d) (mFrom m) = nAt (nNext d) (mFrom m).toNat := if_neg (by omega)
      have h := nAt_mem (l := nNext d) (k := (mFrom m).toNat) (by omega)
      rw [e]
      exact ⟨hn.nx _ h, hx.nx hr _ h⟩
    by_cases hy : mYes m = true
    · rw [if_pos hy, if_pos hy]
      obtain ⟨i, hi, f1, f2, f3⟩ := hm.took hk hy
      rw [ht] at f3
      have hg : 0 ≤ gotI d m ∧ gotI d m ≤ (nLog d).length ∧ gotI d m ≤ g.A (nTerm d) i := by
        unfold gotI
        rw [hl]
        have : (mFrom m).toNat = i := by omega
        rw [this] at hmat
        omega
      have hM : NI N g j (setMatch d (putL (nMatch d) (mFrom m) (gotI d m))) := by
        refine NI_match hn (putL_len ..) (fun v hv => ?_) fun _ k hk => nAt_put (fun x => x ≤ (g.A (nTerm d) k : Int)) (fun e => ?_) (l4 k hk)
        · rcases mem_putL hv with e | e
          · omega
          · exact hn.mx v e
        · have : k = i := by omega
          rw [this]; exact hg.2.2
      have hNx : NI N g j (setNext (setMatch d (putL (nMatch d) (mFrom m) (gotI d m))) (putL (nNext d) (mFrom m) (gotI d m + 1))) := by
        refine NI_next hM (putL_len ..) fun v hv => ?_
        rcases mem_putL hv with e | e
        · omega
        · exact hn.nx v e
      have hXx : NX (setNext (setMatch d (putL (nMatch d) (mFrom m) (gotI d m))) (putL (nNext d) (mFrom m) (gotI d m + 1))) := by
        refine ⟨fun _ v hv => ?_, hx.cd⟩
        show v ≤ ((nLog d).length : Int) + 1
        rcases mem_putL hv with e | e
        · omega
        · exact hx.nx hr v e
      have hA : NI N g j (got1 d m) := NI_adv hNx
      have hAX : NX (got1 d m) := NX_adv hXx
      have hAr : nRole (got1 d m) = 2 := (advRole _).trans hr
      refine ⟨g, Ok.refl hI, hA, hAX, fun x hx => ?_⟩
      by_cases hs : gotI d m + 1 ≤ last d
      · rw [if_pos hs] at hx
        cases List.mem_singleton.1 hx
        exact MSI_send hA hAr hAX hf0 hf1
      · rw [if_neg hs] at hx; cases hx
    · rw [if_neg hy, if_neg hy]
      have hbk : 1 ≤ backI d m ∧ backI d m ≤ ((nLog d).length : Int) + 1 := by
        unfold backI
        omega
      have hB : NI N g j (back1 d m) := by
        refine NI_next hn (putL_len ..) fun v hv => ?_
        rcases mem_putL hv with e | e
        · omega
        · exact hn.nx v e
      have hBX : NX (back1 d m) := by
        refine ⟨fun _ v hv => ?_, hx.cd⟩
        show v ≤ ((nLog d).length : Int) + 1
        rcases mem_putL hv with e | e
        · omega
        · exact hx.nx hr v e
      refine ⟨g, Ok.refl hI, hB, hBX, fun x hx => ?_⟩
      cases List.mem_singleton.1 hx
      exact MSI_send hB hr hBX hf0 hf1
  · rw [if_neg h, if_neg h]
    exact Ev_stay hI hn hx
theorem Ev_take (hI : GI N g) (hj : j < N) (hn : NI N g j d) (hx : NX d) (ht : mTerm m ≤ nTerm d) (hm : MSI N g m) (hk : mKind m = 3) (hne : mFrom m ≠ nId d) : Ev N g j (take1' d m) (take2' d m) := by
  obtain ⟨f1, f2, f3, f4, f5, ⟨r, f6⟩, f7⟩ := hm.app hk
  have no : ∀ (x : Node) (v : Int), ∀ y ∈ takenM x m false v, MSI N g y := by
    intro x v y hy
    cases List.mem_singleton.1 hy
    refine ⟨(by decide : (1 : Int) ≤ 4 ∧ (4 : Int) ≤ 4), fun h => ?_, fun h => ?_, fun h => ?_, fun _ h => ?_⟩
    · have h : (4 : Int) = 1 := h
      omega
    · have h : (4 : Int) = 2 := h
      omega
    · have h : (4 : Int) = 3 := h
      omega
    · cases h
  unfold take1' take2'
  by_cases h1 : mTerm m < nTerm d
  · rw [if_pos h1, if_pos h1]
    exact ⟨g, Ok.refl hI, hn, hx, no _ _⟩
  have k5 : ¬ mKind m = 5 := by omega
  rw [if_neg h1, if_neg h1, if_neg k5, if_neg k5]
  have ht : mTerm m = nTerm d := by omega
  rw [ht] at f1 f2 f4 f5 f6 f7
  have hb := hn.base
  have hl := last0 hn.base
  have hL : g.L (nTerm d) ≠ j := by
    intro e
    rw [e, ← hn.id] at f2
    exact hne f2
  rw [if_neg (by omega : ¬ mIndex m < nBase d)]
  have hF : NI N g j (foll d m) :=
    NI_keep hn ⟨rfl, rfl, rfl, rfl⟩ hn.vl hn.nl hn.ml rfl ⟨(by decide : (0 : Int) ≤ 0), (by decide : (0 : Int) ≤ 2)⟩ rfl rfl (fun h => by have h : (0 : Int) = 1 := h; omega) (fun h => by have h : (0 : Int) = 2 := h; omega) hn.cm hn.nx hn.mx
  have nxO : ∀ x : Node, nRole x = 0 → NX x := fun x h => ⟨fun h' => by omega, fun h' => by omega⟩
  by_cases h2 : last d < mIndex m ∨ termV d (mIndex m) ≠ mAt m
  · rw [if_pos (.inr h2), if_pos h2]
    exact ⟨g, Ok.refl hI, hF, nxO _ rfl, no _ _⟩
  · have h2' : ¬ (mIndex m < nBase d ∨ last d < mIndex m ∨ termV d (mIndex m) ≠ mAt m) := by
      rintro (h | h)
      · omega
      · exact h2 h
    rw [if_neg h2', if_neg h2]
    have h3 : mIndex m ≤ last d := by
      have : ¬ last d < mIndex m := fun h => h2 (.inl h)
      omega
    have h4 : termV d (mIndex m) = mAt m := by
      apply Classical.byContradiction
      intro h; exact h2 (.inr h)
    obtain ⟨p, hp⟩ : ∃ p : Nat, mIndex m = p := ⟨(mIndex m).toNat, (Int.toNat_of_nonneg f3).symm⟩
    rw [hp] at h3 h4 f3 f4 f5 f6
    rw [show ((p : Nat) : Int).toNat = p by omega] at f4 f5 f6
    have hpl : p ≤ (nLog d).length := by omega
    have hpt : (nLog d).take p = (g.LL (nTerm d)).take p := by
      rw [termV0 hn.base hn.bt hpl, f5] at h4
      cases p with
      | zero => rfl
      | succ q =>
        rw [lastTm_take (by omega), lastTm_take (by omega)] at h4
        have a := (hn.gl q (by omega)).2.2.2
        have b := (hI.gl _ f1 q (by omega)).2.2.2
        rw [h4] at a
        rw [a, b]
    have hput : put (foll d m) (mIndex m) (mEntries m) = setLog (foll d m) (put' (nLog d) p (mEntries m)) := by
      unfold put
      rw [if_neg (by show ¬ (mIndex m < nBase d ∨ last d < mIndex m); omega)]
      show setLog (foll d m) (put' (nLog d) (mIndex m - nBase d).toNat (mEntries m)) = _
      rw [hb, hp, show ((p : Int) - 0).toNat = p by omega]
    have hT := NI_take (n' := putC (foll d m) m) (p := p) (r := r) (es := mEntries m) (c := mCommit m) hI hj hn f1 hL hpl hpt f6 f4 f7
      (by unfold putC; rw [hput]; exact ⟨rfl, rfl, rfl, rfl⟩) (by unfold putC; rw [hput]; rfl) (by unfold putC; rw [hput]; rfl) (by unfold putC; rw [hput]; rfl) (by unfold putC; rw [hput]; rfl) (by unfold putC; rw [hput]; rfl) (by unfold putC; rw [hput]; rfl) (by unfold putC; rw [hput]; rfl)
      (by
        unfold putC; rw [hput]
        show max (nCommit d) (min (mCommit m) (mIndex m + ((mEntries m).length : Int))) = _
        rw [hp]
        rw [show ((p + (mEntries m).length : Nat) : Int) = (p : Int) + ((mEntries m).length : Int) by omega])
    have hG : GI N (gAck g (nTerm d) j (p + (mEntries m).length)) := gAck_gi hI f1 f4 (fun T' h => hn.vfut T' h)
    refine ⟨_, ok_ack hG, hT.1, nxO _ (by unfold putC; rw [hput]; rfl), fun y hy => ?_⟩
    cases List.mem_singleton.1 hy
    refine ⟨(by decide : (1 : Int) ≤ 4 ∧ (4 : Int) ≤ 4), fun h => ?_, fun h => ?_, fun h => ?_, fun _ _ => ⟨j, hj, ?_, ?_, ?_⟩⟩
    · have h : (4 : Int) = 1 := h
      omega
    · have h : (4 : Int) = 2 := h
      omega
    · have h : (4 : Int) = 3 := h
      omega
    · exact hT.1.id
    · show 0 ≤ mIndex m + ((mEntries m).length : Int)
      omega
    · show (mIndex m + ((mEntries m).length : Int)).toNat ≤ upd2 g.A (nTerm d) j (max (g.A (nTerm d) j) (p + (mEntries m).length)) (nTerm (putC (foll d m) m)) j
      rw [show nTerm (putC (foll d m) m) = nTerm d by unfold putC; rw [hput]; rfl, upd2_at]
      omega
theorem Ev_step (hI : GI N g) (hN : N ≤ 5) (hj : j < N) (hn : NI N g j n) (hx : NX n) (hm : MSI N g m) : Ev N g j (step1 n m) (step2 n m) := by
  unfold step1 step2
  by_cases h : rightB m (nNodes n) = true ∧ mTo m = nId n
  · rw [if_pos h, if_pos h]
    obtain ⟨hr, hto⟩ := h
    obtain ⟨_, r1, ⟨r2, r3⟩, _, r4, _, _⟩ := right_parts hr
    obtain ⟨hd, hdx, hdt⟩ := NI_downN (t := mTerm m) hI hN hj hn hx
    have hfr : mFrom m < N := by
      have := hn.nodes
      omega
    by_cases k1 : mKind m = 1
    · rw [if_pos k1, if_pos k1]
      exact Ev_asked hI hj hd hdx hm k1
    rw [if_neg k1, if_neg k1]
    by_cases k2 : mKind m = 2
    · rw [if_pos k2, if_pos k2]
      exact Ev_given hI hN hj hn hx hm k2 hto
    rw [if_neg k2, if_neg k2]
    by_cases k4 : mKind m = 4
    · rw [if_pos k4, if_pos k4]
      exact Ev_heard hI hj hd hdx hm k4 r2 hfr r4
    rw [if_neg k4, if_neg k4]
    have hk := hm.kind
    refine Ev_take hI hj hd hdx hdt hm (by omega) ?_
    rw [hd.id, ← hn.id, ← hto]
    exact r1
  · rw [if_neg h, if_neg h]
    exact Ev_stay hI hn hx
end
end Go.AM
