import Derived.Test.YtbcbgfkojmligaaHAV
/- What functions of the program answer, each under the conditions that its contract names. -/
set_option linter.unusedVariables false
set_option linter.unusedSimpArgs false
set_option maxRecDepth 100000
set_option maxHeartbeats 8000000
set_option linter.unusedSimpArgs false
namespace Go.AM
open Go.Proofs
def WI (N : Nat) (ns : Nat → Node) (S : Msg → Prop) (M : Int → Nat → Prop) : Prop :=
  ∃ g, GI N g ∧ (∀ j, j < N → NI N g j (ns j) ∧ NX (ns j)) ∧ (∀ m, S m → MSI N g m) ∧ ∀ T w, M T w → g.el T ∧ g.L T = w
def upN (ns : Nat → Node) (j : Nat) (n : Node) : Nat → Node := fun k => if k = j then n else ns k
section
variable {N : Nat} {ns : Nat → Node} {S S' : Msg → Prop} {M M' : Int → Nat → Prop} {j a b : Nat} {n' : Node} {out : List Msg}
theorem WI.mono (h : WI N ns S M) (hs : ∀ m, S' m → S m) : WI N ns S' M := by
  obtain ⟨g, a, b, c, d⟩ := h
  exact ⟨g, a, b, fun m hm => c m (hs m hm), d⟩
theorem WI.congr {ns' : Nat → Node} (h : WI N ns S M) (hs : ∀ j, j < N → ns' j = ns j) : WI N ns' S M := by
  obtain ⟨g, a, b, c, d⟩ := h
  exact ⟨g, a, fun j hj => by rw [hs j hj]; exact b j hj, c, d⟩
theorem WI.step (h : WI N ns S M) (hj : j < N) (he : ∀ g, GI N g → NI N g j (ns j) → NX (ns j) → (∀ m, S m → MSI N g m) → Ev N g j n' out) : WI N (upN ns j n') (fun m => S m ∨ m ∈ out) M := by
  obtain ⟨g, a, b, c, d⟩ := h
  obtain ⟨g', ⟨ok1, ok2, ok3, ok4⟩, hn, hx, ho⟩ := he g a (b j hj).1 (b j hj).2 c
  refine ⟨g', ok1, fun k hk => ?_, fun m hm => ?_, fun T w hM => ?_⟩
  · unfold upN
    by_cases e : k = j
    · rw [if_pos e, e]; exact ⟨hn, hx⟩
    · rw [if_neg e]; exact ⟨(b k hk).1.far hk ok2 a (ok4 k e), (b k hk).2⟩
  · rcases hm with hm | hm
    · exact (c m hm).grow ok2 ok3
    · exact ho m hm
  · obtain ⟨e1, e2⟩ := d T w hM
    exact ⟨ok2.el T e1, by rw [ok2.L T e1]; exact e2⟩
theorem upN_up {a b : Node} : upN (upN ns j a) j b = upN ns j b := by
  funext k
  unfold upN
  split <;> rfl
theorem upN_at {a : Node} : upN ns j a j = a := if_pos rfl
theorem WI.wake (h : WI N ns S M) (hN : N ≤ 5) (hj : j < N) : WI N (upN ns j (wakeN j N (hard (ns j)))) S M :=
  (h.step hj (fun _ hI hn _ _ => Ev_wake hI hN hj hn)).mono fun _ h => .inl h
theorem WI.prop {cmd : ByteArray} (h : WI N ns S M) (hj : j < N) : WI N (upN ns j (prop1 (ns j) cmd)) (fun m => S m ∨ m ∈ prop2 (ns j) cmd) M :=
  h.step hj (fun _ hI hn hx _ => Ev_prop hI hj hn hx)
theorem WI.come {m : Msg} (h : WI N ns S M) (hN : N ≤ 5) (hj : j < N) (hm : S m) : WI N (upN ns j (step1 (ns j) m)) (fun x => S x ∨ x ∈ step2 (ns j) m) M :=
  h.step hj (fun _ hI hn hx hs => Ev_step hI hN hj hn hx (hs m hm))
theorem WI.tick (h : WI N ns S M) (hN : N ≤ 5) (hj : j < N) : WI N (upN ns j (tick1 (ns j))) (fun x => S x ∨ x ∈ tick2 (ns j)) M := by
  unfold tick1 tick2
  by_cases h1 : nRole (ns j) = 2 ∧ 3 ≤ nClock (ns j) + 1
  · rw [if_pos h1, if_pos h1]
    exact h.step hj (fun _ hI hn hx _ => ⟨_, Ok.refl hI, NI_clock hn, NX_clock hx, MSI_others (NI_clock hn) h1.1 (NX_clock hx)⟩)
  rw [if_neg h1, if_neg h1]
  by_cases h2 : nRole (ns j) = 2 ∨ nClock (ns j) + 1 < 10 + 5 * nId (ns j)
  · rw [if_pos h2, if_pos h2]
    exact h.step hj (fun _ hI hn hx _ => Ev_stay hI (NI_clock hn) (NX_clock hx))
  rw [if_neg h2, if_neg h2]
  have hs := h.step hj (fun _ hI hn hx _ => Ev_start (n := setClock (ns j) (nClock (ns j) + 1)) hI hN hj (NI_clock hn))
  by_cases h3 : most (start1 (setClock (ns j) (nClock (ns j) + 1))) = 1
  · rw [if_pos h3, if_pos h3]
    have ht := hs.step hj (n' := lead1 (start1 (setClock (ns j) (nClock (ns j) + 1)))) (out := lead2 (start1 (setClock (ns j) (nClock (ns j) + 1)))) (fun g hI hn hx _ => by
      rw [upN_at] at hn hx
      refine Ev_lead hI hN hj hn hx (startRole hN) ?_
      have hN1 : N = 1 := by
        unfold most at h3
        rw [hn.nodes, tq1 (by omega)] at h3
        omega
      subst hN1
      obtain ⟨_, c2, _⟩ := hn.cand (startRole hN)
      have hj0 : j = 0 := by omega
      subst hj0
      show 1 / 2 + 1 ≤ cntP (0 + 1) _
      rw [cntP_yes c2, cntP_zero]
      decide)
    rw [upN_up] at ht
    refine ht.mono fun m hm => ?_
    rcases hm with hm | hm
    · exact .inl (.inl hm)
    · rcases List.mem_append.1 hm with hm | hm
      · exact .inl (.inr hm)
      · exact .inr hm
  · rw [if_neg h3, if_neg h3]
    exact hs
theorem WI.base (h : WI N ns S M) (ha : a < N) : nBase (ns a) = 0 ∧ 0 ≤ nCommit (ns a) ∧ nCommit (ns a) ≤ (nLog (ns a)).length := by
  obtain ⟨g, hI, hn, _⟩ := h
  exact ⟨(hn a ha).1.base, (hn a ha).1.cm_log⟩
theorem WI.lead (h : WI N ns S M) (ha : a < N) (hr : nRole (ns a) = 2) : (∀ w, M (nTerm (ns a)) w → w = a) ∧ WI N ns S (fun T w => M T w ∨ (T = nTerm (ns a) ∧ w = a)) := by
  obtain ⟨g, hI, hn, hs, hM⟩ := h
  obtain ⟨l1, l2, _⟩ := (hn a ha).1.ldr hr
  refine ⟨fun w hw => ?_, g, hI, hn, hs, fun T w hw => ?_⟩
  · rw [← (hM _ w hw).2, l2]
  · rcases hw with hw | ⟨rfl, rfl⟩
    · exact hM T w hw
    · exact ⟨l1, l2⟩
theorem WI.monoM (h : WI N ns S M) (hm : ∀ T w, M' T w → M T w) : WI N ns S M' := by
  obtain ⟨g, hI, hn, hs, hM⟩ := h
  exact ⟨g, hI, hn, hs, fun T w hw => hM T w (hm T w hw)⟩
theorem WI.agr (h : WI N ns S M) (ha : a < N) (hb : b < N) : Agr (nLog (ns a)) (nLog (ns b)) := by
  obtain ⟨g, hI, hn, _⟩ := h
  exact GL.agr (hn a ha).1.gl (hn b hb).1.gl
theorem cm_agree {g : Gh} (hI : GI N g) {la lb : List E} {ca cb T T' : Int} {p p' : Nat} (h : Cm g N T p) (h' : Cm g N T' p') (hle : T ≤ T') {c : Nat} (h1 : c ≤ p) (h2 : c ≤ p')
    (e1 : la.take c = (g.LL T).take c) (e2 : lb.take c = (g.LL T').take c) : la.take c = lb.take c := by
  have hh := complete' hI h hle h'.1
  rw [e1, e2]
  exact (take_le hh.2 h1).symm
theorem WI.comm (h : WI N ns S M) (ha : a < N) (hb : b < N) {c : Nat} (h1 : (c : Int) ≤ nCommit (ns a)) (h2 : (c : Int) ≤ nCommit (ns b)) : (nLog (ns a)).take c = (nLog (ns b)).take c := by
  obtain ⟨g, hI, hn, _⟩ := h
  rcases (hn a ha).1.cm with e | ⟨T, p, a1, a2, a3, a4, a5, a6⟩
  · have : c = 0 := by omega
    rw [this]; rfl
  rcases (hn b hb).1.cm with e | ⟨T', p', b1, b2, b3, b4, b5, b6⟩
  · have : c = 0 := by omega
    rw [this]; rfl
  have x1 := take_le a6 (i := c) (by omega)
  have x2 := take_le b6 (i := c) (by omega)
  rcases Int.lt_or_le T' T with hlt | hle
  · exact (cm_agree (ca := 0) (cb := 0) hI b1 a1 (by omega) (by omega) (by omega) x2 x1).symm
  · exact cm_agree (ca := 0) (cb := 0) hI a1 b1 hle (by omega) (by omega) x1 x2
noncomputable def g0 : Gh := ⟨fun _ => False, fun _ => 0, fun _ => [], fun _ _ => none, fun _ _ => [], fun _ _ => [], fun _ _ => 0, fun _ _ => False⟩
theorem g0_gi : GI N g0 :=
  ⟨fun _ h => h.elim, fun _ h => h.elim, fun _ h => h.elim, fun _ _ h => h.elim, fun _ h => h.elim, fun _ h => h.elim, fun _ h => h.elim, fun _ h => h.elim, fun _ h => h.elim, (fun T j c hj h => by cases h), (fun T j c hj h => by cases h), fun _ _ _ h => h.elim, fun _ _ _ => rfl, (fun T T' j c p hj he => he.elim), (fun T j c h => by cases h)⟩
theorem WI.new (hN : N ≤ 5) : WI N (fun j => newN j N) (fun _ => False) (fun _ _ => False) := by
  refine ⟨g0, g0_gi, fun j hj => ?_, fun _ h => h.elim, fun _ _ h => h.elim⟩
  have e1 : nId (newN j N) = j := by
    show min (max (j : Int) 0) (min (max (N : Int) 1) 5 - 1) = j
    omega
  have e2 : nNodes (newN j N) = N := by
    show min (max (N : Int) 1) 5 = N
    omega
  have e3 : (min (max (N : Int) 1) 5).toNat = N := by omega
  refine ⟨⟨e1, e2, rfl, rfl, ?_, ?_, ?_, Int.le_refl _, ⟨(by decide : (0 : Int) ≤ 0), (by decide : (0 : Int) ≤ 2)⟩, (fun i hi => absurd hi (Nat.not_lt_zero i)), (fun i hi => absurd hi (Nat.not_lt_zero i)), fun _ _ => rfl, .inl ⟨rfl, rfl⟩, fun h => ?_, fun h => ?_, fun T p h => h.elim, fun _ _ => rfl, fun T h => h.elim, .inl rfl, fun v hv => ?_, fun v hv => ?_⟩, ⟨fun h => ?_, fun h => ?_⟩⟩
  · show (List.replicate (min (max (N : Int) 1) 5).toNat false).length = N
    rw [List.length_replicate, e3]
  · show (List.replicate (min (max (N : Int) 1) 5).toNat (1 : Int)).length = N
    rw [List.length_replicate, e3]
  · show (List.replicate (min (max (N : Int) 1) 5).toNat (0 : Int)).length = N
    rw [List.length_replicate, e3]
  · have h : (0 : Int) = 1 := h
    omega
  · have h : (0 : Int) = 2 := h
    omega
  · have hv : v ∈ List.replicate (min (max (N : Int) 1) 5).toNat (1 : Int) := hv
    have := List.eq_of_mem_replicate hv
    omega
  · have hv : v ∈ List.replicate (min (max (N : Int) 1) 5).toNat (0 : Int) := hv
    have := List.eq_of_mem_replicate hv
    omega
  · have h : (0 : Int) = 2 := h
    omega
  · have h : (0 : Int) = 1 := h
    omega
end
end Go.AM

set_option maxRecDepth 100000
set_option maxHeartbeats 8000000
set_option linter.unusedSimpArgs false
namespace Go.AM
open Go.Proofs
structure Sz (b : Int) (n : Node) : Prop where
  tm : nTerm n ≤ b
  ck : 0 ≤ nClock n ∧ nClock n ≤ b
  lg : ((nLog n).length : Int) ≤ b
  nx : ∀ v, v ∈ nNext n → v ≤ b + 1
  mt : ∀ v, v ∈ nMatch n → v ≤ b
/-- what the program's functions ask of a node -/
def ready (n : Node) : Prop := (rgL n ∧ nextsOk n ∧ 0 ≤ nId n ∧ nId n ≤ 100 ∧ 0 ≤ nTerm n ∧ nTerm n ≤ 4398046511000 ∧ 0 ≤ nClock n ∧ nClock n ≤ 4398046511000) ∧ stepOk n ∧ smallL (nLog n)
section
variable {b c t : Int} {n d : Node} {m : Msg} {N j : Nat} {g : Gh}
theorem ready_of (hn : NI N g j n) (hN : N ≤ 5) (hj : j < N) (hs : Sz b n) (hb : b ≤ 1000000) : ready n := by
  obtain ⟨c0, c1⟩ := hn.cm_log
  have hl := last0 hn.base
  have h1 := hn.base
  have h2 := hn.nodes
  have h3 := hn.nl
  have h4 := hn.ml
  have h5 := hn.vl
  have h6 := hn.t0
  have h7 := hn.id
  have h8 := hs.lg
  have h9 := hs.tm
  have h10 := hs.ck
  have hrN : rgN n := by
    refine ⟨by omega, by omega, by omega, by omega, ?_, by omega, by omega, ?_, ?_⟩
    · show (nLog n).length ≤ 1048576
      omega
    · show (nNext n).length ≤ 1048576
      omega
    · show (nMatch n).length ≤ 1048576
      omega
  have hrL : rgL n := ⟨hrN, by omega, by omega⟩
  have hnx : nextsOk n := fun v hv => by
    have a := hn.nx v hv
    have b := hs.nx v hv
    omega
  refine ⟨⟨hrL, hnx, by omega, by omega, h6, by omega, h10.1, by omega⟩, ⟨hrL, ?_, fun i => ⟨?_, ?_⟩⟩, ?_⟩
  · show (nVotes n).length ≤ 1048576
    omega
  · refine atL_in okS ⟨by decide, by decide⟩ fun k hk _ => ?_
    have a := hn.nx _ (nAt_mem hk)
    have b := hs.nx _ (nAt_mem hk)
    exact ⟨by omega, by omega⟩
  · refine atL_in okS ⟨by decide, by decide⟩ fun k hk _ => ?_
    have a := hn.mx _ (nAt_mem hk)
    have b := hs.mt _ (nAt_mem hk)
    exact ⟨by omega, by omega⟩
  · show (nLog n).length ≤ 1048576
    omega
theorem Sz.mono (h : Sz b n) (hb : b ≤ c) : Sz c n :=
  ⟨Int.le_trans h.tm hb, ⟨h.ck.1, Int.le_trans h.ck.2 hb⟩, Int.le_trans h.lg hb, fun v hv => by have := h.nx v hv; omega, fun v hv => by have := h.mt v hv; omega⟩
theorem Sz_adv (h : Sz b n) : Sz b (adv n) := by
  unfold adv
  split
  · exact ⟨h.tm, h.ck, h.lg, h.nx, h.mt⟩
  · exact h
theorem Sz_own (h : Sz b n) (hb : nBase n = 0) : Sz b (ownM n) := by
  unfold ownM
  refine Sz_adv ⟨h.tm, h.ck, h.lg, h.nx, fun v hv => ?_⟩
  have hl := last0 hb
  have := h.lg
  rcases mem_putL hv with e | e
  · omega
  · exact h.mt v e
theorem Sz_clock (h : Sz b n) (h0 : 0 ≤ c) (h1 : c ≤ b) : Sz b (setClock n c) := ⟨h.tm, ⟨h0, h1⟩, h.lg, h.nx, h.mt⟩
theorem Sz_start (h0 : 0 ≤ b) (h : Sz b n) : Sz (b + 1) (start1 n) := by
  have h1 : Sz (b + 1) (start0 n) := ⟨by have := h.tm; show nTerm n + 1 ≤ b + 1; omega, ⟨Int.le_refl 0, by show (0 : Int) ≤ b + 1; omega⟩, by have := h.lg; show ((nLog n).length : Int) ≤ b + 1; omega, fun v hv => by have := h.nx v hv; omega, fun v hv => by have := h.mt v hv; omega⟩
  unfold start1 own
  split
  · exact ⟨h1.tm, h1.ck, h1.lg, h1.nx, h1.mt⟩
  · exact ⟨h1.tm, h1.ck, h1.lg, h1.nx, h1.mt⟩
theorem base_start : nBase (start1 n) = nBase n := by unfold start1 own; split <;> rfl
theorem Sz_lead (h0 : 0 ≤ b) (h : Sz b n) (hb : nBase n = 0) : Sz (b + 1) (lead1 n) := by
  have hl := last0 hb
  have hg := h.lg
  refine Sz_own ⟨by have := h.tm; show nTerm n ≤ b + 1; omega, ⟨Int.le_refl 0, by show (0 : Int) ≤ b + 1; omega⟩, ?_, fun v hv => ?_, fun v hv => ?_⟩ hb
  · show ((nLog n ++ [mkE (nTerm n) noB]).length : Int) ≤ b + 1
    rw [List.length_append]
    show (((nLog n).length + 1 : Nat) : Int) ≤ b + 1
    omega
  · have hv : v ∈ List.replicate (nodesN n).toNat (last n + 1) := hv
    have := List.eq_of_mem_replicate hv
    omega
  · have hv : v ∈ List.replicate (nodesN n).toNat (0 : Int) := hv
    have := List.eq_of_mem_replicate hv
    omega
theorem term_send {to : Int} : mTerm (sendM n to) = nTerm n := by unfold sendM; split <;> rfl
theorem term_others : ∀ x ∈ othersN n, mTerm x = nTerm n := by
  intro x hx
  unfold othersN sendsN at hx
  obtain ⟨to, _, rfl⟩ := List.mem_map.1 hx
  exact term_send
theorem term_own : nTerm (ownM n) = nTerm n := advTerm _
theorem term_lead : ∀ x ∈ lead2 n, mTerm x = nTerm n := fun x hx => (term_others x hx).trans term_own
theorem term_start : ∀ x ∈ start2 n, mTerm x = nTerm (start1 n) := by
  intro x hx
  unfold start2 startMsgs at hx
  obtain ⟨to, _, rfl⟩ := List.mem_map.1 hx
  rfl
theorem Sz_tick (h0 : 0 ≤ b) (h : Sz b n) (hb : nBase n = 0) : Sz (b + 20) (tick1 n) ∧ ∀ x ∈ tick2 n, mTerm x ≤ b + 20 := by
  have ht := h.tm
  unfold tick1 tick2
  by_cases h1 : nRole n = 2 ∧ 3 ≤ nClock n + 1
  · rw [if_pos h1, if_pos h1]
    refine ⟨(Sz_clock h (Int.le_refl 0) h0).mono (by omega), fun x hx => ?_⟩
    have : mTerm x = nTerm n := term_others x hx
    omega
  rw [if_neg h1, if_neg h1]
  have hc : Sz (b + 1) (setClock n (nClock n + 1)) := by
    have := h.ck
    exact Sz_clock (h.mono (by omega)) (by omega) (by omega)
  by_cases h2 : nRole n = 2 ∨ nClock n + 1 < 10 + 5 * nId n
  · rw [if_pos h2, if_pos h2]
    exact ⟨hc.mono (by omega), fun x hx => by cases hx⟩
  rw [if_neg h2, if_neg h2]
  have hs := Sz_start (by omega) hc
  have hst := hs.tm
  by_cases h3 : most (start1 (setClock n (nClock n + 1))) = 1
  · rw [if_pos h3, if_pos h3]
    refine ⟨(Sz_lead (by omega) hs (base_start.trans hb)).mono (by omega), fun x hx => ?_⟩
    rcases List.mem_append.1 hx with hx | hx
    · have := term_start x hx
      omega
    · have := term_lead x hx
      omega
  · rw [if_neg h3, if_neg h3]
    refine ⟨hs.mono (by omega), fun x hx => ?_⟩
    have := term_start x hx
    omega
theorem Sz_prop {cmd : ByteArray} (h0 : 0 ≤ b) (h : Sz b n) (hb : nBase n = 0) : Sz (b + 20) (prop1 n cmd) ∧ ∀ x ∈ prop2 n cmd, mTerm x ≤ b + 20 := by
  have ht := h.tm
  unfold prop1 prop2
  by_cases h1 : nRole n = 2 ∧ (nLog n).length < 200
  · rw [if_pos h1, if_pos h1]
    have ha : Sz (b + 1) (addE n cmd) := by
      refine ⟨by show nTerm n ≤ b + 1; omega, by have := h.ck; show 0 ≤ nClock n ∧ nClock n ≤ b + 1; omega, ?_, fun v hv => by have := h.nx v hv; omega, fun v hv => by have := h.mt v hv; omega⟩
      show ((nLog n ++ [mkE (nTerm n) cmd]).length : Int) ≤ b + 1
      rw [List.length_append]
      show (((nLog n).length + 1 : Nat) : Int) ≤ b + 1
      have := h.lg
      omega
    refine ⟨(Sz_own ha hb).mono (by omega), fun x hx => ?_⟩
    have e1 : mTerm x = nTerm (ownM (addE n cmd)) := term_others x hx
    have e2 : nTerm (ownM (addE n cmd)) = nTerm n := term_own
    omega
  · rw [if_neg h1, if_neg h1]
    exact ⟨h.mono (by omega), fun x hx => by cases hx⟩
theorem Sz_wake {i k : Int} (h0 : 0 ≤ b) (h : Sz b n) : Sz b (wakeN i k (hard n)) := by
  refine ⟨h.tm, ⟨Int.le_refl 0, h0⟩, h.lg, fun v hv => ?_, fun v hv => ?_⟩
  · have hv : v ∈ List.replicate (min (max k 1) 5).toNat (1 : Int) := hv
    have := List.eq_of_mem_replicate hv
    omega
  · have hv : v ∈ List.replicate (min (max k 1) 5).toNat (0 : Int) := hv
    have := List.eq_of_mem_replicate hv
    omega
theorem Sz_new {i k : Int} (h0 : 0 ≤ b) : Sz b (newN i k) := by
  refine ⟨h0, ⟨Int.le_refl 0, h0⟩, h0, fun v hv => ?_, fun v hv => ?_⟩
  · have hv : v ∈ List.replicate (min (max k 1) 5).toNat (1 : Int) := hv
    have := List.eq_of_mem_replicate hv
    omega
  · have hv : v ∈ List.replicate (min (max k 1) 5).toNat (0 : Int) := hv
    have := List.eq_of_mem_replicate hv
    omega
theorem Sz_down (h : Sz b n) (ht : t ≤ b) : Sz b (down n t) := by
  unfold down
  split
  · exact ⟨ht, h.ck, h.lg, h.nx, h.mt⟩
  · exact h
theorem putLen (m : List E) : ∀ (l : List E) (k : Nat), (put' m k l).length ≤ m.length + l.length := by
  intro l
  induction l with
  | nil => intro k; exact Nat.le_refl _
  | cons e l ih =>
    intro k
    unfold put'
    split
    · have := ih (k + 1)
      rw [List.length_cons]; omega
    · rw [List.length_append, List.length_take]
      omega
theorem Sz_step (h0 : 0 ≤ b) (h : Sz b n) (hb : nBase n = 0) (hm : mTerm m ≤ b) (hk : mKind m ≠ 5) : Sz (b + 20) (step1 n m) ∧ ∀ x ∈ step2 n m, mTerm x ≤ b + 20 := by
  have hd := Sz_down h hm
  have hdb : nBase (down n (mTerm m)) = 0 := (base_down n _).trans hb
  have hdt := hd.tm
  unfold step1 step2
  by_cases h1 : rightB m (nNodes n) = true ∧ mTo m = nId n
  · rw [if_pos h1, if_pos h1]
    obtain ⟨_, _, _, _, hi0, hes, _⟩ := right_parts h1.1
    by_cases k1 : mKind m = 1
    · rw [if_pos k1, if_pos k1]
      refine ⟨?_, fun x hx => ?_⟩
      · unfold asked1 asked1'
        split
        · exact ⟨(hd.mono (by omega : b ≤ b + 20)).tm, ⟨Int.le_refl 0, by show (0 : Int) ≤ b + 20; omega⟩, (hd.mono (by omega : b ≤ b + 20)).lg, (hd.mono (by omega : b ≤ b + 20)).nx, (hd.mono (by omega : b ≤ b + 20)).mt⟩
        · exact hd.mono (by omega)
      · cases List.mem_singleton.1 hx
        show nTerm (down n (mTerm m)) ≤ _
        omega
    rw [if_neg k1, if_neg k1]
    by_cases k2 : mKind m = 2
    · rw [if_pos k2, if_pos k2]
      have hg : Sz b (given1 n m) ∧ nBase (given1 n m) = 0 := by
        unfold given1 given1'
        split
        · exact ⟨⟨hd.tm, hd.ck, hd.lg, hd.nx, hd.mt⟩, hdb⟩
        · exact ⟨hd, hdb⟩
      have hgt := hg.1.tm
      unfold gv1 gv2
      split
      · refine ⟨(Sz_lead h0 hg.1 hg.2).mono (by omega), fun x hx => ?_⟩
        have := term_lead x hx
        omega
      · exact ⟨hg.1.mono (by omega), fun x hx => by cases hx⟩
    rw [if_neg k2, if_neg k2]
    have hl := last0 hdb
    have hlg := hd.lg
    have hmat : atL (nMatch (down n (mTerm m))) (mFrom m) ≤ b := atL_in (fun x => x ≤ b) h0 fun k hk _ => hd.mt _ (nAt_mem hk)
    have hnex : atL (nNext (down n (mTerm m))) (mFrom m) ≤ b + 1 := atL_in (fun x => x ≤ b + 1) (by omega) fun k hk _ => hd.nx _ (nAt_mem hk)
    by_cases k4 : mKind m = 4
    · rw [if_pos k4, if_pos k4]
      have hgot : gotI (down n (mTerm m)) m ≤ b := by unfold gotI; omega
      have hbak : backI (down n (mTerm m)) m ≤ b + 1 := by unfold backI; omega
      have hG : Sz b (got1 (down n (mTerm m)) m) := by
        refine Sz_adv ⟨hd.tm, hd.ck, hd.lg, fun v hv => ?_, fun v hv => ?_⟩
        · rcases mem_putL hv with e | e
          · omega
          · exact hd.nx v e
        · rcases mem_putL hv with e | e
          · omega
          · exact hd.mt v e
      have hB : Sz b (back1 (down n (mTerm m)) m) := by
        refine ⟨hd.tm, hd.ck, hd.lg, fun v hv => ?_, hd.mt⟩
        rcases mem_putL hv with e | e
        · omega
        · exact hd.nx v e
      have hGt := hG.tm
      have hBt := hB.tm
      unfold heard1 heard2 heard1' heard2'
      split
      · split
        · refine ⟨hG.mono (by omega), fun x hx => ?_⟩
          split at hx
          · cases List.mem_singleton.1 hx
            have := term_send (n := got1 (down n (mTerm m)) m) (to := mFrom m)
            omega
          · cases hx
        · refine ⟨hB.mono (by omega), fun x hx => ?_⟩
          cases List.mem_singleton.1 hx
          have := term_send (n := back1 (down n (mTerm m)) m) (to := mFrom m)
          omega
      · exact ⟨hd.mono (by omega), fun x hx => by cases hx⟩
    rw [if_neg k4, if_neg k4]
    have hf : Sz b (foll (down n (mTerm m)) m) := ⟨hd.tm, ⟨Int.le_refl 0, h0⟩, hd.lg, hd.nx, hd.mt⟩
    have tk : ∀ (e : Node) (yes : Bool) (i : Int), nTerm e ≤ b → ∀ x ∈ takenM e m yes i, mTerm x ≤ b + 20 := fun e yes i he x hx => by
      cases List.mem_singleton.1 hx
      show nTerm e ≤ b + 20
      omega
    have hP : Sz (b + 20) (putC (foll (down n (mTerm m)) m) m) ∧ nTerm (putC (foll (down n (mTerm m)) m) m) = nTerm (down n (mTerm m)) := by
      unfold putC put
      split
      · have := hf.mono (show b ≤ b + 20 by omega)
        exact ⟨⟨this.tm, this.ck, this.lg, this.nx, this.mt⟩, rfl⟩
      · have := hf.mono (show b ≤ b + 20 by omega)
        refine ⟨⟨this.tm, this.ck, ?_, this.nx, this.mt⟩, rfl⟩
        show ((put' (nLog (down n (mTerm m))) (mIndex m - nBase (foll (down n (mTerm m)) m)).toNat (mEntries m)).length : Int) ≤ b + 20
        have := putLen (nLog (down n (mTerm m))) (mEntries m) (mIndex m - nBase (foll (down n (mTerm m)) m)).toNat
        omega
    unfold take1 take2 take1' take2'
    by_cases c1 : mTerm m < nTerm (down n (mTerm m))
    · rw [if_pos c1, if_pos c1]
      exact ⟨hd.mono (by omega), tk _ _ _ hdt⟩
    rw [if_neg c1, if_neg c1, if_neg hk, if_neg hk]
    by_cases c2 : mIndex m < nBase (down n (mTerm m))
    · rw [if_pos (.inl c2), if_pos c2]
      exact ⟨hf.mono (by omega), tk _ _ _ hdt⟩
    rw [if_neg c2]
    by_cases c3 : last (down n (mTerm m)) < mIndex m ∨ termV (down n (mTerm m)) (mIndex m) ≠ mAt m
    · rw [if_pos (.inr c3), if_pos c3]
      exact ⟨hf.mono (by omega), tk _ _ _ hdt⟩
    · rw [if_neg (by rintro (h | h); exact c2 h; exact c3 h), if_neg c3]
      exact ⟨hP.1, tk _ _ _ (by rw [hP.2]; exact hdt)⟩
  · rw [if_neg h1, if_neg h1]
    exact ⟨h.mono (by omega), fun x hx => by cases hx⟩
end
end Go.AM

set_option maxRecDepth 100000
set_option maxHeartbeats 8000000
set_option linter.unusedSimpArgs false
namespace Go.AM
open Go.Proofs
def rmAt (l : List Msg) (j : Nat) : List Msg := l.take j ++ l.drop (j + 1)
def evI (ns : List Node) (k : Int) : Nat := (k / 16 % (ns.length : Int)).toNat
def evJ (l : List Msg) (k : Int) : Nat := (k / 16 % (l.length : Int)).toNat
def ndAt (ns : List Node) (i : Nat) : Node := ns.getD i (dflt tNode)
def mgAt (l : List Msg) (j : Nat) : Msg := l.getD j (dflt tMsg)
def doEv (ns : List Node) (l : List Msg) (k : Int) : List Node × List Msg :=
  if k % 16 < 5 ∨ (l.length = 0 ∧ k % 16 ≠ 15) then (ns.set (evI ns k) (tick1 (ndAt ns (evI ns k))), l ++ tick2 (ndAt ns (evI ns k)))
  else if k % 16 < 12 then
    (if 0 ≤ mTo (mgAt l (evJ l k)) ∧ mTo (mgAt l (evJ l k)) < (ns.length : Int) then
      (ns.set (mTo (mgAt l (evJ l k))).toNat (step1 (ndAt ns (mTo (mgAt l (evJ l k))).toNat) (mgAt l (evJ l k))), rmAt l (evJ l k) ++ step2 (ndAt ns (mTo (mgAt l (evJ l k))).toNat) (mgAt l (evJ l k)))
    else (ns, rmAt l (evJ l k)))
  else if k % 16 = 12 then (ns, rmAt l (evJ l k))
  else if k % 16 = 13 then (ns, l ++ [mgAt l (evJ l k)])
  else if k % 16 = 14 then (ns.set (evI ns k) (wakeN (evI ns k) ns.length (hard (ndAt ns (evI ns k)))), l)
  else (ns.set (evI ns k) (prop1 (ndAt ns (evI ns k)) (digits (k / 64))), l ++ prop2 (ndAt ns (evI ns k)) (digits (k / 64)))
def last60 (l : List Msg) : List Msg := l.drop (l.length - 60)
def doN (ns : List Node) (l : List Msg) (v : Int) : List Node × List Msg := ((doEv ns l (v % 1073741824)).1, last60 (doEv ns l (v % 1073741824)).2)
structure WN (b : Int) (N : Nat) (M : Int → Nat → Prop) (ns : List Node) (l : List Msg) : Prop where
  len : ns.length = N
  wi : WI N (ndAt ns) (fun m => m ∈ l) M
  sz : ∀ i, i < N → Sz b (ndAt ns i)
  ms : ∀ m ∈ l, mTerm m ≤ b
section
variable {b : Int} {N : Nat} {M : Int → Nat → Prop} {ns : List Node} {l l' : List Msg} {k : Int}
theorem ndAt_set {i j : Nat} {n : Node} (hi : i < ns.length) : ndAt (ns.set i n) j = upN (ndAt ns) i n j := by
  unfold ndAt upN
  by_cases e : j = i
  · subst e
    rw [if_pos rfl, List.getD_eq_getElem?_getD, List.getElem?_set_self hi]; rfl
  · rw [if_neg e, List.getD_eq_getElem?_getD, List.getElem?_set_ne (fun h => e h.symm), ← List.getD_eq_getElem?_getD]
theorem mem_rmAt {j : Nat} {m : Msg} (h : m ∈ rmAt l j) : m ∈ l := by
  unfold rmAt at h
  rcases List.mem_append.1 h with h | h
  · exact List.mem_of_mem_take h
  · exact List.mem_of_mem_drop h
theorem mgAt_mem {j : Nat} (h : j < l.length) : mgAt l j ∈ l := by
  unfold mgAt
  rw [List.getD_eq_getElem?_getD, List.getElem?_eq_getElem h]
  exact List.getElem_mem h
theorem evI_lt (h : 0 < ns.length) : evI ns k < ns.length := by
  unfold evI
  have h1 := Int.emod_nonneg (k / 16) (b := (ns.length : Int)) (by omega)
  have h2 := Int.emod_lt_of_pos (k / 16) (b := (ns.length : Int)) (by omega)
  omega
theorem evJ_lt (h : 0 < l.length) : evJ l k < l.length := by
  unfold evJ
  have h1 := Int.emod_nonneg (k / 16) (b := (l.length : Int)) (by omega)
  have h2 := Int.emod_lt_of_pos (k / 16) (b := (l.length : Int)) (by omega)
  omega
theorem WN.sub (h : WN b N M ns l) (hl : ∀ m ∈ l', m ∈ l) : WN b N M ns l' := ⟨h.len, h.wi.mono hl, h.sz, fun m hm => h.ms m (hl m hm)⟩
theorem WN.mono {c : Int} (h : WN b N M ns l) (hb : b ≤ c) : WN c N M ns l := ⟨h.len, h.wi, fun i hi => (h.sz i hi).mono hb, fun m hm => Int.le_trans (h.ms m hm) hb⟩
theorem WN.put (h : WN b N M ns l) {i : Nat} {n : Node} {out : List Msg} (hi : i < N) (hw : WI N (upN (ndAt ns) i n) (fun m => m ∈ l ∨ m ∈ out) M) (hs : Sz (b + 20) n ∧ ∀ x ∈ out, mTerm x ≤ b + 20) (hl : ∀ m ∈ l', m ∈ l ∨ m ∈ out) : WN (b + 20) N M (ns.set i n) l' := by
  have hin : i < ns.length := by rw [h.len]; exact hi
  refine ⟨by rw [List.length_set]; exact h.len, (hw.congr fun j _ => ndAt_set hin).mono hl, fun j hj => ?_, fun m hm => ?_⟩
  · rw [ndAt_set hin]
    unfold upN
    split
    · exact hs.1
    · exact (h.sz j hj).mono (by omega)
  · rcases hl m hm with h1 | h1
    · have := h.ms m h1
      omega
    · exact hs.2 m h1
theorem WN.event (h : WN b N M ns l) (hb : 0 ≤ b) (h1 : 1 ≤ N) (h5 : N ≤ 5) : WN (b + 20) N M (doEv ns l k).1 (doEv ns l k).2 := by
  have hlen := h.len
  have hi : evI ns k < N := by rw [← hlen]; exact evI_lt (by omega)
  have hbase := (h.wi.base hi).1
  have app : ∀ {x y : List Msg} (m : Msg), m ∈ x ++ y → m ∈ x ∨ m ∈ y := fun m hm => List.mem_append.1 hm
  unfold doEv
  by_cases c1 : k % 16 < 5 ∨ (l.length = 0 ∧ k % 16 ≠ 15)
  · rw [if_pos c1]
    exact h.put hi (h.wi.tick h5 hi) (Sz_tick hb (h.sz _ hi) hbase) app
  rw [if_neg c1]
  by_cases c2 : k % 16 < 12
  · rw [if_pos c2]
    have hl : 0 < l.length := by omega
    have hj := evJ_lt (k := k) hl
    have hm := mgAt_mem hj
    generalize evJ l k = j at *
    by_cases c3 : 0 ≤ mTo (mgAt l j) ∧ mTo (mgAt l j) < (ns.length : Int)
    · rw [if_pos c3]
      have hto : (mTo (mgAt l j)).toNat < N := by omega
      have hk5 : mKind (mgAt l j) ≠ 5 := by
        obtain ⟨g, _, _, hs, _⟩ := h.wi
        have := (hs _ hm).kind
        omega
      exact h.put hto (h.wi.come h5 hto hm) (Sz_step hb (h.sz _ hto) (h.wi.base hto).1 (h.ms _ hm) hk5) (fun m hm => (app m hm).imp mem_rmAt id)
    · rw [if_neg c3]
      exact (h.sub fun m hm => mem_rmAt hm).mono (by omega)
  rw [if_neg c2]
  by_cases c3 : k % 16 = 12
  · rw [if_pos c3]
    exact (h.sub fun m hm => mem_rmAt hm).mono (by omega)
  rw [if_neg c3]
  by_cases c4 : k % 16 = 13
  · rw [if_pos c4]
    have hl : 0 < l.length := by omega
    have hm := mgAt_mem (evJ_lt (k := k) hl)
    refine (h.sub fun m h' => ?_).mono (by omega)
    rcases List.mem_append.1 h' with h' | h'
    · exact h'
    · cases List.mem_singleton.1 h'
      exact hm
  rw [if_neg c4]
  by_cases c5 : k % 16 = 14
  · rw [if_pos c5]
    have hw := h.wi.wake h5 hi
    rw [show (N : Int) = (ns.length : Int) by omega] at hw
    exact h.put (out := []) hi (hw.mono fun m hm => hm.elim id (fun h => by cases h)) ⟨(Sz_wake hb (h.sz _ hi)).mono (by omega), fun x hx => by cases hx⟩ (fun m hm => .inl hm)
  · rw [if_neg c5]
    exact h.put hi (h.wi.prop hi) (Sz_prop hb (h.sz _ hi) hbase) app
theorem WN.do (h : WN b N M ns l) (hb : 0 ≤ b) (h1 : 1 ≤ N) (h5 : N ≤ 5) {v : Int} : WN (b + 20) N M (doN ns l v).1 (doN ns l v).2 :=
  (h.event hb h1 h5).sub fun m hm => List.mem_of_mem_drop hm
theorem WN.ready (h : WN b N M ns l) (h5 : N ≤ 5) (hb : b ≤ 1000000) : ∀ n ∈ ns, ready n := by
  intro n hn
  obtain ⟨i, hi, rfl⟩ := List.mem_iff_getElem.1 hn
  have hiN : i < N := by rw [← h.len]; exact hi
  obtain ⟨g, _, hN, _⟩ := h.wi
  have e : ndAt ns i = ns[i] := by
    unfold ndAt
    rw [List.getD_eq_getElem?_getD, List.getElem?_eq_getElem hi]; rfl
  rw [← e]
  exact ready_of (hN i hiN).1 h5 hiN (h.sz i hiN) hb
theorem WN.new (h5 : N ≤ 5) : WN 0 N (fun _ _ => False) ((List.range N).map fun i : Nat => newN (i : Int) N) [] := by
  have e : ∀ i, i < N → ndAt ((List.range N).map fun i : Nat => newN (i : Int) N) i = newN (i : Int) N := by
    intro i hi
    unfold ndAt
    rw [List.getD_eq_getElem?_getD, List.getElem?_map, List.getElem?_range hi]; rfl
  refine ⟨by simp, (WI.new h5).congr e |>.mono (fun m hm => by cases hm), fun i hi => ?_, fun m hm => by cases hm⟩
  rw [e i hi]
  exact Sz_new (Int.le_refl 0)
theorem WN.wi' (h : WN b N M ns l) {M' : Int → Nat → Prop} (hw : WI N (ndAt ns) (fun m => m ∈ l) M') : WN b N M' ns l := ⟨h.len, hw, h.sz, h.ms⟩
theorem last60_len : (last60 l).length ≤ 60 := by unfold last60; rw [List.length_drop]; omega
end
end Go.AM
