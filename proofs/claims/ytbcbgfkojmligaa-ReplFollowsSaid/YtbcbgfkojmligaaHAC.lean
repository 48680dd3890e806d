import Derived.Test.YtbcbgfkojmligaaHAA
/- What functions of the program answer, each under the conditions that its contract names. -/
set_option linter.unusedVariables false
set_option linter.unusedSimpArgs false
set_option maxRecDepth 100000
set_option maxHeartbeats 8000000
set_option linter.unusedSimpArgs false
namespace Go.AM
open Go.Proofs
theorem made_bt (l : List Int) (id nodes : Int) (h0 : nBase (made l id nodes) = 0) : nBT (made l id nodes) = 0 := by
  have hf : ∀ (l : List Int) (n : Node), (0 ≤ nBase n ∧ (nBase n = 0 → nBT n = 0)) → (0 ≤ nBase (l.foldl madeStep n) ∧ (nBase (l.foldl madeStep n) = 0 → nBT (l.foldl madeStep n) = 0)) := by
    intro l
    induction l with
    | nil => intro n h; exact h
    | cons v l ih =>
      intro n h
      refine ih _ ?_
      unfold madeStep
      split
      · exact h
      split
      · exact h
      split
      · unfold cutN
        split
        · exact h
        · rename_i hc
          refine ⟨show 0 ≤ nBase n + mkK v / 12 % 4 by omega, fun e => ?_⟩
          have e : nBase n + mkK v / 12 % 4 = 0 := e
          omega
      split
      · exact h
      split
      · exact h
      split
      · exact h
      · exact h
  exact (hf _ _ ⟨Int.le_refl _, fun _ => rfl⟩).2 h0
theorem made_terms (l : List Int) (id nodes : Int) : ∀ e ∈ nLog (made l id nodes), eTerm e ≤ nTerm (made l id nodes) := by
  have hf : ∀ (l : List Int) (n : Node), (∀ e ∈ nLog n, eTerm e ≤ nTerm n) → ∀ e ∈ nLog (l.foldl madeStep n), eTerm e ≤ nTerm (l.foldl madeStep n) := by
    intro l
    induction l with
    | nil => intro n h; exact h
    | cons v l ih =>
      intro n h
      refine ih _ ?_
      unfold madeStep
      split
      · intro e he
        have := h e he
        show eTerm e ≤ nTerm n + 1
        omega
      split
      · exact h
      split
      · unfold cutN
        split
        · exact h
        · intro e he
          exact h e (List.mem_of_mem_drop he)
      split
      · exact h
      split
      · exact h
      split
      · exact h
      · intro e he
        have he : e ∈ nLog n ++ [mkE (nTerm n) (digits (mkK v / 12 % 1000))] := he
        rcases List.mem_append.1 he with he | he
        · exact h e he
        · rw [List.mem_singleton.1 he]; exact Int.le_refl _
  exact hf _ _ (fun e he => by cases he)
def dblE (e : E) : E := mkE (2 * eTerm e) (eCmd e)
def oddE (e : E) : E := mkE (2 * eTerm e + 1) (eCmd e)
def folN (ln : List E) : List E := ln.map dblE
def folF (ln lf : List E) (s : Nat) : List E := (ln.map dblE).take s ++ (lf.drop s).map oddE
theorem folF_len {ln lf : List E} {s : Nat} (h1 : s ≤ ln.length) (h2 : s ≤ lf.length) : (folF ln lf s).length = lf.length := by
  unfold folF
  rw [List.length_append, List.length_take, List.length_map, List.length_map, List.length_drop]
  omega
theorem folF_lo {ln lf : List E} {s j : Nat} (h1 : s ≤ ln.length) (h : j < s) : (folF ln lf s)[j]? = (ln.map dblE)[j]? := by
  unfold folF
  rw [List.getElem?_append_left (by rw [List.length_take, List.length_map]; omega), List.getElem?_take_of_lt h]
theorem folF_hi {ln lf : List E} {s j : Nat} (h1 : s ≤ ln.length) (h : s ≤ j) : (folF ln lf s)[j]? = lf[j]?.map oddE := by
  unfold folF
  have e : ((ln.map dblE).take s).length = s := by rw [List.length_take, List.length_map]; omega
  rw [List.getElem?_append_right (by omega), e, List.getElem?_map, List.getElem?_drop, show s + (j - s) = j by omega]
theorem fol_agr {ln lf : List E} {s : Nat} {T : Int} {A B : Int} (h1 : s ≤ ln.length) (h2 : s ≤ lf.length) (hB : ∀ e ∈ lf, eTerm e ≤ B) (hT : 2 * B + 1 < T) : Agr (folF ln lf s) (folN ln ++ [mkE T noB]) := by
  intro j g1 g2 he
  rcases Nat.lt_or_ge j s with h | h
  · have e1 : (folF ln lf s).take (j + 1) = (ln.map dblE).take (j + 1) := by
      unfold folF
      rw [List.take_append_of_le_length (by rw [List.length_take, List.length_map]; omega), List.take_take, Nat.min_eq_left (by omega)]
    have e2 : (folN ln ++ [mkE T noB]).take (j + 1) = (ln.map dblE).take (j + 1) := by
      unfold folN
      rw [List.take_append_of_le_length (by rw [List.length_map]; omega)]
    rw [e1, e2]
  · exfalso
    have hj : j < lf.length := by rw [folF_len h1 h2] at g1; exact g1
    have e1 : (folF ln lf s)[j] = oddE lf[j] := by
      have := folF_hi (lf := lf) h1 h
      rw [List.getElem?_eq_getElem g1, List.getElem?_eq_getElem hj] at this
      exact Option.some.inj this
    have hlt : eTerm lf[j] ≤ B := hB _ (List.getElem_mem hj)
    have he : eTerm (folF ln lf s)[j] = eTerm (folN ln ++ [mkE T noB])[j] := he
    rw [e1] at he
    have he : 2 * eTerm lf[j] + 1 = eTerm (folN ln ++ [mkE T noB])[j] := he
    rcases Nat.lt_or_ge j ln.length with hn | hn
    · have e2 : (folN ln ++ [mkE T noB])[j] = dblE ln[j] := by
        have h9 : (folN ln ++ [mkE T noB])[j]? = some (dblE ln[j]) := by
          unfold folN
          rw [List.getElem?_append_left (by rw [List.length_map]; exact hn), List.getElem?_map, List.getElem?_eq_getElem hn]
          rfl
        rw [List.getElem?_eq_getElem g2] at h9
        exact Option.some.inj h9
      rw [e2] at he
      have he : 2 * eTerm lf[j] + 1 = 2 * eTerm ln[j] := he
      omega
    · have e2 : (folN ln ++ [mkE T noB])[j] = mkE T noB := by
        have hl1 : (folN ln).length = ln.length := by unfold folN; rw [List.length_map]
        have hl2 : (folN ln ++ [mkE T noB]).length = ln.length + 1 := by rw [List.length_append, hl1]; rfl
        have hj : j = ln.length := by omega
        have h9 : (folN ln ++ [mkE T noB])[j]? = some (mkE T noB) := by
          rw [List.getElem?_append_right (by omega), hl1, hj, Nat.sub_self]
          rfl
        rw [List.getElem?_eq_getElem g2] at h9
        exact Option.some.inj h9
      rw [e2] at he
      have he : 2 * eTerm lf[j] + 1 = T := he
      omega
theorem fol_low {ln lf : List E} {s : Nat} {T A B : Int} (hA : ∀ e ∈ ln, eTerm e ≤ A) (hB : ∀ e ∈ lf, eTerm e ≤ B) (hT1 : 2 * A < T) (hT2 : 2 * B + 1 < T) : ∀ e ∈ folF ln lf s, e.1 ≠ T := by
  intro e he
  have h : eTerm e < T := by
    unfold folF at he
    rcases List.mem_append.1 he with h | h
    · obtain ⟨x, hx, rfl⟩ := List.mem_map.1 (List.mem_of_mem_take h)
      have := hA x hx
      show 2 * eTerm x < T
      omega
    · obtain ⟨x, hx, rfl⟩ := List.mem_map.1 h
      have := hB x (List.mem_of_mem_drop hx)
      show 2 * eTerm x + 1 < T
      omega
  intro e2
  have e2 : eTerm e = T := e2
  omega
/-- A leader looks for the place up to which both logs are the same. -/
theorem search {BT T : Int} {lg L2 : List E} (hl : lg.length ≤ 200) (hl0 : 0 < lg.length) (hl2 : L2.length ≤ 200) (hT : (lg.getD (lg.length - 1) (dflt tEntry)).1 = T) (hA : Agr L2 lg) (hno : ∀ e ∈ L2, e.1 ≠ T) (k : Int) :
    ∀ (d : Nat) (n f : Node) (i : Int), 0 ≤ i → i.toNat ≤ d → i < lg.length → LS 0 BT T lg n (i + 1) 0 → FS 0 BT T f → nLog f = L2 →
    ∃ j n' f', j ≤ 2 * d + 2 * lg.length ∧ Path ⟨n, f, [sendM n 1], k⟩ j ⟨n', f', [], k⟩ ∧ LS 0 BT T lg n' (0 + lg.length + 1) (0 + lg.length) ∧ nCommit n' = 0 + lg.length ∧ nTerm f' = T ∧ nRole f' = 0 ∧ nLead f' = 0 ∧ nLog f' = lg := by
  intro d
  induction d with
  | zero =>
    intro n f i hi hd hil hL hF hlog
    obtain ⟨j, n', f', h1, h2, h3, h4, h5, h6⟩ := forward (b := 0) ⟨Int.le_refl _, by decide⟩ hl hl0 hT k lg.length n f i 0 hL (by unfold okS; decide) hi hF hi (by omega) (by omega) (by rw [hlog]; omega) (by rw [hlog]; exact hl2)
      (by rw [show (i - 0).toNat = 0 by omega]; rfl) (by rw [hlog]; intro e he; exact hno e (List.mem_of_mem_drop he)) (by rw [hlog]; exact hA)
    exact ⟨j, n', f', by omega, h2, h3, h4, h5.term, h5.role, h5.lead, h6⟩
  | succ d ih =>
    intro n f i hi hd hil hL hF hlog
    have hlast : last f = L2.length := by
      show nBase f + ((nLog f).length : Int) = _
      rw [hF.base, hlog]; omega
    by_cases hacc : i ≤ last f ∧ termV f i = termV n i
    · have htk : (nLog f).take (i - 0).toNat = lg.take (i - 0).toNat := by
        rw [hlog]
        by_cases h0 : i = 0
        · rw [show (i - 0).toNat = 0 by omega]; rfl
        · have e1 := hF.termV (i := i) (by omega) (by rw [hlog]; omega)
          have e2 := hL.termV (i := i) (by omega) (by omega)
          rw [hacc.2, e2, hlog] at e1
          have g1 : (i - 0 - 1).toNat < L2.length := by omega
          have g2 : (i - 0 - 1).toNat < lg.length := by omega
          rw [List.getD_eq_getElem?_getD, List.getD_eq_getElem?_getD, List.getElem?_eq_getElem g1, List.getElem?_eq_getElem g2] at e1
          have := hA _ g1 g2 e1.symm
          rw [show (i - 0 - 1).toNat + 1 = (i - 0).toNat by omega] at this
          exact this
      obtain ⟨j, n', f', h1, h2, h3, h4, h5, h6⟩ := forward (b := 0) ⟨Int.le_refl _, by decide⟩ hl hl0 hT k lg.length n f i 0 hL (by unfold okS; decide) hi hF hi (by omega) (by omega) (by rw [hlog]; omega) (by rw [hlog]; exact hl2)
        htk (by rw [hlog]; intro e he; exact hno e (List.mem_of_mem_drop he)) (by rw [hlog]; exact hA)
      exact ⟨j, n', f', by omega, h2, h3, h4, h5.term, h5.role, h5.lead, h6⟩
    · have hi1 : 1 ≤ i := by
        rcases Int.lt_or_le i 1 with h | h
        · exfalso
          have h0 : i = 0 := by omega
          subst h0
          exact hacc ⟨by omega, by rw [hF.termB, hL.termB]⟩
        · exact h
      obtain ⟨cc, hs⟩ := hL.send (by omega)
      rw [show i + 1 - 1 = i by omega] at hs
      obtain ⟨a1, a2, a3, a4, a5⟩ := hF.refuse (Int.le_refl _) (i := i) (tm := termV n i) (c := cc) (es := (lg.drop (i - 0).toNat).take 20) hi (by
        rcases Int.lt_or_le (last f) i with h | h
        · exact .inl h
        · exact .inr fun e => hacc ⟨h, e⟩)
      rw [← hs] at a1 a2 a3 a4 a5
      rw [hlast] at a4
      have z : ∀ i : Int, 0 ≤ i → i ≤ 1000 → okS i := fun i h1 h2 => by unfold okS; omega
      have hb : (0 : Int) ≤ 0 ∧ (0 : Int) ≤ 1000 := by decide
      have hln := hL.last
      have g1 : Good ⟨n, f, [sendM n 1], k⟩ := ⟨hL.rg hb (by omega), hF.rg, hL.ok hb (by omega) (z _ (by omega) (by omega)) (z _ (by omega) (by omega)), by show last n ≤ _; omega, Nat.le_refl _, fun m hm => by
        rw [List.mem_singleton.1 hm, hs]
        refine ⟨show -1000 ≤ i ∧ i ≤ 1000000 by omega, ?_⟩
        show ((lg.drop (i - 0).toNat).take 20).length ≤ 20
        rw [List.length_take]; omega⟩
      have hto : mTo (sendM n 1) = 1 := by rw [hs] <;> rfl
      have hkd : ¬ mKind (sendM n 1) = 5 := by rw [hs]; show ¬ (3 : Int) = 5; decide
      generalize hh : max 0 (min (L2.length : Int) (i - 1)) = h at *
      have st1 : rstep ⟨n, f, [sendM n 1], k⟩ = ⟨n, take1 f (sendM n 1), [ackM T false h], k⟩ := by
        rw [rstep_f hto, if_neg hkd, a4]
        rfl
      generalize take1 f (sendM n 1) = f1 at *
      have g2 : Good ⟨n, f1, [ackM T false h], k⟩ := ⟨hL.rg hb (by omega), a3.rg, hL.ok hb (by omega) (z _ (by omega) (by omega)) (z _ (by omega) (by omega)), by show last n ≤ _; omega, Nat.le_refl _, fun m hm => by
        rw [List.mem_singleton.1 hm]
        exact ⟨show -1000 ≤ h ∧ h ≤ 1000000 by omega, Nat.zero_le _⟩⟩
      obtain ⟨b1, b2, b3, b4⟩ := hL.no (m := ackM T false h) rfl rfl rfl
      have st2 : rstep ⟨n, f1, [ackM T false h], k⟩ = ⟨heard1 n (ackM T false h), f1, heard2 n (ackM T false h), k⟩ := by
        rw [rstep_n (show ¬ ((0 : Int) = 1) by decide)]
        rfl
      rw [b2] at st2
      generalize heard1 n (ackM T false h) = n1 at *
      rw [show max (max 1 (0 + 1)) (min (i + 1 - 1) (mIndex (ackM T false h) + 1)) = h + 1 by show max (max 1 (0 + 1)) (min (i + 1 - 1) (h + 1)) = h + 1; omega] at b1
      obtain ⟨j, n', f', h1, h2, h3, h4, h5⟩ := ih n1 f1 h (by omega) (by omega) (by omega) b1 a3 (a2.trans hlog)
      exact ⟨j + 2, n', f', by omega, .cons g1 (by simp) (st1 ▸ .cons g2 (by simp) (st2 ▸ h2)), h3, h4, h5⟩
def folEnd (s : RS) : Prop := s.l = [] ∧ nLog s.n = nLog s.f ∧ nCommit s.n = (nLog s.n).length ∧ nTerm s.f = nTerm s.n ∧ nLead s.f = 0 ∧ nRole s.f = 0
/-- the two of ReplFollows -/
def folA (n f : Node) (s : Nat) : Node := mkN (nId n) (nNodes n) (max (2 * nTerm n) (2 * nTerm f + 1) + 1) (nVote n) (nBase n) (nBT n) (nSnap n) (folN (nLog n)) (nRole n) (nLead n) (min (nCommit n) s) (nVotes n) (nNext n) (nMatch n) (nClock n)
def folB (n f : Node) (s : Nat) : Node := mkN (nId f) (nNodes f) (2 * nTerm f + 1) (nVote f) (nBase f) (nBT f) (nSnap f) (folF (nLog n) (nLog f) s) (nRole f) (nLead f) (min (nCommit f) s) (nVotes f) (nNext f) (nMatch f) (nClock f)
theorem madeStep_ids (n : Node) (v : Int) : nId (madeStep n v) = nId n ∧ nNodes (madeStep n v) = nNodes n := by
  unfold madeStep
  split
  · exact ⟨rfl, rfl⟩
  split
  · exact ⟨rfl, rfl⟩
  split
  · unfold cutN; split <;> exact ⟨rfl, rfl⟩
  split
  · exact ⟨rfl, rfl⟩
  split
  · exact ⟨rfl, rfl⟩
  split
  · exact ⟨rfl, rfl⟩
  · exact ⟨rfl, rfl⟩
theorem made_ids (l : List Int) (id nodes : Int) : nId (made l id nodes) = nId (newN id nodes) ∧ nNodes (made l id nodes) = nNodes (newN id nodes) := by
  have hf : ∀ (l : List Int) (n : Node), nId (l.foldl madeStep n) = nId n ∧ nNodes (l.foldl madeStep n) = nNodes n := by
    intro l
    induction l with
    | nil => intro n; exact ⟨rfl, rfl⟩
    | cons v l ih =>
      intro n
      have h1 := ih (madeStep n v)
      have h2 := madeStep_ids n v
      exact ⟨h1.1.trans h2.1, h1.2.trans h2.2⟩
  exact hf _ _
theorem fol_run {a b : List Int} {s : Nat} (h0 : nBase (made a 0 2) = 0) (h0' : nBase (made b 1 2) = 0) (h1 : s ≤ (nLog (made a 0 2)).length) (h2 : s ≤ (nLog (made b 1 2)).length) :
    rgL (folA (made a 0 2) (made b 1 2) s) ∧ ∃ sF, folEnd sF ∧ ∃ j, j ≤ 200 ∧ Path ⟨lead1 (folA (made a 0 2) (made b 1 2) s), folB (made a 0 2) (made b 1 2) s, lead2 (folA (made a 0 2) (made b 1 2) s), 0⟩ j sF := by
  have i1 := made_ids a 0 2
  have i2 := made_ids b 1 2
  have hA := made_terms a 0 2
  have hB := made_terms b 1 2
  have t1 := made_bt a 0 2 h0
  have t2 := made_bt b 1 2 h0'
  have m1 := MI_made a 0 2
  have m2 := MI_made b 1 2
  generalize made a 0 2 = n at *
  generalize made b 1 2 = f at *
  simp only [MI] at m1 m2
  have hla : last n = nBase n + (nLog n).length := rfl
  have hlb : last f = nBase f + (nLog f).length := rfl
  have i1a : nId n = 0 := i1.1
  have i1b : nNodes n = 2 := i1.2
  have i2a : nId f = 1 := i2.1
  have i2b : nNodes f = 2 := i2.2
  obtain ⟨T, hT⟩ : ∃ T : Int, T = max (2 * nTerm n) (2 * nTerm f + 1) + 1 := ⟨_, rfl⟩
  have hlenA : (folN (nLog n)).length = (nLog n).length := by unfold folN; rw [List.length_map]
  have hlast : last (folA n f s) = (nLog n).length := by
    show nBase n + ((folN (nLog n)).length : Int) = _
    rw [hlenA, h0]; omega
  have hrg : rgL (folA n f s) := by
    refine ⟨⟨show 0 ≤ nBase n by omega, show nBase n ≤ min (nCommit n) s by omega, show min (nCommit n) (s : Int) ≤ _ by omega, by rw [hlast]; omega, ?_, show 0 ≤ nNodes n by omega, show nNodes n ≤ 100 by omega, ?_, ?_⟩, by rw [hlast]; omega, ?_⟩
    · rw [sm]; show (folN (nLog n)).length ≤ _; omega
    · rw [sm]; show (nNext n).length ≤ _; omega
    · rw [sm]; show (nMatch n).length ≤ _; omega
    · show (folN (nLog n)).length ≤ _; omega
  refine ⟨hrg, ?_⟩
  obtain ⟨a1, a2, _⟩ := lead_LS (n := folA n f s) i1a i1b (show 0 ≤ nBase n by omega) (show nBase n ≤ min (nCommit n) s by omega) (by rw [hlast]; show min (nCommit n) (s : Int) ≤ _; omega) (by rw [hlast]; omega)
  rw [hlast] at a1
  have b1 : nBase (folA n f s) = 0 := h0
  have b2 : nBT (folA n f s) = 0 := t1
  have b3 : nTerm (folA n f s) = T := hT.symm
  have b4 : nLog (folA n f s) = folN (nLog n) := rfl
  rw [b1, b2, b3, b4] at a1
  have hlf := folF_len h1 h2
  have hF : FS 0 0 T (folB n f s) := by
    refine ⟨i2a, h0', t2, show 2 * nTerm f + 1 ≤ T by omega, ⟨show 0 ≤ nBase f by omega, show nBase f ≤ min (nCommit f) s by omega, show min (nCommit f) (s : Int) ≤ _ by omega, ?_, ?_, show 0 ≤ nNodes f by omega, show nNodes f ≤ 100 by omega, ?_, ?_⟩, ?_⟩
    · show nBase f + ((folF (nLog n) (nLog f) s).length : Int) ≤ _; omega
    · rw [sm]; show (folF (nLog n) (nLog f) s).length ≤ _; omega
    · rw [sm]; show (nNext f).length ≤ _; omega
    · rw [sm]; show (nMatch f).length ≤ _; omega
    · show (folF (nLog n) (nLog f) s).length ≤ _; omega
  have hlg : (folN (nLog n) ++ [mkE T noB]).length = (nLog n).length + 1 := by rw [List.length_append, hlenA]; rfl
  have hTT : ((folN (nLog n) ++ [mkE T noB]).getD ((folN (nLog n) ++ [mkE T noB]).length - 1) (dflt tEntry)).1 = T := by
    rw [List.getD_eq_getElem?_getD, hlg, show (nLog n).length + 1 - 1 = (folN (nLog n)).length by rw [hlenA]; omega, List.getElem?_append_right (Nat.le_refl _), Nat.sub_self]
    rfl
  obtain ⟨j, n', f', c1, c2, c3, c4, c5, c6, c7, c8⟩ := search (BT := 0) (T := T) (by omega) (by omega) (by omega) hTT (fol_agr (A := 0) h1 h2 hB (by omega)) (fol_low hA hB (by omega) (by omega)) 0 (nLog n).length (lead1 (folA n f s)) (folB n f s) ((nLog n).length : Int) (by omega) (by omega) (by omega) a1 hF rfl
  rw [a2]
  refine ⟨⟨n', f', [], 0⟩, ⟨rfl, ?_, ?_, ?_, c7, c6⟩, j, by omega, c2⟩
  · show nLog n' = nLog f'; rw [c3.log, c8]
  · show nCommit n' = (nLog n').length; rw [c4, c3.log]; omega
  · show nTerm f' = nTerm n'; rw [c5, c3.term]
end Go.AM
