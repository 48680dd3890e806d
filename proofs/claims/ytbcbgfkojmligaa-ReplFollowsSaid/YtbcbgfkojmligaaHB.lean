import Derived.Test.YtbcbgfkojmligaaHA
import Derived.Test.YtbcbgfkojmligaaTB
/- What functions of the program answer, each under the conditions that its contract names. -/
set_option linter.unusedVariables false
set_option linter.unusedSimpArgs false
set_option maxRecDepth 100000
set_option maxHeartbeats 4000000
set_option linter.unusedSimpArgs false
namespace Go.AM
open Go.Proofs
attribute [local congr] vc_congr evOps_congr evTab_congr bind_congr condK_congr tabK_congr
def voteUpFn : Fn := { a := .pair (.list tI) (.pair (.list tI) .unit), r := .pair .bool .unit, pre := fun x => preS x.1 ∧ preS x.2.1, f := fun _ => (true, ()) }
def setTerm (n : Node) (t : Int) : Node := mkN (nId n) (nNodes n) t (nVote n) (nBase n) (nBT n) (nSnap n) (nLog n) (nRole n) (nLead n) (nCommit n) (nVotes n) (nNext n) (nMatch n) (nClock n)
theorem step_id (n : Node) (v : Int) : nId (madeStep n v) = nId n := by
  unfold madeStep cutN
  repeat' split
  all_goals rfl
theorem made_id (l : List Int) (id nodes : Int) : nId (made l id nodes) = min (max id 0) (min (max nodes 1) 5 - 1) := by
  unfold made
  have : ∀ (l : List Int) (n : Node), nId (l.foldl madeStep n) = nId n := by
    intro l
    induction l with
    | nil => intro n; rfl
    | cons v l ih => intro n; rw [List.foldl_cons, ih, step_id]
  rw [this]
  rfl
theorem start1_id (n : Node) : nId (start1 n) = nId n := by unfold start1 own; split <;> rfl
theorem start1_term (n : Node) : nTerm (start1 n) = nTerm n + 1 := by unfold start1 own; split <;> rfl
theorem start1_termV (n : Node) (i : Int) : termV (start1 n) i = termV n i := by unfold start1 own; split <;> rfl
theorem start1_vlen (n : Node) (h1 : 1 ≤ nNodes n) (h5 : nNodes n ≤ 5) : (nVotes (start1 n)).length = (nNodes n).toNat := by
  unfold start1; rw [own_votes, votes_len]
  show (max 0 (min (nNodes n) 5)).toNat = _
  omega
def upB (n c : Node) : Bool := decide (termV n (last n) < termV c (last c)) || decide (termV c (last c) = termV n (last n)) && decide (last n ≤ last c)
theorem start2_3 (c : Node) (h3 : nNodes c = 3) (h1 : nId c = 1) : start2 c = [askMsg (start1 c) 0, askMsg (start1 c) 2] := by
  have hl : (nVotes (start1 c)).length = 3 := by rw [start1_vlen c (by omega) (by omega), h3]; rfl
  unfold start2 startMsgs
  rw [hl, start1_id, h1]
  rfl
theorem voteUp_law (n c : Node) (h3 : nNodes c = 3) (h1 : nId c = 1) (ht : nTerm n ≤ nTerm c) :
    (asked2 n (l0 (start2 c))).length = 1 ∧ mYes ((asked2 n (l0 (start2 c))).getD 0 (dflt tMsg)) = upB n c ∧ decide (nVote (asked1 n (l0 (start2 c))) = 1) = upB n c ∧
    nTerm (asked1 n (l0 (start2 c))) = nTerm (start1 c) ∧ nRole (asked1 n (l0 (start2 c))) = 0 := by
  rw [start2_3 c h3 h1]
  have e0 : l0 [askMsg (start1 c) 0, askMsg (start1 c) 2] = askMsg (start1 c) 0 := rfl
  rw [e0]
  unfold asked1 asked2
  have em : mTerm (askMsg (start1 c) 0) = nTerm c + 1 := start1_term c
  rw [em]
  have ed : down n (nTerm c + 1) = mkN (nId n) (nNodes n) (nTerm c + 1) (-1) (nBase n) (nBT n) (nSnap n) (nLog n) 0 (-1) (nCommit n) (votes n) (nNext n) (nMatch n) (nClock n) := by
    unfold down; exact if_pos (by omega)
  have eB : askB (down n (nTerm c + 1)) (askMsg (start1 c) 0) = upB n c := by
    have e1 : mAt (askMsg (start1 c) 0) = termV c (last c) := by
      show termV (start1 c) (last (start1 c)) = _
      rw [start1_termV, start1_last]
    have e2 : mIndex (askMsg (start1 c) 0) = last c := start1_last c
    have e3 : lastT (down n (nTerm c + 1)) = termV n (last n) := by rw [ed]; rfl
    have e4 : last (down n (nTerm c + 1)) = last n := last_down _ _
    have e5 : nTerm (down n (nTerm c + 1)) = nTerm c + 1 := by rw [ed]
    have e6 : nVote (down n (nTerm c + 1)) = -1 := by rw [ed]
    unfold askB upB
    rw [em, e1, e2, e3, e4, e5, e6]
    simp
  have e7 : mFrom (askMsg (start1 c) 0) = 1 := by show nId (start1 c) = 1; rw [start1_id]; exact h1
  unfold asked1' asked2'
  refine ⟨rfl, eB, ?_, ?_, ?_⟩
  · rw [← eB]
    split
    · rename_i h
      rw [h]
      exact decide_eq_true e7
    · rename_i h
      rw [Bool.not_eq_true] at h
      rw [h, ed]
      exact decide_eq_false (show ¬ ((-1 : Int) = 1) by decide)
  · rw [start1_term]
    split <;> (rw [ed])
  · split <;> (rw [ed])
theorem h4  : Holds Try.prog 4 (voteUpFn) := by
  refine Holds.of_vc (T := [(22, fn22), (27, fn27), (28, fn28), (25, fn25), (30, fn30), (29, fn29), (26, fn26)]) (TT := ttL) (rowAt := []) (c := c4) (ros := [.t 4]) (.cons _ h22 (.cons _ h27 (.cons _ h28 (.cons _ h25 (.cons _ h30 (.cons _ h29 (.cons _ h26 (.nil _)))))))) mixed Try.func4 (by decide +kernel) (by rfl) comp4 (by kernel_rfl) rfl rfl (fun h => by cases h) ?_
  rintro ⟨(a : List Int), (b : List Int), _⟩ hpre
  simp only [voteUpFn] at hpre ⊢
  simp only [c4, fn22, fn27, fn28, fn25, fn30, fn29, fn26, go_sem, reduceIte, Nat.reduceBEq, Nat.reduceMul, reduceCtorEq, Nat.reduceAdd, Nat.reduceEqDiff, decide_eq_true_eq, decide_eq_false_iff_not, Bool.not_eq_true', Bool.not_eq_false', Bool.and_eq_true, Bool.or_eq_true, Bool.and_eq_false_iff, Bool.or_eq_false_iff, Bool.cond_true_left, Bool.cond_false_right, Bool.cond_true_right, Bool.cond_false_left, Bool.or_false, Bool.and_true, inR, fn48]
  have hn := MI_made a 0 3
  have hc := MI_made b 1 3
  have hid : nId (made b 1 3) = 1 := made_id b 1 3
  have hn3 := made_nodes a 0 3
  have hc3 := made_nodes b 1 3
  generalize made a 0 3 = n at *
  generalize made b 1 3 = c at *
  generalize hcc : (pr (a := tI) c.1 (pr (a := tI) c.2.1 (pr (a := tI) (max c.2.2.1 n.2.2.1) (pr (a := tI) c.2.2.2.1 (pr (a := tI) c.2.2.2.2.1 (pr (a := tI) c.2.2.2.2.2.1 (pr (a := .str) c.2.2.2.2.2.2.1 (pr (a := .list tEntry) c.2.2.2.2.2.2.2.1 (pr (a := tI) c.2.2.2.2.2.2.2.2.1 (pr (a := tI) c.2.2.2.2.2.2.2.2.2.1 (pr (a := tI) c.2.2.2.2.2.2.2.2.2.2.1 (pr (a := .list .bool) c.2.2.2.2.2.2.2.2.2.2.2.1 (pr (a := .list tI) c.2.2.2.2.2.2.2.2.2.2.2.2.1 (pr (a := .list tI) c.2.2.2.2.2.2.2.2.2.2.2.2.2.1 (pr (a := tI) (b := .unit) c.2.2.2.2.2.2.2.2.2.2.2.2.2.2.1 ()))))))))))))))) = c'
  have c1 : nNodes c' = 3 := by rw [← hcc]; exact hc3
  have c2 : nTerm n ≤ nTerm c' := by rw [← hcc]; show nTerm n ≤ max (nTerm c) (nTerm n); omega
  have c3 : nTerm c' ≤ 40 := by rw [← hcc]; show max (nTerm c) (nTerm n) ≤ 40; simp only [MI] at hn hc; omega
  have c4 : 0 ≤ nTerm c' := by simp only [MI] at hn; omega
  have c5 : nBase c' = nBase c := by rw [← hcc]; rfl
  have c6 : last c' = last c := by rw [← hcc]; rfl
  have c7 : nId c' = nId c := by rw [← hcc]; rfl
  clear hcc
  obtain ⟨l1, l2, l3, l4, l5⟩ := voteUp_law n c' c1 (by rw [c7]; exact hid) c2
  have l0' : (start2 c').length = 2 := by rw [start2_3 c' c1 (by rw [c7]; exact hid)]; rfl
  have e1 : ((asked2 n (l0 (start2 c'))).getD 0 (dflt tMsg)).2.2.2.2.2.2.1 = (decide (termV n (last n) < termV c' (last c')) || decide (termV c' (last c') = termV n (last n)) && decide (last n ≤ last c')) := l2
  have e2 : decide ((asked1 n (l0 (start2 c'))).2.2.2.1 = 1) = (decide (termV n (last n) < termV c' (last c')) || decide (termV c' (last c') = termV n (last n)) && decide (last n ≤ last c')) := l3
  have e3 : (asked1 n (l0 (start2 c'))).2.2.1 = (start1 c').2.2.1 := l4
  have e4 : (asked1 n (l0 (start2 c'))).2.2.2.2.2.2.2.2.1 = 0 := l5
  simp only [l0', l1, e1, e2, e3, e4, beq_self_eq_true, and_true, true_and]
  simp only [MI] at hn hc
  dsimp only [den, nId, nNodes, nTerm, nVote, nBase, nBT, nSnap, nLog, nRole, nLead, nCommit, nVotes, nNext, nMatch, nClock, mKind, mFrom, mTo, mTerm, mIndex, mAt, mYes, mCommit, mEntries, mSnap, eTerm, eCmd, mkN, mkM, mkE, last, inR, sm, lastT] at *
  repeat (first | refine ⟨by omega, ?_⟩ | refine ⟨by rfl, ?_⟩ | refine ⟨fun h => h, ?_⟩ | refine ⟨fun h => ⟨h, by omega⟩, ?_⟩)
  rfl
end Go.AM

set_option maxRecDepth 100000
set_option maxHeartbeats 4000000
set_option linter.unusedSimpArgs false
namespace Go.AM
open Go.Proofs
attribute [local congr] vc_congr evOps_congr evTab_congr bind_congr condK_congr tabK_congr
theorem str_eq (a b : ByteArray) : (a.toList == b.toList) = decide (a = b) := by
  by_cases h : a = b
  · subst h; simp
  · rw [decide_eq_false h]
    rw [beq_eq_false_iff_ne]
    intro h2
    apply h
    rw [ByteArray.toList_eq, ByteArray.toList_eq] at h2
    cases a; cases b
    simpa [Array.toList_inj] using h2
def alike : List E → List E → Nat
  | x :: xs, y :: ys => if x.1 = y.1 ∧ x.2.1 = y.2.1 then alike xs ys + 1 else 0
  | _, _ => 0
theorem alike_nil (a : List E) : alike a [] = 0 := by cases a <;> rfl
theorem alike_drop {a b : List E} {k : Nat} (h : k + alike (a.drop k) (b.drop k) = alike a b) (ha : k < a.length) (hb : k < b.length)
    (e1 : (a.getD k (dflt tEntry)).1 = (b.getD k (dflt tEntry)).1) (e2 : (a.getD k (dflt tEntry)).2.1 = (b.getD k (dflt tEntry)).2.1) :
    k + 1 + alike (a.drop (k + 1)) (b.drop (k + 1)) = alike a b := by
  rw [List.drop_eq_getElem_cons ha, List.drop_eq_getElem_cons hb] at h
  rw [List.getD_eq_getElem?_getD, List.getD_eq_getElem?_getD, List.getElem?_eq_getElem ha, List.getElem?_eq_getElem hb] at e1 e2
  simp only [Option.getD_some] at e1 e2
  simp only [alike, e1, e2, and_self, if_true] at h
  omega
theorem alike_stop {a b : List E} {k : Nat} (h : k + alike (a.drop k) (b.drop k) = alike a b)
    (hs : ¬ (k < a.length ∧ k < b.length ∧ (a.getD k (dflt tEntry)).1 = (b.getD k (dflt tEntry)).1 ∧ (a.getD k (dflt tEntry)).2.1 = (b.getD k (dflt tEntry)).2.1)) : k = alike a b := by
  by_cases ha : k < a.length
  · by_cases hb : k < b.length
    · rw [List.drop_eq_getElem_cons ha, List.drop_eq_getElem_cons hb] at h
      rw [List.getD_eq_getElem?_getD, List.getD_eq_getElem?_getD, List.getElem?_eq_getElem ha, List.getElem?_eq_getElem hb] at hs
      simp only [Option.getD_some, ha, hb, true_and] at hs
      simp only [alike, hs, if_false] at h
      omega
    · rw [List.drop_eq_nil_of_le (by omega : b.length ≤ k), alike_nil] at h
      omega
  · rw [List.drop_eq_nil_of_le (by omega : a.length ≤ k)] at h
    simp only [alike] at h
    omega
theorem alike_le (a b : List E) : alike a b ≤ a.length := by
  induction a generalizing b with
  | nil => simp [alike]
  | cons x a ih =>
    cases b with
    | nil => simp [alike]
    | cons y b =>
      have := ih b
      simp only [alike, List.length_cons]
      split <;> omega
theorem alike_all (a b : List E) : (a.length = b.length ∧ alike a b = a.length) ↔ a = b := by
  induction a generalizing b with
  | nil =>
    cases b with
    | nil => simp [alike]
    | cons y b => simp [alike]
  | cons x a ih =>
    cases b with
    | nil => simp [alike]
    | cons y b =>
      simp only [alike, List.length_cons, List.cons.injEq]
      rw [← ih b]
      have := alike_le a b
      have ext : x = y ↔ x.1 = y.1 ∧ x.2.1 = y.2.1 := by
        constructor
        · rintro rfl; exact ⟨rfl, rfl⟩
        · rintro ⟨h1, h2⟩
          obtain ⟨x1, x2, _⟩ := x
          obtain ⟨y1, y2, _⟩ := y
          simp only at h1 h2
          rw [h1, h2]
      rw [ext]
      split
      · rename_i h
        constructor
        · rintro ⟨h1, h2⟩; exact ⟨h, by omega, by omega⟩
        · rintro ⟨_, h1, h2⟩; exact ⟨by omega, by omega⟩
      · rename_i h
        constructor
        · rintro ⟨h1, h2⟩; omega
        · rintro ⟨h1, _⟩; exact absurd h1 h
def fn93 : Fn := { a := .pair (.list tEntry) (.pair (.list tEntry) .unit), r := .pair tI .unit, pre := fun x => smallL x.1, f := fun x => ((alike x.1 x.2.1 : Int), ()) }
theorem h93  : Holds Try.prog 93 (fn93) := by
  refine Holds.of_vc (T := []) (TT := ttL) (rowAt := []) (c := c93) (ros := [.t 4]) (.nil _) mixed Try.func93 (by decide +kernel) (by rfl) comp93 (by kernel_rfl) rfl rfl (fun h => by cases h) ?_
  rintro ⟨(a : List E), (b : List E), _⟩ hpre
  simp only [fn93] at hpre ⊢
  simp only [c93, go_sem, reduceIte, Nat.reduceBEq, Nat.reduceMul, reduceCtorEq, Nat.reduceAdd, Nat.reduceEqDiff, decide_eq_true_eq, decide_eq_false_iff_not, Bool.not_eq_true', Bool.not_eq_false', Bool.and_eq_true, Bool.or_eq_true, Bool.and_eq_false_iff, Bool.or_eq_false_iff, Bool.cond_true_left, Bool.cond_false_right, Bool.cond_true_right, Bool.cond_false_left, Bool.or_false, Bool.and_true, inR]
  refine loop_rule (β := Nat) (fun i => ⟨[(0, .sl tEntry a false), (1, .sl tEntry b false), (5, .int .i64 i)], []⟩) (fun i => i ≤ a.length ∧ i + alike (a.drop i) (b.drop i) = alike a b) (fun i => a.length - i) 0 ?_ ?_ ?_
  · refine Ent_of [] rfl ?_ ?_
    · simp only [go_sem, reduceIte, Nat.reduceBEq, Nat.reduceMul, reduceCtorEq, Nat.reduceAdd, Nat.reduceEqDiff, decide_eq_true_eq, decide_eq_false_iff_not, Bool.not_eq_true', Bool.not_eq_false', Bool.and_eq_true, Bool.or_eq_true, Bool.and_eq_false_iff, Bool.or_eq_false_iff, Bool.cond_true_left, Bool.cond_false_right, Bool.cond_true_right, Bool.cond_false_left, Bool.or_false, Bool.and_true]
    · simp only [go_sem, reduceIte, Nat.reduceBEq, Nat.reduceMul, reduceCtorEq, Nat.reduceAdd, Nat.reduceEqDiff, decide_eq_true_eq, decide_eq_false_iff_not, Bool.not_eq_true', Bool.not_eq_false', Bool.and_eq_true, Bool.or_eq_true, Bool.and_eq_false_iff, Bool.or_eq_false_iff, Bool.cond_true_left, Bool.cond_false_right, Bool.cond_true_right, Bool.cond_false_left, Bool.or_false, Bool.and_true]
      trivial
  · exact ⟨Nat.zero_le _, by rw [Nat.zero_add]; rfl⟩
  rintro i ⟨hi, hk⟩
  simp only [go_sem, reduceIte, Nat.reduceBEq, Nat.reduceMul, reduceCtorEq, Nat.reduceAdd, Nat.reduceEqDiff, decide_eq_true_eq, decide_eq_false_iff_not, Bool.not_eq_true', Bool.not_eq_false', Bool.and_eq_true, Bool.or_eq_true, Bool.and_eq_false_iff, Bool.or_eq_false_iff, Bool.cond_true_left, Bool.cond_false_right, Bool.cond_true_right, Bool.cond_false_left, Bool.or_false, Bool.and_true, inR, str_eq]
  simp only [sm] at hpre
  refine ⟨by omega, by omega, by omega, by omega, by rfl, fun h => ⟨by omega, Again.intro (i + 1) (Ent_of [] rfl ?_ ?_) ⟨?_, ?_⟩ (show a.length - (i + 1) < a.length - i by omega)⟩, fun h => ?_⟩
  · simp only [go_sem, reduceIte, Nat.reduceBEq, Nat.reduceMul, reduceCtorEq, Nat.reduceAdd, Nat.reduceEqDiff, decide_eq_true_eq, decide_eq_false_iff_not, Bool.not_eq_true', Bool.not_eq_false', Bool.and_eq_true, Bool.or_eq_true, Bool.and_eq_false_iff, Bool.or_eq_false_iff, Bool.cond_true_left, Bool.cond_false_right, Bool.cond_true_right, Bool.cond_false_left, Bool.or_false, Bool.and_true]
  · simp only [go_sem, reduceIte, Nat.reduceBEq, Nat.reduceMul, reduceCtorEq, Nat.reduceAdd, Nat.reduceEqDiff, decide_eq_true_eq, decide_eq_false_iff_not, Bool.not_eq_true', Bool.not_eq_false', Bool.and_eq_true, Bool.or_eq_true, Bool.and_eq_false_iff, Bool.or_eq_false_iff, Bool.cond_true_left, Bool.cond_false_right, Bool.cond_true_right, Bool.cond_false_left, Bool.or_false, Bool.and_true]
    omega
  · show i + 1 ≤ a.length; omega
  · exact alike_drop hk (by omega) (by omega) h.1.2 h.2
  · rw [← alike_stop hk (fun hc => ?_)]
    rcases h with (h | h) | h
    · omega
    · exact h hc.2.2.1
    · exact h hc.2.2.2
noncomputable def eqB {α : Type} (a b : α) : Bool := @decide (a = b) (Classical.propDecidable _)
theorem eqB_iff {α : Type} {a b : α} : eqB a b = true ↔ a = b := by unfold eqB; exact @decide_eq_true_iff _ (Classical.propDecidable _)
theorem eqB_self {α : Type} (a : α) : eqB a a = true := eqB_iff.2 rfl
theorem eqB_of {α : Type} {a b : α} {c : Bool} (h : c = true ↔ a = b) : c = eqB a b := by
  rw [Bool.eq_iff_iff, eqB_iff]; exact h
noncomputable def fn37 : Fn := { a := .pair (.list tEntry) (.pair (.list tEntry) .unit), r := .pair .bool .unit, pre := fun x => smallL x.1, f := fun x => (eqB x.1 x.2.1, ()) }
theorem h37  : Holds Try.prog 37 (fn37) := by
  refine Holds.of_vc (T := [(93, fn93)]) (TT := ttL) (rowAt := []) (c := c37) (ros := [.t 4]) (.cons _ h93 (.nil _)) mixed Try.func37 (by decide +kernel) (by rfl) comp37 (by kernel_rfl) rfl rfl (fun h => by cases h) ?_
  rintro ⟨(a : List E), (b : List E), _⟩ hpre
  simp only [fn37] at hpre ⊢
  simp only [c37, fn93, go_sem, reduceIte, Nat.reduceBEq, Nat.reduceMul, reduceCtorEq, Nat.reduceAdd, Nat.reduceEqDiff, decide_eq_true_eq, decide_eq_false_iff_not, Bool.not_eq_true', Bool.not_eq_false', Bool.and_eq_true, Bool.or_eq_true, Bool.and_eq_false_iff, Bool.or_eq_false_iff, Bool.cond_true_left, Bool.cond_false_right, Bool.cond_true_right, Bool.cond_false_left, Bool.or_false, Bool.and_true, inR]
  refine ⟨fun _ => hpre, eqB_of ?_⟩
  simp only [Bool.and_eq_true, Bool.or_eq_true, decide_eq_true_eq, decide_eq_false_iff_not, Bool.and_eq_false_iff, Bool.or_eq_false_iff, Bool.not_eq_true', Bool.not_eq_false']
  rw [← alike_all a b]
  omega
noncomputable def fn61 : Fn := { a := .pair tHard (.pair tHard .unit), r := .pair .bool .unit, pre := fun x => smallL x.1.2.2.2.2.2.1, f := fun x => (eqB x.1 x.2.1, ()) }
theorem h61  : Holds Try.prog 61 (fn61) := by
  refine Holds.of_vc (T := [(37, fn37)]) (TT := ttL) (rowAt := []) (c := c61) (ros := [.t 4]) (.cons _ h37 (.nil _)) mixed Try.func61 (by decide +kernel) (by rfl) comp61 (by kernel_rfl) rfl rfl (fun h => by cases h) ?_
  rintro ⟨(a : Hrd), (b : Hrd), _⟩ hpre
  simp only [fn61] at hpre ⊢
  simp only [c61, fn37, go_sem, reduceIte, Nat.reduceBEq, Nat.reduceMul, reduceCtorEq, Nat.reduceAdd, Nat.reduceEqDiff, decide_eq_true_eq, decide_eq_false_iff_not, Bool.not_eq_true', Bool.not_eq_false', Bool.and_eq_true, Bool.or_eq_true, Bool.and_eq_false_iff, Bool.or_eq_false_iff, Bool.cond_true_left, Bool.cond_false_right, Bool.cond_true_right, Bool.cond_false_left, Bool.or_false, Bool.and_true, inR, str_eq]
  refine ⟨fun _ => hpre, eqB_of ?_⟩
  simp only [Bool.and_eq_true, decide_eq_true_eq, eqB_iff]
  obtain ⟨a1, a2, a3, a4, a5, a6, _⟩ := a
  obtain ⟨b1, b2, b3, b4, b5, b6, _⟩ := b
  constructor
  · rintro ⟨⟨⟨⟨⟨h1, h2⟩, h3⟩, h4⟩, h5⟩, h6⟩
    simp only at h1 h2 h3 h4 h5 h6
    rw [h1, h2, h3, h4, h5, h6]
  · intro h
    cases h
    exact ⟨⟨⟨⟨⟨rfl, rfl⟩, rfl⟩, rfl⟩, rfl⟩, rfl⟩
theorem node_ext {a b : Node} (h : hard a = hard b) (h1 : a.1 = b.1) (h2 : a.2.1 = b.2.1) (h3 : nRole a = nRole b) (h4 : nLead a = nLead b) (h5 : nCommit a = nCommit b) (h6 : nVotes a = nVotes b) (h7 : nNext a = nNext b) (h8 : nMatch a = nMatch b) (h9 : nClock a = nClock b) : a = b := by
  obtain ⟨a1, a2, a3, a4, a5, a6, a7, a8, a9, a10, a11, a12, a13, a14, a15, _⟩ := a
  obtain ⟨b1, b2, b3, b4, b5, b6, b7, b8, b9, b10, b11, b12, b13, b14, b15, _⟩ := b
  unfold hard at h
  dsimp only [den, nId, nNodes, nTerm, nVote, nBase, nBT, nSnap, nLog, nRole, nLead, nCommit, nVotes, nNext, nMatch, nClock, mKind, mFrom, mTo, mTerm, mIndex, mAt, mYes, mCommit, mEntries, mSnap, eTerm, eCmd, mkN, mkM, mkE, last, inR, sm, lastT] at *
  simp only [Prod.mk.injEq] at h
  obtain ⟨g1, g2, g3, g4, g5, g6, _⟩ := h
  subst h1 h2 h3 h4 h5 h6 h7 h8 h9 g1 g2 g3 g4 g5 g6
  rfl
theorem eqB_ne {α : Type} {a b : α} (h : a ≠ b) : false = eqB a b := by
  cases hc : eqB a b with
  | false => rfl
  | true => exact absurd (eqB_iff.1 hc) h
theorem list_eq_of_getD {α : Type} (d : α) {l l' : List α} (hl : l.length = l'.length) (h : ∀ j, j < l.length → l.getD j d = l'.getD j d) : l = l' := by
  refine List.ext_getElem hl fun j h1 h2 => ?_
  have := h j h1
  rw [List.getD_eq_getElem?_getD, List.getD_eq_getElem?_getD, List.getElem?_eq_getElem h1, List.getElem?_eq_getElem h2] at this
  exact this
theorem upTo {α : Type} {d : α} {l l' : List α} {i : Nat} (h : ∀ j, j < i → l.getD j d = l'.getD j d) (e : l.getD i d = l'.getD i d) : ∀ j, j < i + 1 → l.getD j d = l'.getD j d := by
  intro j hj
  rcases Nat.lt_or_ge j i with h2 | h2
  · exact h j h2
  · rw [show j = i by omega]; exact e
noncomputable def fn33 : Fn := { a := .pair tNode (.pair tNode .unit), r := .pair .bool .unit, pre := fun x => smallL (nLog x.1) ∧ smallL (nVotes x.1) ∧ smallL (nNext x.1) ∧ smallL (nMatch x.1), f := fun x => (eqB x.1 x.2.1, ()) }
theorem h33  : Holds Try.prog 33 (fn33) := by
  refine Holds.of_vc (T := [(62, fn62), (61, fn61)]) (TT := ttL) (rowAt := []) (c := c33) (ros := [.t 4]) (.cons _ h62 (.cons _ h61 (.nil _))) mixed Try.func33 (by decide +kernel) (by rfl) comp33 (by kernel_rfl) rfl rfl (fun h => by cases h) ?_
  rintro ⟨(a : Node), (b : Node), _⟩ hpre
  simp only [fn33] at hpre ⊢
  simp only [c33, fn62, fn61, go_sem, reduceIte, Nat.reduceBEq, Nat.reduceMul, reduceCtorEq, Nat.reduceAdd, Nat.reduceEqDiff, decide_eq_true_eq, decide_eq_false_iff_not, Bool.not_eq_true', Bool.not_eq_false', Bool.and_eq_true, Bool.or_eq_true, Bool.and_eq_false_iff, Bool.or_eq_false_iff, Bool.cond_true_left, Bool.cond_false_right, Bool.cond_true_right, Bool.cond_false_left, Bool.or_false, Bool.and_true, inR]
  refine ⟨fun _ => hpre.1, by rfl, fun h => eqB_ne fun e => ?_, fun h => ?_⟩
  · subst e
    have := eqB_self (hard a)
    simp [this] at h
  have hl5 : (nVotes a).length = (nVotes b).length := by have := h.1.1.2; dsimp only [den, nId, nNodes, nTerm, nVote, nBase, nBT, nSnap, nLog, nRole, nLead, nCommit, nVotes, nNext, nMatch, nClock, mKind, mFrom, mTo, mTerm, mIndex, mAt, mYes, mCommit, mEntries, mSnap, eTerm, eCmd, mkN, mkM, mkE, last, inR, sm, lastT] at *; omega
  have hl6 : (nNext a).length = (nNext b).length := by have := h.1.2; dsimp only [den, nId, nNodes, nTerm, nVote, nBase, nBT, nSnap, nLog, nRole, nLead, nCommit, nVotes, nNext, nMatch, nClock, mKind, mFrom, mTo, mTerm, mIndex, mAt, mYes, mCommit, mEntries, mSnap, eTerm, eCmd, mkN, mkM, mkE, last, inR, sm, lastT] at *; omega
  have hl7 : (nMatch a).length = (nMatch b).length := by have := h.2; dsimp only [den, nId, nNodes, nTerm, nVote, nBase, nBT, nSnap, nLog, nRole, nLead, nCommit, nVotes, nNext, nMatch, nClock, mKind, mFrom, mTo, mTerm, mIndex, mAt, mYes, mCommit, mEntries, mSnap, eTerm, eCmd, mkN, mkM, mkE, last, inR, sm, lastT] at *; omega
  have hp := hpre
  simp only [sm] at hp
  refine loop_rule (β := Nat) (fun i => ⟨[(2, .ptr 2 0), (3, .ptr 3 0), (5, .int .i64 i)], [(2, .box (cellsA tNode a [])), (3, .box (cellsA tNode b []))]⟩) (fun i => i ≤ (nVotes a).length ∧ ∀ j, j < i → (nVotes a).getD j (dflt .bool) = (nVotes b).getD j (dflt .bool)) (fun i => (nVotes a).length - i) 0 ?_ ?_ ?_
  · refine Ent_of [(2, 2), (3, 3)] rfl ?_ ?_
    · simp only [go_sem, reduceIte, Nat.reduceBEq, Nat.reduceMul, reduceCtorEq, Nat.reduceAdd, Nat.reduceEqDiff, decide_eq_true_eq, decide_eq_false_iff_not, Bool.not_eq_true', Bool.not_eq_false', Bool.and_eq_true, Bool.or_eq_true, Bool.and_eq_false_iff, Bool.or_eq_false_iff, Bool.cond_true_left, Bool.cond_false_right, Bool.cond_true_right, Bool.cond_false_left, Bool.or_false, Bool.and_true]
    · simp only [go_sem, reduceIte, Nat.reduceBEq, Nat.reduceMul, reduceCtorEq, Nat.reduceAdd, Nat.reduceEqDiff, decide_eq_true_eq, decide_eq_false_iff_not, Bool.not_eq_true', Bool.not_eq_false', Bool.and_eq_true, Bool.or_eq_true, Bool.and_eq_false_iff, Bool.or_eq_false_iff, Bool.cond_true_left, Bool.cond_false_right, Bool.cond_true_right, Bool.cond_false_left, Bool.or_false, Bool.and_true]
      trivial
  · exact ⟨Nat.zero_le _, fun j hj => absurd hj (Nat.not_lt_zero j)⟩
  rintro i ⟨hi, hk⟩
  simp only [go_sem, reduceIte, Nat.reduceBEq, Nat.reduceMul, reduceCtorEq, Nat.reduceAdd, Nat.reduceEqDiff, decide_eq_true_eq, decide_eq_false_iff_not, Bool.not_eq_true', Bool.not_eq_false', Bool.and_eq_true, Bool.or_eq_true, Bool.and_eq_false_iff, Bool.or_eq_false_iff, Bool.cond_true_left, Bool.cond_false_right, Bool.cond_true_right, Bool.cond_false_left, Bool.or_false, Bool.and_true, inR]
  refine ⟨fun h => ⟨by dsimp only [den, nId, nNodes, nTerm, nVote, nBase, nBT, nSnap, nLog, nRole, nLead, nCommit, nVotes, nNext, nMatch, nClock, mKind, mFrom, mTo, mTerm, mIndex, mAt, mYes, mCommit, mEntries, mSnap, eTerm, eCmd, mkN, mkM, mkE, last, inR, sm, lastT] at *; omega, by dsimp only [den, nId, nNodes, nTerm, nVote, nBase, nBT, nSnap, nLog, nRole, nLead, nCommit, nVotes, nNext, nMatch, nClock, mKind, mFrom, mTo, mTerm, mIndex, mAt, mYes, mCommit, mEntries, mSnap, eTerm, eCmd, mkN, mkM, mkE, last, inR, sm, lastT] at *; omega, by rfl, fun hd => eqB_ne fun e => ?_, fun hs => ⟨by dsimp only [den, nId, nNodes, nTerm, nVote, nBase, nBT, nSnap, nLog, nRole, nLead, nCommit, nVotes, nNext, nMatch, nClock, mKind, mFrom, mTo, mTerm, mIndex, mAt, mYes, mCommit, mEntries, mSnap, eTerm, eCmd, mkN, mkM, mkE, last, inR, sm, lastT] at *; omega, Again.intro (i + 1) (Ent_of [(2, 2), (3, 3)] rfl ?_ ?_) ⟨?_, upTo hk ?_⟩ ?_⟩⟩, fun h => ?_⟩
  · subst e; simp at hd
  · simp only [go_sem, reduceIte, Nat.reduceBEq, Nat.reduceMul, reduceCtorEq, Nat.reduceAdd, Nat.reduceEqDiff, decide_eq_true_eq, decide_eq_false_iff_not, Bool.not_eq_true', Bool.not_eq_false', Bool.and_eq_true, Bool.or_eq_true, Bool.and_eq_false_iff, Bool.or_eq_false_iff, Bool.cond_true_left, Bool.cond_false_right, Bool.cond_true_right, Bool.cond_false_left, Bool.or_false, Bool.and_true]
  · simp only [go_sem, reduceIte, Nat.reduceBEq, Nat.reduceMul, reduceCtorEq, Nat.reduceAdd, Nat.reduceEqDiff, decide_eq_true_eq, decide_eq_false_iff_not, Bool.not_eq_true', Bool.not_eq_false', Bool.and_eq_true, Bool.or_eq_true, Bool.and_eq_false_iff, Bool.or_eq_false_iff, Bool.cond_true_left, Bool.cond_false_right, Bool.cond_true_right, Bool.cond_false_left, Bool.or_false, Bool.and_true]
    omega
  · show i + 1 ≤ (nVotes a).length; dsimp only [den, nId, nNodes, nTerm, nVote, nBase, nBT, nSnap, nLog, nRole, nLead, nCommit, nVotes, nNext, nMatch, nClock, mKind, mFrom, mTo, mTerm, mIndex, mAt, mYes, mCommit, mEntries, mSnap, eTerm, eCmd, mkN, mkM, mkE, last, inR, sm, lastT] at *; omega
  · simpa using hs
  · show (nVotes a).length - (i + 1) < (nVotes a).length - i; dsimp only [den, nId, nNodes, nTerm, nVote, nBase, nBT, nSnap, nLog, nRole, nLead, nCommit, nVotes, nNext, nMatch, nClock, mKind, mFrom, mTo, mTerm, mIndex, mAt, mYes, mCommit, mEntries, mSnap, eTerm, eCmd, mkN, mkM, mkE, last, inR, sm, lastT] at *; omega
  have ev5 : nVotes a = nVotes b := list_eq_of_getD _ hl5 fun j hj => hk j (by dsimp only [den, nId, nNodes, nTerm, nVote, nBase, nBT, nSnap, nLog, nRole, nLead, nCommit, nVotes, nNext, nMatch, nClock, mKind, mFrom, mTo, mTerm, mIndex, mAt, mYes, mCommit, mEntries, mSnap, eTerm, eCmd, mkN, mkM, mkE, last, inR, sm, lastT] at *; omega)
  clear hk h hi
  refine loop_rule (β := Nat) (fun i => ⟨[(2, .ptr 2 0), (3, .ptr 3 0), (6, .int .i64 i)], [(2, .box (cellsA tNode a [])), (3, .box (cellsA tNode b []))]⟩) (fun i => i ≤ (nNext a).length ∧ ∀ j, j < i → (nNext a).getD j (dflt tI) = (nNext b).getD j (dflt tI)) (fun i => (nNext a).length - i) 0 ?_ ?_ ?_
  · refine Ent_of [(2, 2), (3, 3)] rfl ?_ ?_
    · simp only [go_sem, reduceIte, Nat.reduceBEq, Nat.reduceMul, reduceCtorEq, Nat.reduceAdd, Nat.reduceEqDiff, decide_eq_true_eq, decide_eq_false_iff_not, Bool.not_eq_true', Bool.not_eq_false', Bool.and_eq_true, Bool.or_eq_true, Bool.and_eq_false_iff, Bool.or_eq_false_iff, Bool.cond_true_left, Bool.cond_false_right, Bool.cond_true_right, Bool.cond_false_left, Bool.or_false, Bool.and_true]
    · simp only [go_sem, reduceIte, Nat.reduceBEq, Nat.reduceMul, reduceCtorEq, Nat.reduceAdd, Nat.reduceEqDiff, decide_eq_true_eq, decide_eq_false_iff_not, Bool.not_eq_true', Bool.not_eq_false', Bool.and_eq_true, Bool.or_eq_true, Bool.and_eq_false_iff, Bool.or_eq_false_iff, Bool.cond_true_left, Bool.cond_false_right, Bool.cond_true_right, Bool.cond_false_left, Bool.or_false, Bool.and_true]
      trivial
  · exact ⟨Nat.zero_le _, fun j hj => absurd hj (Nat.not_lt_zero j)⟩
  rintro i ⟨hi, hk⟩
  simp only [go_sem, reduceIte, Nat.reduceBEq, Nat.reduceMul, reduceCtorEq, Nat.reduceAdd, Nat.reduceEqDiff, decide_eq_true_eq, decide_eq_false_iff_not, Bool.not_eq_true', Bool.not_eq_false', Bool.and_eq_true, Bool.or_eq_true, Bool.and_eq_false_iff, Bool.or_eq_false_iff, Bool.cond_true_left, Bool.cond_false_right, Bool.cond_true_right, Bool.cond_false_left, Bool.or_false, Bool.and_true, inR]
  refine ⟨fun h => ⟨by dsimp only [den, nId, nNodes, nTerm, nVote, nBase, nBT, nSnap, nLog, nRole, nLead, nCommit, nVotes, nNext, nMatch, nClock, mKind, mFrom, mTo, mTerm, mIndex, mAt, mYes, mCommit, mEntries, mSnap, eTerm, eCmd, mkN, mkM, mkE, last, inR, sm, lastT] at *; omega, by dsimp only [den, nId, nNodes, nTerm, nVote, nBase, nBT, nSnap, nLog, nRole, nLead, nCommit, nVotes, nNext, nMatch, nClock, mKind, mFrom, mTo, mTerm, mIndex, mAt, mYes, mCommit, mEntries, mSnap, eTerm, eCmd, mkN, mkM, mkE, last, inR, sm, lastT] at *; omega, by rfl, fun hd => eqB_ne fun e => ?_, fun hs => ⟨by dsimp only [den, nId, nNodes, nTerm, nVote, nBase, nBT, nSnap, nLog, nRole, nLead, nCommit, nVotes, nNext, nMatch, nClock, mKind, mFrom, mTo, mTerm, mIndex, mAt, mYes, mCommit, mEntries, mSnap, eTerm, eCmd, mkN, mkM, mkE, last, inR, sm, lastT] at *; omega, Again.intro (i + 1) (Ent_of [(2, 2), (3, 3)] rfl ?_ ?_) ⟨?_, upTo hk ?_⟩ ?_⟩⟩, fun h => ?_⟩
  · subst e; simp at hd
  · simp only [go_sem, reduceIte, Nat.reduceBEq, Nat.reduceMul, reduceCtorEq, Nat.reduceAdd, Nat.reduceEqDiff, decide_eq_true_eq, decide_eq_false_iff_not, Bool.not_eq_true', Bool.not_eq_false', Bool.and_eq_true, Bool.or_eq_true, Bool.and_eq_false_iff, Bool.or_eq_false_iff, Bool.cond_true_left, Bool.cond_false_right, Bool.cond_true_right, Bool.cond_false_left, Bool.or_false, Bool.and_true]
  · simp only [go_sem, reduceIte, Nat.reduceBEq, Nat.reduceMul, reduceCtorEq, Nat.reduceAdd, Nat.reduceEqDiff, decide_eq_true_eq, decide_eq_false_iff_not, Bool.not_eq_true', Bool.not_eq_false', Bool.and_eq_true, Bool.or_eq_true, Bool.and_eq_false_iff, Bool.or_eq_false_iff, Bool.cond_true_left, Bool.cond_false_right, Bool.cond_true_right, Bool.cond_false_left, Bool.or_false, Bool.and_true]
    omega
  · show i + 1 ≤ (nNext a).length; dsimp only [den, nId, nNodes, nTerm, nVote, nBase, nBT, nSnap, nLog, nRole, nLead, nCommit, nVotes, nNext, nMatch, nClock, mKind, mFrom, mTo, mTerm, mIndex, mAt, mYes, mCommit, mEntries, mSnap, eTerm, eCmd, mkN, mkM, mkE, last, inR, sm, lastT] at *; omega
  · simpa using hs
  · show (nNext a).length - (i + 1) < (nNext a).length - i; dsimp only [den, nId, nNodes, nTerm, nVote, nBase, nBT, nSnap, nLog, nRole, nLead, nCommit, nVotes, nNext, nMatch, nClock, mKind, mFrom, mTo, mTerm, mIndex, mAt, mYes, mCommit, mEntries, mSnap, eTerm, eCmd, mkN, mkM, mkE, last, inR, sm, lastT] at *; omega
  have ev6 : nNext a = nNext b := list_eq_of_getD _ hl6 fun j hj => hk j (by dsimp only [den, nId, nNodes, nTerm, nVote, nBase, nBT, nSnap, nLog, nRole, nLead, nCommit, nVotes, nNext, nMatch, nClock, mKind, mFrom, mTo, mTerm, mIndex, mAt, mYes, mCommit, mEntries, mSnap, eTerm, eCmd, mkN, mkM, mkE, last, inR, sm, lastT] at *; omega)
  clear hk h hi
  refine loop_rule (β := Nat) (fun i => ⟨[(2, .ptr 2 0), (3, .ptr 3 0), (7, .int .i64 i)], [(2, .box (cellsA tNode a [])), (3, .box (cellsA tNode b []))]⟩) (fun i => i ≤ (nMatch a).length ∧ ∀ j, j < i → (nMatch a).getD j (dflt tI) = (nMatch b).getD j (dflt tI)) (fun i => (nMatch a).length - i) 0 ?_ ?_ ?_
  · refine Ent_of [(2, 2), (3, 3)] rfl ?_ ?_
    · simp only [go_sem, reduceIte, Nat.reduceBEq, Nat.reduceMul, reduceCtorEq, Nat.reduceAdd, Nat.reduceEqDiff, decide_eq_true_eq, decide_eq_false_iff_not, Bool.not_eq_true', Bool.not_eq_false', Bool.and_eq_true, Bool.or_eq_true, Bool.and_eq_false_iff, Bool.or_eq_false_iff, Bool.cond_true_left, Bool.cond_false_right, Bool.cond_true_right, Bool.cond_false_left, Bool.or_false, Bool.and_true]
    · simp only [go_sem, reduceIte, Nat.reduceBEq, Nat.reduceMul, reduceCtorEq, Nat.reduceAdd, Nat.reduceEqDiff, decide_eq_true_eq, decide_eq_false_iff_not, Bool.not_eq_true', Bool.not_eq_false', Bool.and_eq_true, Bool.or_eq_true, Bool.and_eq_false_iff, Bool.or_eq_false_iff, Bool.cond_true_left, Bool.cond_false_right, Bool.cond_true_right, Bool.cond_false_left, Bool.or_false, Bool.and_true]
      trivial
  · exact ⟨Nat.zero_le _, fun j hj => absurd hj (Nat.not_lt_zero j)⟩
  rintro i ⟨hi, hk⟩
  simp only [go_sem, reduceIte, Nat.reduceBEq, Nat.reduceMul, reduceCtorEq, Nat.reduceAdd, Nat.reduceEqDiff, decide_eq_true_eq, decide_eq_false_iff_not, Bool.not_eq_true', Bool.not_eq_false', Bool.and_eq_true, Bool.or_eq_true, Bool.and_eq_false_iff, Bool.or_eq_false_iff, Bool.cond_true_left, Bool.cond_false_right, Bool.cond_true_right, Bool.cond_false_left, Bool.or_false, Bool.and_true, inR]
  refine ⟨fun h => ⟨by dsimp only [den, nId, nNodes, nTerm, nVote, nBase, nBT, nSnap, nLog, nRole, nLead, nCommit, nVotes, nNext, nMatch, nClock, mKind, mFrom, mTo, mTerm, mIndex, mAt, mYes, mCommit, mEntries, mSnap, eTerm, eCmd, mkN, mkM, mkE, last, inR, sm, lastT] at *; omega, by dsimp only [den, nId, nNodes, nTerm, nVote, nBase, nBT, nSnap, nLog, nRole, nLead, nCommit, nVotes, nNext, nMatch, nClock, mKind, mFrom, mTo, mTerm, mIndex, mAt, mYes, mCommit, mEntries, mSnap, eTerm, eCmd, mkN, mkM, mkE, last, inR, sm, lastT] at *; omega, by rfl, fun hd => eqB_ne fun e => ?_, fun hs => ⟨by dsimp only [den, nId, nNodes, nTerm, nVote, nBase, nBT, nSnap, nLog, nRole, nLead, nCommit, nVotes, nNext, nMatch, nClock, mKind, mFrom, mTo, mTerm, mIndex, mAt, mYes, mCommit, mEntries, mSnap, eTerm, eCmd, mkN, mkM, mkE, last, inR, sm, lastT] at *; omega, Again.intro (i + 1) (Ent_of [(2, 2), (3, 3)] rfl ?_ ?_) ⟨?_, upTo hk ?_⟩ ?_⟩⟩, fun h => ?_⟩
  · subst e; simp at hd
  · simp only [go_sem, reduceIte, Nat.reduceBEq, Nat.reduceMul, reduceCtorEq, Nat.reduceAdd, Nat.reduceEqDiff, decide_eq_true_eq, decide_eq_false_iff_not, Bool.not_eq_true', Bool.not_eq_false', Bool.and_eq_true, Bool.or_eq_true, Bool.and_eq_false_iff, Bool.or_eq_false_iff, Bool.cond_true_left, Bool.cond_false_right, Bool.cond_true_right, Bool.cond_false_left, Bool.or_false, Bool.and_true]
  · simp only [go_sem, reduceIte, Nat.reduceBEq, Nat.reduceMul, reduceCtorEq, Nat.reduceAdd, Nat.reduceEqDiff, decide_eq_true_eq, decide_eq_false_iff_not, Bool.not_eq_true', Bool.not_eq_false', Bool.and_eq_true, Bool.or_eq_true, Bool.and_eq_false_iff, Bool.or_eq_false_iff, Bool.cond_true_left, Bool.cond_false_right, Bool.cond_true_right, Bool.cond_false_left, Bool.or_false, Bool.and_true]
    omega
  · show i + 1 ≤ (nMatch a).length; dsimp only [den, nId, nNodes, nTerm, nVote, nBase, nBT, nSnap, nLog, nRole, nLead, nCommit, nVotes, nNext, nMatch, nClock, mKind, mFrom, mTo, mTerm, mIndex, mAt, mYes, mCommit, mEntries, mSnap, eTerm, eCmd, mkN, mkM, mkE, last, inR, sm, lastT] at *; omega
  · simpa using hs
  · show (nMatch a).length - (i + 1) < (nMatch a).length - i; dsimp only [den, nId, nNodes, nTerm, nVote, nBase, nBT, nSnap, nLog, nRole, nLead, nCommit, nVotes, nNext, nMatch, nClock, mKind, mFrom, mTo, mTerm, mIndex, mAt, mYes, mCommit, mEntries, mSnap, eTerm, eCmd, mkN, mkM, mkE, last, inR, sm, lastT] at *; omega
  have ev7 : nMatch a = nMatch b := list_eq_of_getD _ hl7 fun j hj => hk j (by dsimp only [den, nId, nNodes, nTerm, nVote, nBase, nBT, nSnap, nLog, nRole, nLead, nCommit, nVotes, nNext, nMatch, nClock, mKind, mFrom, mTo, mTerm, mIndex, mAt, mYes, mCommit, mEntries, mSnap, eTerm, eCmd, mkN, mkM, mkE, last, inR, sm, lastT] at *; omega)
  clear hk h hi
  have h2 := h.1.1.1
  exact (eqB_iff.2 (node_ext (eqB_iff.1 h2.1.1.1.1.2) h2.1.1.1.1.1.1 h2.1.1.1.1.1.2 h2.1.1.1.2 h2.1.1.2 h2.1.2 ev5 ev6 ev7 h2.2)).symm
theorem start1_nodes (n : Node) : nNodes (start1 n) = nNodes n := by unfold start1 own; split <;> rfl
theorem start1_next (n : Node) : nNext (start1 n) = nNext n := by unfold start1 own; split <;> rfl
theorem start1_match (n : Node) : nMatch (start1 n) = nMatch n := by unfold start1 own; split <;> rfl
theorem start1_log (n : Node) : nLog (start1 n) = nLog n := by unfold start1 own; split <;> rfl
def voteDownFn : Fn := { a := .pair tI (.pair tI (.pair tI .unit)), r := .pair .bool .unit, pre := fun x => InR .i64 x.1 ∧ InR .i64 x.2.1 ∧ InR .i64 x.2.2.1, f := fun _ => (true, ()) }
theorem h5  : Holds Try.prog 5 (voteDownFn) := by
  refine Holds.of_vc (T := [(23, fn23), (31, fn31), (27, fn27), (32, fn32), (33, fn33), (26, fn26)]) (TT := ttL) (rowAt := []) (c := c5) (ros := [.t 6]) (.cons _ h23 (.cons _ h31 (.cons _ h27 (.cons _ h32 (.cons _ h33 (.cons _ h26 (.nil _))))))) mixed Try.func5 (by decide +kernel) (by rfl) comp5 (by kernel_rfl) rfl rfl (fun h => by cases h) ?_
  rintro ⟨(a : Int), (b : Int), (nodes : Int), _⟩ hpre
  simp only [voteDownFn] at hpre ⊢
  simp only [c5, fn23, fn31, fn27, fn32, fn33, fn26, go_sem, reduceIte, Nat.reduceBEq, Nat.reduceMul, reduceCtorEq, Nat.reduceAdd, Nat.reduceEqDiff, decide_eq_true_eq, decide_eq_false_iff_not, Bool.not_eq_true', Bool.not_eq_false', Bool.and_eq_true, Bool.or_eq_true, Bool.and_eq_false_iff, Bool.or_eq_false_iff, Bool.cond_true_left, Bool.cond_false_right, Bool.cond_true_right, Bool.cond_false_left, Bool.or_false, Bool.and_true, inR]
  have s0 := start1_nodes (newN 1 (2 + nodes % 4))
  have s1 := start1_vlen (newN 1 (2 + nodes % 4)) (show 1 ≤ min (max (2 + nodes % 4) 1) 5 by omega) (show min (max (2 + nodes % 4) 1) 5 ≤ 5 by omega)
  have s2 : nNodes (newN 1 (2 + nodes % 4)) = min (max (2 + nodes % 4) 1) 5 := rfl
  have s3 : nNext (start1 (newN 1 (2 + nodes % 4))) = nNext (newN 1 (2 + nodes % 4)) := start1_next _
  have s4 : nMatch (start1 (newN 1 (2 + nodes % 4))) = nMatch (newN 1 (2 + nodes % 4)) := start1_match _
  have s5 : nLog (start1 (newN 1 (2 + nodes % 4))) = nLog (newN 1 (2 + nodes % 4)) := start1_log _
  generalize hx : 1 + a % 1000 = x
  generalize hy : b % 1100 = y
  have n1 : nBase (newN 1 (2 + nodes % 4)) = 0 := rfl
  have n2 : last (newN 1 (2 + nodes % 4)) = 0 := rfl
  have n3 : nTerm (newN 1 (2 + nodes % 4)) = 0 := rfl
  have n4 : (nNext (newN 1 (2 + nodes % 4))).length = (min (max (2 + nodes % 4) 1) 5).toNat := List.length_replicate ..
  have n5 : (nMatch (newN 1 (2 + nodes % 4))).length = (min (max (2 + nodes % 4) 1) 5).toNat := List.length_replicate ..
  have n6 : (nLog (newN 1 (2 + nodes % 4))).length = 0 := rfl
  rw [← s3] at n4
  rw [← s4] at n5
  rw [← s5] at n6
  rw [s2] at s0 s1
  simp only [n1, n2, n3]
  clear s2 s3 s4 s5 n1 n2 n3
  generalize start1 (newN 1 (2 + nodes % 4)) = s at *
  generalize hcc : (pr (a := tI) s.1 (pr (a := tI) s.2.1 (pr (a := tI) x (pr (a := tI) s.2.2.2.1 (pr (a := tI) s.2.2.2.2.1 (pr (a := tI) s.2.2.2.2.2.1 (pr (a := .str) s.2.2.2.2.2.2.1 (pr (a := .list tEntry) s.2.2.2.2.2.2.2.1 (pr (a := tI) s.2.2.2.2.2.2.2.2.1 (pr (a := tI) s.2.2.2.2.2.2.2.2.2.1 (pr (a := tI) s.2.2.2.2.2.2.2.2.2.2.1 (pr (a := .list .bool) s.2.2.2.2.2.2.2.2.2.2.2.1 (pr (a := .list tI) s.2.2.2.2.2.2.2.2.2.2.2.2.1 (pr (a := .list tI) s.2.2.2.2.2.2.2.2.2.2.2.2.2.1 (pr (a := tI) (b := .unit) 7 ()))))))))))))))) = c
  have c1 : nTerm c = x := by rw [← hcc]; rfl
  have c2 : (nNext c).length = (min (max (2 + nodes % 4) 1) 5).toNat := by rw [← hcc]; exact n4
  have c3 : (nMatch c).length = (min (max (2 + nodes % 4) 1) 5).toNat := by rw [← hcc]; exact n5
  have c4 : (nLog c).length = 0 := by rw [← hcc]; exact n6
  have c5 : (nVotes c).length = (min (max (2 + nodes % 4) 1) 5).toNat := by rw [← hcc]; exact s1
  have c6 : nNodes c = min (max (2 + nodes % 4) 1) 5 := by rw [← hcc]; exact s0
  have c7 : nClock c = 7 := by rw [← hcc]; rfl
  clear hcc n4 n5 n6 s0 s1
  refine ⟨by decide, by omega, by decide, by omega, by decide, by omega, fun h => ⟨⟨?_, ?_, ?_, ?_⟩, ?_⟩, fun h => ?_⟩
  · rw [sm]; omega
  · rw [sm]; omega
  · rw [sm]; omega
  · rw [sm]; omega
  · have : down c y = c := down_same (by omega)
    rw [this]
    exact eqB_self c
  have hd : down c y = mkN (nId c) (nNodes c) y (-1) (nBase c) (nBT c) (nSnap c) (nLog c) 0 (-1) (nCommit c) (votes c) (nNext c) (nMatch c) (nClock c) := by
    unfold down; exact if_pos (by omega)
  have hv : (votes c).length = (2 + nodes % 4).toNat := by rw [votes_len]; omega
  simp only [hd]
  refine ⟨fun h2 => h2 (by omega), fun h2 => ?_⟩
  refine loop_rule (β := Nat) (fun i => ⟨[(7, .int .i64 (2 + nodes % 4)), (9, .int .i64 y), (12, .ptr 12 0), (13, .int .i64 i)], [(12, .box (cellsA tNode (mkN (nId c) (nNodes c) y (-1) (nBase c) (nBT c) (nSnap c) (nLog c) 0 (-1) (nCommit c) (votes c) (nNext c) (nMatch c) (nClock c)) []))]⟩) (fun i => i ≤ (votes c).length) (fun i => (votes c).length - i) 0 ?_ ?_ ?_
  · refine Ent_of [(12, 12)] rfl ?_ ?_
    · simp only [go_sem, reduceIte, Nat.reduceBEq, Nat.reduceMul, reduceCtorEq, Nat.reduceAdd, Nat.reduceEqDiff, decide_eq_true_eq, decide_eq_false_iff_not, Bool.not_eq_true', Bool.not_eq_false', Bool.and_eq_true, Bool.or_eq_true, Bool.and_eq_false_iff, Bool.or_eq_false_iff, Bool.cond_true_left, Bool.cond_false_right, Bool.cond_true_right, Bool.cond_false_left, Bool.or_false, Bool.and_true]
    · simp only [go_sem, reduceIte, Nat.reduceBEq, Nat.reduceMul, reduceCtorEq, Nat.reduceAdd, Nat.reduceEqDiff, decide_eq_true_eq, decide_eq_false_iff_not, Bool.not_eq_true', Bool.not_eq_false', Bool.and_eq_true, Bool.or_eq_true, Bool.and_eq_false_iff, Bool.or_eq_false_iff, Bool.cond_true_left, Bool.cond_false_right, Bool.cond_true_right, Bool.cond_false_left, Bool.or_false, Bool.and_true]
      trivial
  · exact Nat.zero_le _
  intro i hi
  have hf : (votes c).getD i (dflt .bool) = false := by
    unfold votes
    rw [List.getD_eq_getElem?_getD, List.getElem?_replicate]
    split <;> rfl
  simp only [go_sem, reduceIte, Nat.reduceBEq, Nat.reduceMul, reduceCtorEq, Nat.reduceAdd, Nat.reduceEqDiff, decide_eq_true_eq, decide_eq_false_iff_not, Bool.not_eq_true', Bool.not_eq_false', Bool.and_eq_true, Bool.or_eq_true, Bool.and_eq_false_iff, Bool.or_eq_false_iff, Bool.cond_true_left, Bool.cond_false_right, Bool.cond_true_right, Bool.cond_false_left, Bool.or_false, Bool.and_true, inR, hf]
  refine ⟨fun h3 => ⟨by omega, by omega, Again.intro (i + 1) (Ent_of [(12, 12)] rfl ?_ ?_) ?_ ?_⟩, fun h3 => ?_⟩
  · simp only [go_sem, reduceIte, Nat.reduceBEq, Nat.reduceMul, reduceCtorEq, Nat.reduceAdd, Nat.reduceEqDiff, decide_eq_true_eq, decide_eq_false_iff_not, Bool.not_eq_true', Bool.not_eq_false', Bool.and_eq_true, Bool.or_eq_true, Bool.and_eq_false_iff, Bool.or_eq_false_iff, Bool.cond_true_left, Bool.cond_false_right, Bool.cond_true_right, Bool.cond_false_left, Bool.or_false, Bool.and_true]
  · simp only [go_sem, reduceIte, Nat.reduceBEq, Nat.reduceMul, reduceCtorEq, Nat.reduceAdd, Nat.reduceEqDiff, decide_eq_true_eq, decide_eq_false_iff_not, Bool.not_eq_true', Bool.not_eq_false', Bool.and_eq_true, Bool.or_eq_true, Bool.and_eq_false_iff, Bool.or_eq_false_iff, Bool.cond_true_left, Bool.cond_false_right, Bool.cond_true_right, Bool.cond_false_left, Bool.or_false, Bool.and_true]
    omega
  · show i + 1 ≤ (votes c).length; omega
  · show (votes c).length - (i + 1) < (votes c).length - i; omega
  · exact c7
end Go.AM
