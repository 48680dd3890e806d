import Derived.Test.YtbcbgfkojmligaaHF
import Derived.Test.YtbcbgfkojmligaaTG
/- What functions of the program answer, each under the conditions that its contract names. -/
set_option linter.unusedVariables false
set_option linter.unusedSimpArgs false
set_option maxRecDepth 100000
set_option maxHeartbeats 4000000
set_option linter.unusedSimpArgs false
namespace Go.AM
open Go.Proofs
attribute [local congr] vc_congr evOps_congr evTab_congr bind_congr condK_congr tabK_congr
def fn43 : Fn := { a := .pair tNode (.pair tI .unit), r := .pair tNode .unit, pre := fun x => 0 ≤ nNodes x.1 ∧ nNodes x.1 ≤ 5, f := fun x => (down x.1 x.2.1, ()) }
theorem h43  : Holds Try.prog 43 (fn43) := by
  refine Holds.of_vc (T := []) (TT := ttL) (rowAt := []) (c := c43) (ros := [.c 4 15]) (.nil _) mixed Try.func43 (by decide +kernel) (by rfl) comp43 (by kernel_rfl) rfl rfl (fun h => by cases h) ?_
  rintro ⟨(n : Node), (t : Int), _⟩ hpre
  simp only [fn43] at hpre ⊢
  simp only [c43, go_sem, reduceIte, Nat.reduceBEq, Nat.reduceMul, reduceCtorEq, Nat.reduceAdd, Nat.reduceEqDiff, decide_eq_true_eq, decide_eq_false_iff_not, Bool.not_eq_true', Bool.not_eq_false', Bool.and_eq_true, Bool.or_eq_true, Bool.and_eq_false_iff, Bool.or_eq_false_iff, Bool.cond_true_left, Bool.cond_false_right, Bool.cond_true_right, Bool.cond_false_left, Bool.or_false, Bool.and_true, inR]
  have hv : votes n = List.replicate (nNodes n).toNat false := by
    unfold votes
    rw [show (max 0 (min (nNodes n) 5)).toNat = (nNodes n).toNat by dsimp only [den, nId, nNodes, nTerm, nVote, nBase, nBT, nSnap, nLog, nRole, nLead, nCommit, nVotes, nNext, nMatch, nClock, mKind, mFrom, mTo, mTerm, mIndex, mAt, mYes, mCommit, mEntries, mSnap, eTerm, eCmd, mkN, mkM, mkE, last, inR, sm, lastT] at *; omega]
  dsimp only [den, nId, nNodes, nTerm, nVote, nBase, nBT, nSnap, nLog, nRole, nLead, nCommit, nVotes, nNext, nMatch, nClock, mKind, mFrom, mTo, mTerm, mIndex, mAt, mYes, mCommit, mEntries, mSnap, eTerm, eCmd, mkN, mkM, mkE, last, inR, sm, lastT] at *
  refine ⟨fun h => (if_neg (by dsimp only [den, nId, nNodes, nTerm, nVote, nBase, nBT, nSnap, nLog, nRole, nLead, nCommit, nVotes, nNext, nMatch, nClock, mKind, mFrom, mTo, mTerm, mIndex, mAt, mYes, mCommit, mEntries, mSnap, eTerm, eCmd, mkN, mkM, mkE, last, inR, sm, lastT] at *; omega)).symm, fun h => ⟨by omega, ?_⟩⟩
  refine Eq.trans ?_ (if_pos (by dsimp only [den, nId, nNodes, nTerm, nVote, nBase, nBT, nSnap, nLog, nRole, nLead, nCommit, nVotes, nNext, nMatch, nClock, mKind, mFrom, mTo, mTerm, mIndex, mAt, mYes, mCommit, mEntries, mSnap, eTerm, eCmd, mkN, mkM, mkE, last, inR, sm, lastT] at *; omega)).symm
  rw [hv]
  rfl
def fn94 : Fn := { a := .pair tNode .unit, r := .pair tI .unit, pre := fun x => InR .i64 (last x.1) ∧ 0 ≤ nBase x.1, f := fun x => (termV x.1 (last x.1), ()) }
theorem h94  : Holds Try.prog 94 (fn94) := by
  refine Holds.of_vc (T := [(30, fn30), (29, fn29)]) (TT := ttL) (rowAt := []) (c := c94) (ros := [.t 2]) (.cons _ h30 (.cons _ h29 (.nil _))) mixed Try.func94 (by decide +kernel) (by rfl) comp94 (by kernel_rfl) rfl rfl (fun h => by cases h) ?_
  rintro ⟨(n : Node), _⟩ hpre
  simp only [fn94] at hpre ⊢
  simp only [c94, fn30, fn29, go_sem, reduceIte, Nat.reduceBEq, Nat.reduceMul, reduceCtorEq, Nat.reduceAdd, Nat.reduceEqDiff, decide_eq_true_eq, decide_eq_false_iff_not, Bool.not_eq_true', Bool.not_eq_false', Bool.and_eq_true, Bool.or_eq_true, Bool.and_eq_false_iff, Bool.or_eq_false_iff, Bool.cond_true_left, Bool.cond_false_right, Bool.cond_true_right, Bool.cond_false_left, Bool.or_false, Bool.and_true, inR, fn48]
  dsimp only [den, nId, nNodes, nTerm, nVote, nBase, nBT, nSnap, nLog, nRole, nLead, nCommit, nVotes, nNext, nMatch, nClock, mKind, mFrom, mTo, mTerm, mIndex, mAt, mYes, mCommit, mEntries, mSnap, eTerm, eCmd, mkN, mkM, mkE, last, inR, sm, lastT] at *
  exact ⟨by omega, by omega, by rfl⟩
def fn39 : Fn := { a := .pair tNode (.pair tMsg .unit), r := .pair tNode (.pair (.list tMsg) .unit), pre := fun x => InR .i64 (last x.1) ∧ 0 ≤ nBase x.1 ∧ 0 ≤ nNodes x.1 ∧ nNodes x.1 ≤ 5, f := fun x => (asked1 x.1 x.2.1, asked2 x.1 x.2.1, ()) }
theorem h39  : Holds Try.prog 39 (fn39) := by
  refine Holds.of_vc (T := [(43, fn43), (94, fn94), (30, fn30)]) (TT := ttL) (rowAt := []) (c := c39) (ros := [.c 4 15, .t 5]) (.cons _ h43 (.cons _ h94 (.cons _ h30 (.nil _)))) mixed Try.func39 (by decide +kernel) (by rfl) comp39 (by kernel_rfl) rfl rfl (fun h => by cases h) ?_
  rintro ⟨(n : Node), (m : Msg), _⟩ hpre
  simp only [fn39] at hpre ⊢
  simp only [c39, fn43, fn94, fn30, go_sem, reduceIte, Nat.reduceBEq, Nat.reduceMul, reduceCtorEq, Nat.reduceAdd, Nat.reduceEqDiff, decide_eq_true_eq, decide_eq_false_iff_not, Bool.not_eq_true', Bool.not_eq_false', Bool.and_eq_true, Bool.or_eq_true, Bool.and_eq_false_iff, Bool.or_eq_false_iff, Bool.cond_true_left, Bool.cond_false_right, Bool.cond_true_right, Bool.cond_false_left, Bool.or_false, Bool.and_true, inR]
  simp only [asked1, asked2]
  have hb := base_down n m.2.2.2.1
  have hl := last_down n m.2.2.2.1
  have hn := down_nodes n m.2.2.2.1
  generalize hd : down n m.2.2.2.1 = d at *
  rw [← hl, ← hb] at hpre
  simp only [asked1', asked2', askB]
  clear hl hb
  dsimp only [den, nId, nNodes, nTerm, nVote, nBase, nBT, nSnap, nLog, nRole, nLead, nCommit, nVotes, nNext, nMatch, nClock, mKind, mFrom, mTo, mTerm, mIndex, mAt, mYes, mCommit, mEntries, mSnap, eTerm, eCmd, mkN, mkM, mkE, last, inR, sm, lastT] at *
  have hn' : d.2.1 = n.2.1 := hn
  repeat' (first | apply And.intro | intro _)
  all_goals (first | omega | rfl | skip)
  · exact (if_pos (by simp only [Bool.and_eq_true, Bool.or_eq_true, decide_eq_true_eq, decide_eq_false_iff_not, Bool.and_eq_false_iff, Bool.or_eq_false_iff, Bool.not_eq_true', Bool.not_eq_false']; omega)).symm
  · exact (if_neg (by simp only [Bool.and_eq_true, Bool.or_eq_true, decide_eq_true_eq, decide_eq_false_iff_not, Bool.and_eq_false_iff, Bool.or_eq_false_iff, Bool.not_eq_true', Bool.not_eq_false']; omega)).symm
noncomputable def fn69 : Fn := { a := .pair tMsg (.pair tMsg .unit), r := .pair .bool .unit, pre := fun x => smallL (mEntries x.1), f := fun x => (eqB x.1 x.2.1, ()) }
theorem h69  : Holds Try.prog 69 (fn69) := by
  refine Holds.of_vc (T := [(37, fn37)]) (TT := ttL) (rowAt := []) (c := c69) (ros := [.t 4]) (.cons _ h37 (.nil _)) mixed Try.func69 (by decide +kernel) (by rfl) comp69 (by kernel_rfl) rfl rfl (fun h => by cases h) ?_
  rintro ⟨(a : Msg), (b : Msg), _⟩ hpre
  simp only [fn69] at hpre ⊢
  simp (maxSteps := 10000000) only [c69, fn37, go_sem, reduceIte, Nat.reduceBEq, Nat.reduceMul, reduceCtorEq, Nat.reduceAdd, Nat.reduceEqDiff, decide_eq_true_eq, decide_eq_false_iff_not, Bool.not_eq_true', Bool.not_eq_false', Bool.and_eq_true, Bool.or_eq_true, Bool.and_eq_false_iff, Bool.or_eq_false_iff, Bool.cond_true_left, Bool.cond_false_right, Bool.cond_true_right, Bool.cond_false_left, Bool.or_false, Bool.and_true, inR, str_eq]
  refine ⟨fun _ => hpre, eqB_of ?_⟩
  simp only [Bool.and_eq_true, decide_eq_true_eq, eqB_iff, beq_iff_eq]
  obtain ⟨a1, a2, a3, a4, a5, a6, a7, a8, a9, a10, _⟩ := a
  obtain ⟨b1, b2, b3, b4, b5, b6, b7, b8, b9, b10, _⟩ := b
  constructor
  · rintro ⟨⟨⟨⟨⟨⟨⟨⟨⟨h1, h2⟩, h3⟩, h4⟩, h5⟩, h6⟩, h7⟩, h8⟩, h9⟩, h10⟩
    simp only at h1 h2 h3 h4 h5 h6 h7 h8 h9 h10
    rw [h1, h2, h3, h4, h5, h6, h7, h8, h9, h10]
  · intro h
    cases h
    exact ⟨⟨⟨⟨⟨⟨⟨⟨⟨rfl, rfl⟩, rfl⟩, rfl⟩, rfl⟩, rfl⟩, rfl⟩, rfl⟩, rfl⟩, rfl⟩
end Go.AM

set_option maxRecDepth 100000
set_option maxHeartbeats 4000000
set_option linter.unusedSimpArgs false
namespace Go.AM
open Go.Proofs
attribute [local congr] vc_congr evOps_congr evTab_congr bind_congr condK_congr tabK_congr
def fn38 : Fn := { a := .pair tNode .unit, r := .pair tNode (.pair (.olist tMsg) .unit), pre := fun x => 0 ≤ nBase x.1 ∧ last x.1 ≤ 4398046511104 ∧ -5 ≤ nTerm x.1 ∧ nTerm x.1 ≤ 4398046511104 ∧ 0 ≤ nId x.1 ∧ nId x.1 < nNodes x.1 ∧ nNodes x.1 ≤ 5, f := fun x => (start1 x.1, start2 x.1, ()) }
theorem h38  : Holds Try.prog 38 (fn38) := by
  refine Holds.of_vc (T := [(30, fn30), (94, fn94)]) (TT := ttL) (rowAt := []) (c := c38) (ros := [.c 2 15, .t 3]) (.cons _ h30 (.cons _ h94 (.nil _))) mixed Try.func38 (by decide +kernel) (by rfl) comp38 (by kernel_rfl) rfl rfl (fun h => by cases h) ?_
  rintro ⟨(n : Node), _⟩ hpre
  simp only [fn38] at hpre ⊢
  simp only [c38, fn30, fn94, go_sem, reduceIte, Nat.reduceBEq, Nat.reduceMul, reduceCtorEq, Nat.reduceAdd, Nat.reduceEqDiff, decide_eq_true_eq, decide_eq_false_iff_not, Bool.not_eq_true', Bool.not_eq_false', Bool.and_eq_true, Bool.or_eq_true, Bool.and_eq_false_iff, Bool.or_eq_false_iff, Bool.cond_true_left, Bool.cond_false_right, Bool.cond_true_right, Bool.cond_false_left, Bool.or_false, Bool.and_true, inR]
  have hs : start1 n = mkN (nId n) (nNodes n) (nTerm n + 1) (nId n) (nBase n) (nBT n) (nSnap n) (nLog n) 1 (-1) (nCommit n) ((List.replicate (nNodes n).toNat false).set (nId n).toNat true) (nNext n) (nMatch n) 0 := by
    have hv : votes (start0 n) = List.replicate (nNodes n).toNat false := by
      show List.replicate (max 0 (min (nNodes n) 5)).toNat false = _
      rw [show (max 0 (min (nNodes n) 5)).toNat = (nNodes n).toNat by dsimp only [den, nId, nNodes, nTerm, nVote, nBase, nBT, nSnap, nLog, nRole, nLead, nCommit, nVotes, nNext, nMatch, nClock, mKind, mFrom, mTo, mTerm, mIndex, mAt, mYes, mCommit, mEntries, mSnap, eTerm, eCmd, mkN, mkM, mkE, last, inR, sm, lastT] at *; omega]
    unfold start1 own
    rw [hv]
    refine (if_pos ?_).trans rfl
    rw [List.length_replicate]
    show 0 ≤ nId n ∧ nId n < _
    dsimp only [den, nId, nNodes, nTerm, nVote, nBase, nBT, nSnap, nLog, nRole, nLead, nCommit, nVotes, nNext, nMatch, nClock, mKind, mFrom, mTo, mTerm, mIndex, mAt, mYes, mCommit, mEntries, mSnap, eTerm, eCmd, mkN, mkM, mkE, last, inR, sm, lastT] at *
    omega
  simp only [start2]
  have h1 : last (start1 n) = last n := start1_last n
  have h2 : nBase (start1 n) = nBase n := start1_base n
  have h3 : (nVotes (start1 n)).length = (nNodes n).toNat := by rw [hs]; show ((List.replicate _ _).set _ _).length = _; rw [List.length_set, List.length_replicate]
  have h4 : nNodes (start1 n) = nNodes n := by rw [hs]
  generalize start1 n = s at *
  refine ⟨by dsimp only [den, nId, nNodes, nTerm, nVote, nBase, nBT, nSnap, nLog, nRole, nLead, nCommit, nVotes, nNext, nMatch, nClock, mKind, mFrom, mTo, mTerm, mIndex, mAt, mYes, mCommit, mEntries, mSnap, eTerm, eCmd, mkN, mkM, mkE, last, inR, sm, lastT] at *; omega, by dsimp only [den, nId, nNodes, nTerm, nVote, nBase, nBT, nSnap, nLog, nRole, nLead, nCommit, nVotes, nNext, nMatch, nClock, mKind, mFrom, mTo, mTerm, mIndex, mAt, mYes, mCommit, mEntries, mSnap, eTerm, eCmd, mkN, mkM, mkE, last, inR, sm, lastT] at *; omega, by dsimp only [den, nId, nNodes, nTerm, nVote, nBase, nBT, nSnap, nLog, nRole, nLead, nCommit, nVotes, nNext, nMatch, nClock, mKind, mFrom, mTo, mTerm, mIndex, mAt, mYes, mCommit, mEntries, mSnap, eTerm, eCmd, mkN, mkM, mkE, last, inR, sm, lastT] at *; omega, ?_⟩
  refine loop_rule (β := Nat) (fun i => ⟨[(1, .ptr 1 0), (2, .ptr 2 0), (4, .own 47 0 (startMsgs s i).length), (5, .int .i64 i)], [(1, .box (cellsA tNode s [])), (2, .box zN), (47, .row tMsg (startMsgs s i) false)]⟩)
    (fun i => i ≤ (nVotes s).length) (fun i => (nVotes s).length - i) 0 ?_ ?_ ?_
  · refine Ent_fz [18] [(1, 1), (2, 2)] rfl ?_ ?_
    · subst hs
      simp only [go_sem, reduceIte, Nat.reduceBEq, Nat.reduceMul, reduceCtorEq, Nat.reduceAdd, Nat.reduceEqDiff, decide_eq_true_eq, decide_eq_false_iff_not, Bool.not_eq_true', Bool.not_eq_false', Bool.and_eq_true, Bool.or_eq_true, Bool.and_eq_false_iff, Bool.or_eq_false_iff, Bool.cond_true_left, Bool.cond_false_right, Bool.cond_true_right, Bool.cond_false_left, Bool.or_false, Bool.and_true]
      exact ⟨List.take_of_length_le (by rw [List.length_set, List.length_replicate]; exact Nat.le_refl _), rfl, by decide⟩
    · simp only [go_sem, reduceIte, Nat.reduceBEq, Nat.reduceMul, reduceCtorEq, Nat.reduceAdd, Nat.reduceEqDiff, decide_eq_true_eq, decide_eq_false_iff_not, Bool.not_eq_true', Bool.not_eq_false', Bool.and_eq_true, Bool.or_eq_true, Bool.and_eq_false_iff, Bool.or_eq_false_iff, Bool.cond_true_left, Bool.cond_false_right, Bool.cond_true_right, Bool.cond_false_left, Bool.or_false, Bool.and_true]
      exact ⟨rfl, rfl⟩
  · exact Nat.zero_le _
  intro i hi
  have hl := startMsgs_len s i
  simp only [go_sem, reduceIte, Nat.reduceBEq, Nat.reduceMul, reduceCtorEq, Nat.reduceAdd, Nat.reduceEqDiff, decide_eq_true_eq, decide_eq_false_iff_not, Bool.not_eq_true', Bool.not_eq_false', Bool.and_eq_true, Bool.or_eq_true, Bool.and_eq_false_iff, Bool.or_eq_false_iff, Bool.cond_true_left, Bool.cond_false_right, Bool.cond_true_right, Bool.cond_false_left, Bool.or_false, Bool.and_true, inR]
  have h4' : nNodes n = s.2.1 := h4.symm
  have hp : (0 ≤ nBase n ∧ last n ≤ 4398046511104) := ⟨hpre.1, hpre.2.1⟩
  have hp5 : nNodes n ≤ 5 := hpre.2.2.2.2.2.2
  have hlr : -9223372036854775808 ≤ last s ∧ last s ≤ 9223372036854775807 := by
    rw [h1]
    have : last n = nBase n + (nLog n).length := rfl
    omega
  have hb0 : 0 ≤ nBase s := by rw [h2]; exact hp.1
  refine ⟨fun h => ⟨fun hne => ⟨hlr, ⟨hlr, hb0⟩, by omega, by rfl, by omega, Again.intro (i + 1) (Ent_of [(1, 1), (2, 2), (47, 47)] rfl ?_ ?_) ?_ ?_⟩, fun he => ⟨by omega, Again.intro (i + 1) (Ent_of [(1, 1), (2, 2), (47, 47)] rfl ?_ ?_) ?_ ?_⟩⟩, fun h => ?_⟩
  · simp only [go_sem, reduceIte, Nat.reduceBEq, Nat.reduceMul, reduceCtorEq, Nat.reduceAdd, Nat.reduceEqDiff, decide_eq_true_eq, decide_eq_false_iff_not, Bool.not_eq_true', Bool.not_eq_false', Bool.and_eq_true, Bool.or_eq_true, Bool.and_eq_false_iff, Bool.or_eq_false_iff, Bool.cond_true_left, Bool.cond_false_right, Bool.cond_true_right, Bool.cond_false_left, Bool.or_false, Bool.and_true]
    exact startMsgs_yes s i hne
  · simp only [go_sem, reduceIte, Nat.reduceBEq, Nat.reduceMul, reduceCtorEq, Nat.reduceAdd, Nat.reduceEqDiff, decide_eq_true_eq, decide_eq_false_iff_not, Bool.not_eq_true', Bool.not_eq_false', Bool.and_eq_true, Bool.or_eq_true, Bool.and_eq_false_iff, Bool.or_eq_false_iff, Bool.cond_true_left, Bool.cond_false_right, Bool.cond_true_right, Bool.cond_false_left, Bool.or_false, Bool.and_true]
    rw [startMsgs_yes s i hne, List.length_append]
    exact ⟨rfl, by omega⟩
  · show i + 1 ≤ (nVotes s).length; omega
  · show (nVotes s).length - (i + 1) < (nVotes s).length - i; omega
  · simp only [go_sem, reduceIte, Nat.reduceBEq, Nat.reduceMul, reduceCtorEq, Nat.reduceAdd, Nat.reduceEqDiff, decide_eq_true_eq, decide_eq_false_iff_not, Bool.not_eq_true', Bool.not_eq_false', Bool.and_eq_true, Bool.or_eq_true, Bool.and_eq_false_iff, Bool.or_eq_false_iff, Bool.cond_true_left, Bool.cond_false_right, Bool.cond_true_right, Bool.cond_false_left, Bool.or_false, Bool.and_true]
    exact startMsgs_no s i he
  · simp only [go_sem, reduceIte, Nat.reduceBEq, Nat.reduceMul, reduceCtorEq, Nat.reduceAdd, Nat.reduceEqDiff, decide_eq_true_eq, decide_eq_false_iff_not, Bool.not_eq_true', Bool.not_eq_false', Bool.and_eq_true, Bool.or_eq_true, Bool.and_eq_false_iff, Bool.or_eq_false_iff, Bool.cond_true_left, Bool.cond_false_right, Bool.cond_true_right, Bool.cond_false_left, Bool.or_false, Bool.and_true]
    rw [startMsgs_no s i he]
    exact ⟨rfl, by omega⟩
  · show i + 1 ≤ (nVotes s).length; omega
  · show (nVotes s).length - (i + 1) < (nVotes s).length - i; omega
  · have : i = (nVotes s).length := by omega
    subst this
    rfl
noncomputable def fn42 : Fn := { a := .pair (.list tMsg) (.pair (.list tMsg) .unit), r := .pair .bool .unit, pre := fun x => smallL x.1 ∧ ∀ m ∈ x.1, smallL (mEntries m), f := fun x => (eqB x.1 x.2.1, ()) }
theorem h42  : Holds Try.prog 42 (fn42) := by
  refine Holds.of_vc (T := [(69, fn69)]) (TT := ttL) (rowAt := []) (c := c42) (ros := [.t 4]) (.cons _ h69 (.nil _)) mixed Try.func42 (by decide +kernel) (by rfl) comp42 (by kernel_rfl) rfl rfl (fun h => by cases h) ?_
  rintro ⟨(a : List Msg), (b : List Msg), _⟩ hpre
  simp only [fn42] at hpre ⊢
  simp only [c42, fn69, go_sem, reduceIte, Nat.reduceBEq, Nat.reduceMul, reduceCtorEq, Nat.reduceAdd, Nat.reduceEqDiff, decide_eq_true_eq, decide_eq_false_iff_not, Bool.not_eq_true', Bool.not_eq_false', Bool.and_eq_true, Bool.or_eq_true, Bool.and_eq_false_iff, Bool.or_eq_false_iff, Bool.cond_true_left, Bool.cond_false_right, Bool.cond_true_right, Bool.cond_false_left, Bool.or_false, Bool.and_true, inR]
  refine ⟨fun h => eqB_ne fun e => h (by rw [e]), fun hl => ?_⟩
  have hl' : a.length = b.length := by omega
  refine loop_rule (β := Nat) (fun i => ⟨[(0, .sl tMsg a false), (1, .sl tMsg b false), (5, .int .i64 i)], []⟩) (fun i => i ≤ a.length ∧ ∀ j, j < i → a.getD j (dflt tMsg) = b.getD j (dflt tMsg)) (fun i => a.length - i) 0 ?_ ?_ ?_
  · refine Ent_of [] rfl ?_ ?_
    · simp only [go_sem, reduceIte, Nat.reduceBEq, Nat.reduceMul, reduceCtorEq, Nat.reduceAdd, Nat.reduceEqDiff, decide_eq_true_eq, decide_eq_false_iff_not, Bool.not_eq_true', Bool.not_eq_false', Bool.and_eq_true, Bool.or_eq_true, Bool.and_eq_false_iff, Bool.or_eq_false_iff, Bool.cond_true_left, Bool.cond_false_right, Bool.cond_true_right, Bool.cond_false_left, Bool.or_false, Bool.and_true]
    · simp only [go_sem, reduceIte, Nat.reduceBEq, Nat.reduceMul, reduceCtorEq, Nat.reduceAdd, Nat.reduceEqDiff, decide_eq_true_eq, decide_eq_false_iff_not, Bool.not_eq_true', Bool.not_eq_false', Bool.and_eq_true, Bool.or_eq_true, Bool.and_eq_false_iff, Bool.or_eq_false_iff, Bool.cond_true_left, Bool.cond_false_right, Bool.cond_true_right, Bool.cond_false_left, Bool.or_false, Bool.and_true]
      trivial
  · exact ⟨Nat.zero_le _, fun j hj => absurd hj (Nat.not_lt_zero j)⟩
  rintro i ⟨hi, hk⟩
  have hp1 : a.length ≤ 1048576 := hpre.1
  have hp2 : i < a.length → smallL (mEntries (a.getD i (dflt tMsg))) := fun h => by
    rw [List.getD_eq_getElem?_getD, List.getElem?_eq_getElem h]
    exact hpre.2 _ (List.getElem_mem h)
  simp only [go_sem, reduceIte, Nat.reduceBEq, Nat.reduceMul, reduceCtorEq, Nat.reduceAdd, Nat.reduceEqDiff, decide_eq_true_eq, decide_eq_false_iff_not, Bool.not_eq_true', Bool.not_eq_false', Bool.and_eq_true, Bool.or_eq_true, Bool.and_eq_false_iff, Bool.or_eq_false_iff, Bool.cond_true_left, Bool.cond_false_right, Bool.cond_true_right, Bool.cond_false_left, Bool.or_false, Bool.and_true, inR]
  refine ⟨fun h => ⟨by omega, by omega, hp2 (by omega), by rfl, fun hd => eqB_ne fun e => ?_, fun hs => ⟨by omega, Again.intro (i + 1) (Ent_of [] rfl ?_ ?_) ⟨?_, upTo hk (eqB_iff.1 hs)⟩ (show a.length - (i + 1) < a.length - i by omega)⟩⟩, fun h => ?_⟩
  · subst e; rw [eqB_self] at hd; cases hd
  · simp only [go_sem, reduceIte, Nat.reduceBEq, Nat.reduceMul, reduceCtorEq, Nat.reduceAdd, Nat.reduceEqDiff, decide_eq_true_eq, decide_eq_false_iff_not, Bool.not_eq_true', Bool.not_eq_false', Bool.and_eq_true, Bool.or_eq_true, Bool.and_eq_false_iff, Bool.or_eq_false_iff, Bool.cond_true_left, Bool.cond_false_right, Bool.cond_true_right, Bool.cond_false_left, Bool.or_false, Bool.and_true]
  · simp only [go_sem, reduceIte, Nat.reduceBEq, Nat.reduceMul, reduceCtorEq, Nat.reduceAdd, Nat.reduceEqDiff, decide_eq_true_eq, decide_eq_false_iff_not, Bool.not_eq_true', Bool.not_eq_false', Bool.and_eq_true, Bool.or_eq_true, Bool.and_eq_false_iff, Bool.or_eq_false_iff, Bool.cond_true_left, Bool.cond_false_right, Bool.cond_true_right, Bool.cond_false_left, Bool.or_false, Bool.and_true]
    omega
  · show i + 1 ≤ a.length; omega
  · exact (eqB_iff.2 (list_eq_of_getD _ hl' fun j hj => hk j (by omega))).symm
def fn41 : Fn := { a := .pair tNode (.pair tMsg .unit), r := .pair tNode (.pair .bool .unit), pre := fun x => 1 ≤ nNodes x.1 ∧ nNodes x.1 ≤ 5 ∧ (nVotes x.1).length = (nNodes x.1).toNat ∧ 0 ≤ mFrom x.2.1 ∧ mFrom x.2.1 < nNodes x.1, f := fun x => (given1 x.1 x.2.1, given2 x.1 x.2.1, ()) }
theorem h41  : Holds Try.prog 41 (fn41) := by
  refine Holds.of_vc (T := [(43, fn43), (45, fn45)]) (TT := ttL) (rowAt := []) (c := c41) (ros := [.c 4 15, .t 5]) (.cons _ h43 (.cons _ h45 (.nil _))) mixed Try.func41 (by decide +kernel) (by rfl) comp41 (by kernel_rfl) rfl rfl (fun h => by cases h) ?_
  rintro ⟨(n : Node), (m : Msg), _⟩ hpre
  simp only [fn41] at hpre ⊢
  simp only [c41, fn43, fn45, go_sem, reduceIte, Nat.reduceBEq, Nat.reduceMul, reduceCtorEq, Nat.reduceAdd, Nat.reduceEqDiff, decide_eq_true_eq, decide_eq_false_iff_not, Bool.not_eq_true', Bool.not_eq_false', Bool.and_eq_true, Bool.or_eq_true, Bool.and_eq_false_iff, Bool.or_eq_false_iff, Bool.cond_true_left, Bool.cond_false_right, Bool.cond_true_right, Bool.cond_false_left, Bool.or_false, Bool.and_true, inR, fn44]
  simp only [given1, given2]
  have hn := down_nodes n (mTerm m)
  have hv : (nVotes (down n (mTerm m))).length = (nNodes n).toNat := by
    unfold down; split
    · exact votes_len' hpre.1 hpre.2.1
    · exact hpre.2.2.1
  generalize hd : down n m.2.2.2.1 = d at *
  have hp1 := hpre.1
  have hp2 := hpre.2.1
  have hp4 := hpre.2.2.2.1
  have hp5 := hpre.2.2.2.2
  refine ⟨by omega, fun h => ?_, fun h => ?_⟩
  · have hc : ¬ givenC d m := by
      rintro ⟨c1, c2, c3, c4, c5⟩
      rcases h with (h | h) | h
      · rw [show m.2.2.2.2.2.2.1 = true from c1] at h; cases h
      · exact h c2
      · exact h c3
    exact ⟨(if_neg hc).symm, (if_neg hc).symm⟩
  have hvl : d.2.2.2.2.2.2.2.2.2.2.2.1.length = (nNodes n).toNat := hv
  have hf1 : m.2.1 = mFrom m := rfl
  have hc : givenC d m := ⟨h.1.1, h.1.2, h.2, by omega, by rw [hv]; omega⟩
  have g1 : given1' d m = mkN (nId d) (nNodes d) (nTerm d) (nVote d) (nBase d) (nBT d) (nSnap d) (nLog d) (nRole d) (nLead d) (nCommit d) ((nVotes d).set (mFrom m).toNat true) (nNext d) (nMatch d) (nClock d) := if_pos hc
  have g2 : given2' d m = decide (most d ≤ cnt ((nVotes d).set (mFrom m).toNat true)) := if_pos hc
  rw [g1, g2]
  have hVl : ((nVotes d).set (mFrom m).toNat true).length = (nNodes n).toNat := by rw [List.length_set, hv]
  have hV : List.set d.2.2.2.2.2.2.2.2.2.2.2.1 m.2.1.toNat true = (nVotes d).set (mFrom m).toNat true := rfl
  simp only [hV]
  generalize (nVotes d).set (mFrom m).toNat true = V at *
  refine ⟨by omega, ⟨by dsimp only [den, nId, nNodes, nTerm, nVote, nBase, nBT, nSnap, nLog, nRole, nLead, nCommit, nVotes, nNext, nMatch, nClock, mKind, mFrom, mTo, mTerm, mIndex, mAt, mYes, mCommit, mEntries, mSnap, eTerm, eCmd, mkN, mkM, mkE, last, inR, sm, lastT] at *; omega, by dsimp only [den, nId, nNodes, nTerm, nVote, nBase, nBT, nSnap, nLog, nRole, nLead, nCommit, nVotes, nNext, nMatch, nClock, mKind, mFrom, mTo, mTerm, mIndex, mAt, mYes, mCommit, mEntries, mSnap, eTerm, eCmd, mkN, mkM, mkE, last, inR, sm, lastT] at *; omega⟩, ?_⟩
  refine loop_rule (β := Nat) (fun i => ⟨[(2, .ptr 2 0), (4, .ptr 4 0), (6, .int .i64 (countB V id i)), (7, .int .i64 i)], [(2, .box (cellsA tNode (mkN (nId d) (nNodes d) (nTerm d) (nVote d) (nBase d) (nBT d) (nSnap d) (nLog d) (nRole d) (nLead d) (nCommit d) V (nNext d) (nMatch d) (nClock d)) [])), (4, .box zN)]⟩)
    (fun i => i ≤ V.length) (fun i => V.length - i) 0 ?_ ?_ ?_
  · refine Ent_fz [30] [(2, 2), (4, 4)] rfl ?_ ?_
    · simp only [go_sem, reduceIte, Nat.reduceBEq, Nat.reduceMul, reduceCtorEq, Nat.reduceAdd, Nat.reduceEqDiff, decide_eq_true_eq, decide_eq_false_iff_not, Bool.not_eq_true', Bool.not_eq_false', Bool.and_eq_true, Bool.or_eq_true, Bool.and_eq_false_iff, Bool.or_eq_false_iff, Bool.cond_true_left, Bool.cond_false_right, Bool.cond_true_right, Bool.cond_false_left, Bool.or_false, Bool.and_true]
      exact List.take_of_length_le (by omega)
    · simp only [go_sem, reduceIte, Nat.reduceBEq, Nat.reduceMul, reduceCtorEq, Nat.reduceAdd, Nat.reduceEqDiff, decide_eq_true_eq, decide_eq_false_iff_not, Bool.not_eq_true', Bool.not_eq_false', Bool.and_eq_true, Bool.or_eq_true, Bool.and_eq_false_iff, Bool.or_eq_false_iff, Bool.cond_true_left, Bool.cond_false_right, Bool.cond_true_right, Bool.cond_false_left, Bool.or_false, Bool.and_true]
      exact ⟨rfl, rfl⟩
  · exact Nat.zero_le _
  intro i hi
  have hcb := countB_le V id i
  have hn' : nNodes d = nNodes n := hn
  simp only [go_sem, reduceIte, Nat.reduceBEq, Nat.reduceMul, reduceCtorEq, Nat.reduceAdd, Nat.reduceEqDiff, decide_eq_true_eq, decide_eq_false_iff_not, Bool.not_eq_true', Bool.not_eq_false', Bool.and_eq_true, Bool.or_eq_true, Bool.and_eq_false_iff, Bool.or_eq_false_iff, Bool.cond_true_left, Bool.cond_false_right, Bool.cond_true_right, Bool.cond_false_left, Bool.or_false, Bool.and_true, inR, fn44]
  refine ⟨fun h => ⟨by omega, fun hp => ⟨by omega, by omega, Again.intro (i + 1) (Ent_of [(2, 2), (4, 4)] rfl ?_ ?_) ?_ ?_⟩, fun hp => ⟨by omega, Again.intro (i + 1) (Ent_of [(2, 2), (4, 4)] rfl ?_ ?_) ?_ ?_⟩⟩, fun h => ?_⟩
  · simp only [go_sem, reduceIte, Nat.reduceBEq, Nat.reduceMul, reduceCtorEq, Nat.reduceAdd, Nat.reduceEqDiff, decide_eq_true_eq, decide_eq_false_iff_not, Bool.not_eq_true', Bool.not_eq_false', Bool.and_eq_true, Bool.or_eq_true, Bool.and_eq_false_iff, Bool.or_eq_false_iff, Bool.cond_true_left, Bool.cond_false_right, Bool.cond_true_right, Bool.cond_false_left, Bool.or_false, Bool.and_true]
  · simp only [go_sem, reduceIte, Nat.reduceBEq, Nat.reduceMul, reduceCtorEq, Nat.reduceAdd, Nat.reduceEqDiff, decide_eq_true_eq, decide_eq_false_iff_not, Bool.not_eq_true', Bool.not_eq_false', Bool.and_eq_true, Bool.or_eq_true, Bool.and_eq_false_iff, Bool.or_eq_false_iff, Bool.cond_true_left, Bool.cond_false_right, Bool.cond_true_right, Bool.cond_false_left, Bool.or_false, Bool.and_true]
    rw [countB_yes (by omega) hp]
    omega
  · show i + 1 ≤ V.length; omega
  · show V.length - (i + 1) < V.length - i; omega
  · simp only [go_sem, reduceIte, Nat.reduceBEq, Nat.reduceMul, reduceCtorEq, Nat.reduceAdd, Nat.reduceEqDiff, decide_eq_true_eq, decide_eq_false_iff_not, Bool.not_eq_true', Bool.not_eq_false', Bool.and_eq_true, Bool.or_eq_true, Bool.and_eq_false_iff, Bool.or_eq_false_iff, Bool.cond_true_left, Bool.cond_false_right, Bool.cond_true_right, Bool.cond_false_left, Bool.or_false, Bool.and_true]
  · simp only [go_sem, reduceIte, Nat.reduceBEq, Nat.reduceMul, reduceCtorEq, Nat.reduceAdd, Nat.reduceEqDiff, decide_eq_true_eq, decide_eq_false_iff_not, Bool.not_eq_true', Bool.not_eq_false', Bool.and_eq_true, Bool.or_eq_true, Bool.and_eq_false_iff, Bool.or_eq_false_iff, Bool.cond_true_left, Bool.cond_false_right, Bool.cond_true_right, Bool.cond_false_left, Bool.or_false, Bool.and_true]
    rw [countB_no (by omega) hp]
    omega
  · show i + 1 ≤ V.length; omega
  · show V.length - (i + 1) < V.length - i; omega
  · have hiV : i = V.length := by omega
    subst hiV
    exact ⟨⟨by show 0 ≤ nNodes d; omega, by show nNodes d ≤ 100; omega⟩, by rfl, rfl, rfl⟩
end Go.AM

set_option maxRecDepth 100000
set_option maxHeartbeats 8000000
set_option linter.unusedSimpArgs false
namespace Go.AM
open Go.Proofs
attribute [local congr] vc_congr evOps_congr evTab_congr bind_congr condK_congr tabK_congr
def smallN (n : Node) : Prop := smallL (nLog n) ∧ smallL (nVotes n) ∧ smallL (nNext n) ∧ smallL (nMatch n)
theorem small_down {n : Node} (t : Int) (h : smallN n) : smallN (down n t) := by
  unfold down; split
  · refine ⟨h.1, ?_, h.2.2.1, h.2.2.2⟩
    show smallL (votes n)
    rw [sm, votes_len]; omega
  · exact h
theorem small_start {n : Node} (h : smallN n) : smallN (start1 n) := by
  have := start1_votes n
  refine ⟨?_, by rw [sm]; omega, ?_, ?_⟩
  · rw [start1_log]; exact h.1
  · rw [start1_next]; exact h.2.2.1
  · rw [start1_match]; exact h.2.2.2
theorem small_asked {n : Node} {m : Msg} (h : smallN n) : smallN (asked1 n m) := by
  have := small_down (mTerm m) h
  unfold asked1 asked1'; split
  · exact this
  · exact this
theorem small_given {n : Node} {m : Msg} (h : smallN n) : smallN (given1 n m) := by
  have := small_down (mTerm m) h
  unfold given1 given1'; split
  · refine ⟨this.1, ?_, this.2.2.1, this.2.2.2⟩
    show smallL (List.set _ _ _)
    rw [sm, List.length_set]; exact this.2.1
  · exact this
theorem small_MI {j : Nat} {n : Node} (h : MI j n) (hj : j ≤ 1000000) : smallN n := by
  have hl : last n = nBase n + (nLog n).length := rfl
  simp only [MI] at h
  refine ⟨by rw [sm]; omega, by rw [sm]; omega, by rw [sm]; omega, by rw [sm]; omega⟩
theorem start2_small (n : Node) : smallL (start2 n) ∧ ∀ m ∈ start2 n, smallL (mEntries m) := by
  refine ⟨?_, fun m hm => ?_⟩
  · have := startMsgs_len (start1 n) (nVotes (start1 n)).length
    have := start1_votes n
    rw [sm]; unfold start2; omega
  · unfold start2 startMsgs at hm
    obtain ⟨j, _, rfl⟩ := List.mem_map.1 hm
    rw [sm]; exact Nat.zero_le _
theorem asked2_small (n : Node) (m : Msg) : smallL (asked2 n m) ∧ ∀ m' ∈ asked2 n m, smallL (mEntries m') := by
  refine ⟨by rw [sm]; show 1 ≤ _; omega, fun m' hm => ?_⟩
  rw [List.mem_singleton.1 hm, sm]; exact Nat.zero_le _
def voteNumbersFn : Fn := { a := .pair (.list tI) (.pair tI (.pair tI (.pair tI (.pair tI (.pair tI .unit))))), r := .pair .bool .unit, pre := fun x => preS x.1 ∧ InR .i64 x.2.1 ∧ InR .i64 x.2.2.1 ∧ InR .i64 x.2.2.2.1 ∧ InR .i64 x.2.2.2.2.1 ∧ InR .i64 x.2.2.2.2.2.1, f := fun _ => (true, ()) }
theorem h7  : Holds Try.prog 7 (voteNumbersFn) := by
  refine Holds.of_vc (T := [(22, fn22), (24, fn24), (27, fn27), (38, fn38), (25, fn25), (39, fn39), (40, fn40), (41, fn41), (23, fn23), (33, fn33), (42, fn42), (32, fn32), (43, fn43), (44, fn44), (45, fn45), (26, fn26)]) (TT := ttL) (rowAt := []) (c := c7) (ros := [.t 12]) (.cons _ h22 (.cons _ h24 (.cons _ h27 (.cons _ h38 (.cons _ h25 (.cons _ h39 (.cons _ h40 (.cons _ h41 (.cons _ h23 (.cons _ h33 (.cons _ h42 (.cons _ h32 (.cons _ h43 (.cons _ h44 (.cons _ h45 (.cons _ h26 (.nil _))))))))))))))))) mixed Try.func7 (by decide +kernel) (by rfl) comp7 (by kernel_rfl) rfl rfl (fun h => by cases h) ?_
  rintro ⟨(l : List Int), (id : Int), (nodes : Int), (v : Int), (w : Int), (t : Int), _⟩ hpre
  simp only [voteNumbersFn] at hpre ⊢
  simp (maxSteps := 10000000) only [c7, fn22, fn24, fn27, fn38, fn25, fn39, fn40, fn41, fn23, fn33, fn42, fn32, fn43, fn44, fn45, fn26, go_sem, reduceIte, Nat.reduceBEq, Nat.reduceMul, reduceCtorEq, Nat.reduceAdd, Nat.reduceEqDiff, decide_eq_true_eq, decide_eq_false_iff_not, Bool.not_eq_true', Bool.not_eq_false', Bool.and_eq_true, Bool.or_eq_true, Bool.and_eq_false_iff, Bool.or_eq_false_iff, Bool.cond_true_left, Bool.cond_false_right, Bool.cond_true_right, Bool.cond_false_left, Bool.or_false, Bool.and_true, inR, eqB_self, fn44]
  have hM := MI_made l id nodes
  generalize made l id nodes = n at *
  have hw := wf_of_MI hM (by decide)
  have hsm := small_MI hM (by decide)
  have hn1 : 1 ≤ nNodes n := hw.1
  have hf := message_from v w n [] hn1
  have hl : last n = nBase n + (nLog n).length := rfl
  have hw2 := hw
  simp only [wfN] at hw2
  refine ⟨hw, by omega, by omega, by omega, by omega, ⟨by omega, by omega, hsm.2.1⟩, ⟨by omega, by omega, hw2.2.2.2.2.2.2.2.2.2.2.1, hf.1, hf.2⟩, by decide, small_start hsm, start2_small n, small_asked hsm, asked2_small n _, small_given hsm, fun _ => by omega, fun _ => small_down _ hsm, fun _ => by omega, fun _ => by omega, by rfl, ?_⟩
  simp only [beq_self_eq_true, and_true, true_and]
end Go.AM
