import Derived.Test.YtbcbgfkojmligaaHJ
/- What functions of the program answer, each under the conditions that its contract names. -/
set_option linter.unusedVariables false
set_option linter.unusedSimpArgs false
set_option maxRecDepth 100000
set_option maxHeartbeats 40000000
set_option linter.unusedSimpArgs false
namespace Go.AM
open Go.Proofs
attribute [local congr] vc_congr evOps_congr evTab_congr bind_congr condK_congr tabK_congr
def fn48w : Fn := { a := .pair tNode (.pair tI .unit), r := .pair tI (.pair .bool .unit), pre := fun x => InR .i64 (last x.1) ∧ 0 ≤ nBase x.1 ∧ smallL (nLog x.1), f := fun x => (termV x.1 x.2.1, termOk x.1 x.2.1, ()) }
theorem h48w  : Holds Try.prog 48 (fn48w) := by
  refine Holds.of_vc (T := [(52, fn52)]) (TT := ttL) (rowAt := []) (c := c48) (ros := [.t 4, .t 5]) (.cons _ h52 (.nil _)) mixed Try.func48 (by decide +kernel) (by rfl) comp48 (by kernel_rfl) rfl rfl (fun h => by cases h) ?_
  rintro ⟨(n : Node), (i : Int), _⟩ hpre
  simp only [fn48w, sm] at hpre ⊢
  simp only [c48, fn52, go_sem, reduceIte, Nat.reduceBEq, Nat.reduceMul, reduceCtorEq, Nat.reduceAdd, Nat.reduceEqDiff, decide_eq_true_eq, decide_eq_false_iff_not, Bool.not_eq_true', Bool.not_eq_false', Bool.and_eq_true, Bool.or_eq_true, Bool.and_eq_false_iff, Bool.or_eq_false_iff, Bool.cond_true_left, Bool.cond_false_right, Bool.cond_true_right, Bool.cond_false_left, Bool.or_false, Bool.and_true, termV, termOk, inR]
  dsimp only [den, nId, nNodes, nTerm, nVote, nBase, nBT, nSnap, nLog, nRole, nLead, nCommit, nVotes, nNext, nMatch, nClock, mKind, mFrom, mTo, mTerm, mIndex, mAt, mYes, mCommit, mEntries, mSnap, eTerm, eCmd, mkN, mkM, mkE, last, inR, sm, lastT] at *
  repeat' (first | apply And.intro | intro _)
  all_goals (first | omega | rfl | exact (decide_eq_true (by omega)).symm | exact (decide_eq_false (by omega)).symm | exact decide_eq_true (by omega) | exact decide_eq_false (by omega) | exact (if_pos (by omega)).symm | exact (if_neg (by omega)).symm | (split <;> first | omega | rfl | (split <;> first | omega | rfl | (split <;> first | omega | rfl))) | skip)
theorem h29w  : Holds Try.prog 29 (fn48w) := by
  refine Holds.of_vc (T := [(30, fn30)]) (TT := ttL) (rowAt := []) (c := c29) (ros := [.t 4, .t 5]) (.cons _ h30 (.nil _)) mixed Try.func29 (by decide +kernel) (by rfl) comp29 (by kernel_rfl) rfl rfl (fun h => by cases h) ?_
  rintro ⟨(n : Node), (i : Int), _⟩ hpre
  simp only [fn48w, sm] at hpre ⊢
  simp only [c29, fn30, go_sem, reduceIte, Nat.reduceBEq, Nat.reduceMul, reduceCtorEq, Nat.reduceAdd, Nat.reduceEqDiff, decide_eq_true_eq, decide_eq_false_iff_not, Bool.not_eq_true', Bool.not_eq_false', Bool.and_eq_true, Bool.or_eq_true, Bool.and_eq_false_iff, Bool.or_eq_false_iff, Bool.cond_true_left, Bool.cond_false_right, Bool.cond_true_right, Bool.cond_false_left, Bool.or_false, Bool.and_true, termV, termOk, inR]
  dsimp only [den, nId, nNodes, nTerm, nVote, nBase, nBT, nSnap, nLog, nRole, nLead, nCommit, nVotes, nNext, nMatch, nClock, mKind, mFrom, mTo, mTerm, mIndex, mAt, mYes, mCommit, mEntries, mSnap, eTerm, eCmd, mkN, mkM, mkE, last, inR, sm, lastT] at *
  repeat' (first | apply And.intro | intro _)
  all_goals (first | omega | rfl | exact (decide_eq_true (by omega)).symm | exact (decide_eq_false (by omega)).symm | exact decide_eq_true (by omega) | exact decide_eq_false (by omega) | exact (if_pos (by omega)).symm | exact (if_neg (by omega)).symm | (split <;> first | omega | rfl | (split <;> first | omega | rfl | (split <;> first | omega | rfl))) | skip)
def fn47w : Fn := { a := .pair tNode .unit, r := .pair .bool .unit, pre := fun x => smallL (nLog x.1), f := fun x => (checkN x.1, ()) }
theorem h47w  : Holds Try.prog 47 (fn47w) := by
  refine Holds.of_vc (T := [(101, fn101), (30, fn30)]) (TT := ttL) (rowAt := []) (c := c47) (ros := [.t 2]) (.cons _ h101 (.cons _ h30 (.nil _))) mixed Try.func47 (by decide +kernel) (by rfl) comp47 (by kernel_rfl) rfl rfl (fun h => by cases h) ?_
  rintro ⟨(n : Node), _⟩ hpre
  simp only [fn47w] at hpre ⊢
  simp (maxSteps := 10000000) only [c47, fn101, fn30, go_sem, reduceIte, Nat.reduceBEq, Nat.reduceMul, reduceCtorEq, Nat.reduceAdd, Nat.reduceEqDiff, decide_eq_true_eq, decide_eq_false_iff_not, Bool.not_eq_true', Bool.not_eq_false', Bool.and_eq_true, Bool.or_eq_true, Bool.and_eq_false_iff, Bool.or_eq_false_iff, Bool.cond_true_left, Bool.cond_false_right, Bool.cond_true_right, Bool.cond_false_left, Bool.or_false, Bool.and_true, inR]
  have hpl0 : (nLog n).length ≤ 1048576 := hpre
  have hlastR : in0 (nBase n) = true → InR .i64 (last n) := fun hb => by
    have hb2 : 0 ≤ nBase n ∧ nBase n ≤ 1099511627776 := by unfold in0 at hb; simpa using hb
    have hl : last n = nBase n + (nLog n).length := rfl
    rw [inR]; omega
  refine ⟨fun h => ?_, fun h => ⟨fun hg => hlastR hg.1.1.1.1.1.1.1.1.1.1.2, by rfl, fun h2 => ?_, fun h2 => ?_⟩⟩
  · exact checkN_no fun hA _ _ => by rw [checkA_iff] at hA; dsimp only [den, nId, nNodes, nTerm, nVote, nBase, nBT, nSnap, nLog, nRole, nLead, nCommit, nVotes, nNext, nMatch, nClock, mKind, mFrom, mTo, mTerm, mIndex, mAt, mYes, mCommit, mEntries, mSnap, eTerm, eCmd, mkN, mkM, mkE, last, inR, sm, lastT] at *; omega
  · refine checkN_no fun hA hB hC => ?_
    rw [checkA_iff] at hA
    rw [checkB_iff] at hB
    rw [checkC_iff] at hC
    obtain ⟨b1, b2, b3, b4, b5, b6⟩ := hB
    have hC1 := hC.1
    have hC2 := hC.2.1
    clear hC
    rcases h2 with (((((((((((h2 | h2) | h2) | h2) | h2) | h2) | h2) | h2) | h2) | h2) | h2) | h2) | h2
    · exact t_f b1 h2
    · exact t_f b2 h2
    · exact t_f b3 h2
    · exact t_f b4 h2
    · exact t_f b5 h2
    all_goals (clear b1 b2 b3 b4 b5; dsimp only [den, nId, nNodes, nTerm, nVote, nBase, nBT, nSnap, nLog, nRole, nLead, nCommit, nVotes, nNext, nMatch, nClock, mKind, mFrom, mTo, mTerm, mIndex, mAt, mYes, mCommit, mEntries, mSnap, eTerm, eCmd, mkN, mkM, mkE, last, inR, sm, lastT] at *; omega)
  have hA : checkA n = true := by rw [checkA_iff]; dsimp only [den, nId, nNodes, nTerm, nVote, nBase, nBT, nSnap, nLog, nRole, nLead, nCommit, nVotes, nNext, nMatch, nClock, mKind, mFrom, mTo, mTerm, mIndex, mAt, mYes, mCommit, mEntries, mSnap, eTerm, eCmd, mkN, mkM, mkE, last, inR, sm, lastT] at *; omega
  have hB : checkB n = true := by
    obtain ⟨⟨⟨⟨⟨⟨⟨⟨⟨⟨⟨⟨c1, c2⟩, c3⟩, c4⟩, c5⟩, c6⟩, c7⟩, c8⟩, c9⟩, c10⟩, c11⟩, c12⟩, c13⟩ := h2
    rw [checkB_iff]
    refine ⟨c1, c2, c3, c4, c5, ?_⟩
    clear c1 c2 c3 c4 c5
    dsimp only [den, nId, nNodes, nTerm, nVote, nBase, nBT, nSnap, nLog, nRole, nLead, nCommit, nVotes, nNext, nMatch, nClock, mKind, mFrom, mTo, mTerm, mIndex, mAt, mYes, mCommit, mEntries, mSnap, eTerm, eCmd, mkN, mkM, mkE, last, inR, sm, lastT] at *; omega
  have hC1 : nBase n ≤ nCommit n := by have := h2.1.2; dsimp only [den, nId, nNodes, nTerm, nVote, nBase, nBT, nSnap, nLog, nRole, nLead, nCommit, nVotes, nNext, nMatch, nClock, mKind, mFrom, mTo, mTerm, mIndex, mAt, mYes, mCommit, mEntries, mSnap, eTerm, eCmd, mkN, mkM, mkE, last, inR, sm, lastT] at *; omega
  have hC2 : nCommit n ≤ last n := by have := h2.2; dsimp only [den, nId, nNodes, nTerm, nVote, nBase, nBT, nSnap, nLog, nRole, nLead, nCommit, nVotes, nNext, nMatch, nClock, mKind, mFrom, mTo, mTerm, mIndex, mAt, mYes, mCommit, mEntries, mSnap, eTerm, eCmd, mkN, mkM, mkE, last, inR, sm, lastT] at *; omega
  clear h h2
  have hA' := checkA_iff.1 hA
  refine loop_rule (β := Nat) (fun i => ⟨[(1, .ptr 1 0), (3, .int .i64 i)], [(1, .box (cellsA tNode n []))]⟩) (fun i => (i : Int) ≤ nNodes n ∧ ∀ j, j < i → inB ((nNext n).getD j (dflt tI)) 1 MM = true ∧ inB ((nMatch n).getD j (dflt tI)) 0 MM = true) (fun i => (nNodes n).toNat - i) 0 ?_ ?_ ?_
  · refine Ent_of [(1, 1)] rfl ?_ ?_
    · simp only [go_sem, reduceIte, Nat.reduceBEq, Nat.reduceMul, reduceCtorEq, Nat.reduceAdd, Nat.reduceEqDiff, decide_eq_true_eq, decide_eq_false_iff_not, Bool.not_eq_true', Bool.not_eq_false', Bool.and_eq_true, Bool.or_eq_true, Bool.and_eq_false_iff, Bool.or_eq_false_iff, Bool.cond_true_left, Bool.cond_false_right, Bool.cond_true_right, Bool.cond_false_left, Bool.or_false, Bool.and_true]
    · simp only [go_sem, reduceIte, Nat.reduceBEq, Nat.reduceMul, reduceCtorEq, Nat.reduceAdd, Nat.reduceEqDiff, decide_eq_true_eq, decide_eq_false_iff_not, Bool.not_eq_true', Bool.not_eq_false', Bool.and_eq_true, Bool.or_eq_true, Bool.and_eq_false_iff, Bool.or_eq_false_iff, Bool.cond_true_left, Bool.cond_false_right, Bool.cond_true_right, Bool.cond_false_left, Bool.or_false, Bool.and_true]
      trivial
  · exact ⟨by dsimp only [den, nId, nNodes, nTerm, nVote, nBase, nBT, nSnap, nLog, nRole, nLead, nCommit, nVotes, nNext, nMatch, nClock, mKind, mFrom, mTo, mTerm, mIndex, mAt, mYes, mCommit, mEntries, mSnap, eTerm, eCmd, mkN, mkM, mkE, last, inR, sm, lastT] at *; omega, fun j hj => absurd hj (Nat.not_lt_zero j)⟩
  rintro i ⟨hi, hk⟩
  simp only [c47, fn101, fn30, go_sem, reduceIte, Nat.reduceBEq, Nat.reduceMul, reduceCtorEq, Nat.reduceAdd, Nat.reduceEqDiff, decide_eq_true_eq, decide_eq_false_iff_not, Bool.not_eq_true', Bool.not_eq_false', Bool.and_eq_true, Bool.or_eq_true, Bool.and_eq_false_iff, Bool.or_eq_false_iff, Bool.cond_true_left, Bool.cond_false_right, Bool.cond_true_right, Bool.cond_false_left, Bool.or_false, Bool.and_true, inR]
  have hil : i < (nNodes n).toNat → i < (nNext n).length ∧ i < (nMatch n).length := fun h => by
    obtain ⟨-, -, -, -, -, h1, h2⟩ := hA'
    dsimp only [den, nId, nNodes, nTerm, nVote, nBase, nBT, nSnap, nLog, nRole, nLead, nCommit, nVotes, nNext, nMatch, nClock, mKind, mFrom, mTo, mTerm, mIndex, mAt, mYes, mCommit, mEntries, mSnap, eTerm, eCmd, mkN, mkM, mkE, last, inR, sm, lastT] at *; omega
  refine ⟨fun h => ?_, fun h => ?_⟩
  · have hl := hil (by dsimp only [den, nId, nNodes, nTerm, nVote, nBase, nBT, nSnap, nLog, nRole, nLead, nCommit, nVotes, nNext, nMatch, nClock, mKind, mFrom, mTo, mTerm, mIndex, mAt, mYes, mCommit, mEntries, mSnap, eTerm, eCmd, mkN, mkM, mkE, last, inR, sm, lastT] at *; omega)
    have hb : i ≤ 5 := by dsimp only [den, nId, nNodes, nTerm, nVote, nBase, nBT, nSnap, nLog, nRole, nLead, nCommit, nVotes, nNext, nMatch, nClock, mKind, mFrom, mTo, mTerm, mIndex, mAt, mYes, mCommit, mEntries, mSnap, eTerm, eCmd, mkN, mkM, mkE, last, inR, sm, lastT] at *; omega
    refine ⟨by dsimp only [den, nId, nNodes, nTerm, nVote, nBase, nBT, nSnap, nLog, nRole, nLead, nCommit, nVotes, nNext, nMatch, nClock, mKind, mFrom, mTo, mTerm, mIndex, mAt, mYes, mCommit, mEntries, mSnap, eTerm, eCmd, mkN, mkM, mkE, last, inR, sm, lastT] at *; omega, fun _ => by dsimp only [den, nId, nNodes, nTerm, nVote, nBase, nBT, nSnap, nLog, nRole, nLead, nCommit, nVotes, nNext, nMatch, nClock, mKind, mFrom, mTo, mTerm, mIndex, mAt, mYes, mCommit, mEntries, mSnap, eTerm, eCmd, mkN, mkM, mkE, last, inR, sm, lastT] at *; omega, fun _ => by dsimp only [den, nId, nNodes, nTerm, nVote, nBase, nBT, nSnap, nLog, nRole, nLead, nCommit, nVotes, nNext, nMatch, nClock, mKind, mFrom, mTo, mTerm, mIndex, mAt, mYes, mCommit, mEntries, mSnap, eTerm, eCmd, mkN, mkM, mkE, last, inR, sm, lastT] at *; omega, fun h2 => checkN_no fun _ _ hC => ?_, fun h2 => ⟨by omega, Again.intro (i + 1) (Ent_of [(1, 1)] rfl ?_ ?_) ⟨by dsimp only [den, nId, nNodes, nTerm, nVote, nBase, nBT, nSnap, nLog, nRole, nLead, nCommit, nVotes, nNext, nMatch, nClock, mKind, mFrom, mTo, mTerm, mIndex, mAt, mYes, mCommit, mEntries, mSnap, eTerm, eCmd, mkN, mkM, mkE, last, inR, sm, lastT] at *; omega, fun j hj => ?_⟩ (show (nNodes n).toNat - (i + 1) < (nNodes n).toNat - i by dsimp only [den, nId, nNodes, nTerm, nVote, nBase, nBT, nSnap, nLog, nRole, nLead, nCommit, nVotes, nNext, nMatch, nClock, mKind, mFrom, mTo, mTerm, mIndex, mAt, mYes, mCommit, mEntries, mSnap, eTerm, eCmd, mkN, mkM, mkE, last, inR, sm, lastT] at *; omega)⟩⟩
    · rw [checkC_iff] at hC
      have k1 := hC.2.2.1 i hl.1
      have k2 := hC.2.2.2.1 i hl.2
      rw [inB_iff] at k1
      rcases h2 with h2 | h2
      · unfold MM at k1; dsimp only [den, nId, nNodes, nTerm, nVote, nBase, nBT, nSnap, nLog, nRole, nLead, nCommit, nVotes, nNext, nMatch, nClock, mKind, mFrom, mTo, mTerm, mIndex, mAt, mYes, mCommit, mEntries, mSnap, eTerm, eCmd, mkN, mkM, mkE, last, inR, sm, lastT] at *; omega
      · exact t_f k2 h2
    · simp only [go_sem, reduceIte, Nat.reduceBEq, Nat.reduceMul, reduceCtorEq, Nat.reduceAdd, Nat.reduceEqDiff, decide_eq_true_eq, decide_eq_false_iff_not, Bool.not_eq_true', Bool.not_eq_false', Bool.and_eq_true, Bool.or_eq_true, Bool.and_eq_false_iff, Bool.or_eq_false_iff, Bool.cond_true_left, Bool.cond_false_right, Bool.cond_true_right, Bool.cond_false_left, Bool.or_false, Bool.and_true]
    · simp only [go_sem, reduceIte, Nat.reduceBEq, Nat.reduceMul, reduceCtorEq, Nat.reduceAdd, Nat.reduceEqDiff, decide_eq_true_eq, decide_eq_false_iff_not, Bool.not_eq_true', Bool.not_eq_false', Bool.and_eq_true, Bool.or_eq_true, Bool.and_eq_false_iff, Bool.or_eq_false_iff, Bool.cond_true_left, Bool.cond_false_right, Bool.cond_true_right, Bool.cond_false_left, Bool.or_false, Bool.and_true]
      omega
    · rcases Nat.lt_or_ge j i with hj2 | hj2
      · exact hk j hj2
      · rw [show j = i by omega]
        refine ⟨inB_iff.2 ?_, h2.2⟩
        have := h2.1
        unfold MM; dsimp only [den, nId, nNodes, nTerm, nVote, nBase, nBT, nSnap, nLog, nRole, nLead, nCommit, nVotes, nNext, nMatch, nClock, mKind, mFrom, mTo, mTerm, mIndex, mAt, mYes, mCommit, mEntries, mSnap, eTerm, eCmd, mkN, mkM, mkE, last, inR, sm, lastT] at *; omega
  have hC3 : ∀ j, j < (nNext n).length → inB ((nNext n).getD j (dflt tI)) 1 MM = true := fun j hj => (hk j (by dsimp only [den, nId, nNodes, nTerm, nVote, nBase, nBT, nSnap, nLog, nRole, nLead, nCommit, nVotes, nNext, nMatch, nClock, mKind, mFrom, mTo, mTerm, mIndex, mAt, mYes, mCommit, mEntries, mSnap, eTerm, eCmd, mkN, mkM, mkE, last, inR, sm, lastT] at *; omega)).1
  have hC4 : ∀ j, j < (nMatch n).length → inB ((nMatch n).getD j (dflt tI)) 0 MM = true := fun j hj => (hk j (by dsimp only [den, nId, nNodes, nTerm, nVote, nBase, nBT, nSnap, nLog, nRole, nLead, nCommit, nVotes, nNext, nMatch, nClock, mKind, mFrom, mTo, mTerm, mIndex, mAt, mYes, mCommit, mEntries, mSnap, eTerm, eCmd, mkN, mkM, mkE, last, inR, sm, lastT] at *; omega)).2
  have hpl : (nLog n).length ≤ 1048576 := hpre
  clear hk hi h hil
  refine loop_rule (β := Nat) (fun i => ⟨[(1, .ptr 1 0), (4, .int .i64 i)], [(1, .box (cellsA tNode n []))]⟩) (fun i => i ≤ (nLog n).length ∧ ∀ j, j < i → inB ((nLog n).getD j (dflt tEntry)).1 0 (nTerm n) = true) (fun i => (nLog n).length - i) 0 ?_ ?_ ?_
  · refine Ent_of [(1, 1)] rfl ?_ ?_
    · simp only [go_sem, reduceIte, Nat.reduceBEq, Nat.reduceMul, reduceCtorEq, Nat.reduceAdd, Nat.reduceEqDiff, decide_eq_true_eq, decide_eq_false_iff_not, Bool.not_eq_true', Bool.not_eq_false', Bool.and_eq_true, Bool.or_eq_true, Bool.and_eq_false_iff, Bool.or_eq_false_iff, Bool.cond_true_left, Bool.cond_false_right, Bool.cond_true_right, Bool.cond_false_left, Bool.or_false, Bool.and_true]
    · simp only [go_sem, reduceIte, Nat.reduceBEq, Nat.reduceMul, reduceCtorEq, Nat.reduceAdd, Nat.reduceEqDiff, decide_eq_true_eq, decide_eq_false_iff_not, Bool.not_eq_true', Bool.not_eq_false', Bool.and_eq_true, Bool.or_eq_true, Bool.and_eq_false_iff, Bool.or_eq_false_iff, Bool.cond_true_left, Bool.cond_false_right, Bool.cond_true_right, Bool.cond_false_left, Bool.or_false, Bool.and_true]
      trivial
  · exact ⟨Nat.zero_le _, fun j hj => absurd hj (Nat.not_lt_zero j)⟩
  rintro i ⟨hi, hk⟩
  simp only [c47, fn101, fn30, go_sem, reduceIte, Nat.reduceBEq, Nat.reduceMul, reduceCtorEq, Nat.reduceAdd, Nat.reduceEqDiff, decide_eq_true_eq, decide_eq_false_iff_not, Bool.not_eq_true', Bool.not_eq_false', Bool.and_eq_true, Bool.or_eq_true, Bool.and_eq_false_iff, Bool.or_eq_false_iff, Bool.cond_true_left, Bool.cond_false_right, Bool.cond_true_right, Bool.cond_false_left, Bool.or_false, Bool.and_true, inR]
  refine ⟨fun h => ⟨by omega, fun _ => by omega, by rfl, fun h2 => checkN_no fun _ _ hC => ?_, fun h2 => ⟨by omega, Again.intro (i + 1) (Ent_of [(1, 1)] rfl ?_ ?_) ⟨by dsimp only [den, nId, nNodes, nTerm, nVote, nBase, nBT, nSnap, nLog, nRole, nLead, nCommit, nVotes, nNext, nMatch, nClock, mKind, mFrom, mTo, mTerm, mIndex, mAt, mYes, mCommit, mEntries, mSnap, eTerm, eCmd, mkN, mkM, mkE, last, inR, sm, lastT] at *; omega, fun j hj => ?_⟩ (show (nLog n).length - (i + 1) < (nLog n).length - i by dsimp only [den, nId, nNodes, nTerm, nVote, nBase, nBT, nSnap, nLog, nRole, nLead, nCommit, nVotes, nNext, nMatch, nClock, mKind, mFrom, mTo, mTerm, mIndex, mAt, mYes, mCommit, mEntries, mSnap, eTerm, eCmd, mkN, mkM, mkE, last, inR, sm, lastT] at *; omega)⟩⟩, fun h => ?_⟩
  · rw [checkC_iff] at hC
    have k1 := hC.2.2.2.2 i (by dsimp only [den, nId, nNodes, nTerm, nVote, nBase, nBT, nSnap, nLog, nRole, nLead, nCommit, nVotes, nNext, nMatch, nClock, mKind, mFrom, mTo, mTerm, mIndex, mAt, mYes, mCommit, mEntries, mSnap, eTerm, eCmd, mkN, mkM, mkE, last, inR, sm, lastT] at *; omega)
    rw [inB_iff] at k1
    rcases h2 with h2 | h2
    · dsimp only [den, nId, nNodes, nTerm, nVote, nBase, nBT, nSnap, nLog, nRole, nLead, nCommit, nVotes, nNext, nMatch, nClock, mKind, mFrom, mTo, mTerm, mIndex, mAt, mYes, mCommit, mEntries, mSnap, eTerm, eCmd, mkN, mkM, mkE, last, inR, sm, lastT] at *; omega
    · dsimp only [den, nId, nNodes, nTerm, nVote, nBase, nBT, nSnap, nLog, nRole, nLead, nCommit, nVotes, nNext, nMatch, nClock, mKind, mFrom, mTo, mTerm, mIndex, mAt, mYes, mCommit, mEntries, mSnap, eTerm, eCmd, mkN, mkM, mkE, last, inR, sm, lastT] at *; omega
  · simp only [go_sem, reduceIte, Nat.reduceBEq, Nat.reduceMul, reduceCtorEq, Nat.reduceAdd, Nat.reduceEqDiff, decide_eq_true_eq, decide_eq_false_iff_not, Bool.not_eq_true', Bool.not_eq_false', Bool.and_eq_true, Bool.or_eq_true, Bool.and_eq_false_iff, Bool.or_eq_false_iff, Bool.cond_true_left, Bool.cond_false_right, Bool.cond_true_right, Bool.cond_false_left, Bool.or_false, Bool.and_true]
  · simp only [go_sem, reduceIte, Nat.reduceBEq, Nat.reduceMul, reduceCtorEq, Nat.reduceAdd, Nat.reduceEqDiff, decide_eq_true_eq, decide_eq_false_iff_not, Bool.not_eq_true', Bool.not_eq_false', Bool.and_eq_true, Bool.or_eq_true, Bool.and_eq_false_iff, Bool.or_eq_false_iff, Bool.cond_true_left, Bool.cond_false_right, Bool.cond_true_right, Bool.cond_false_left, Bool.or_false, Bool.and_true]
    omega
  · rcases Nat.lt_or_ge j i with hj2 | hj2
    · exact hk j hj2
    · rw [show j = i by omega]
      exact inB_iff.2 (by dsimp only [den, nId, nNodes, nTerm, nVote, nBase, nBT, nSnap, nLog, nRole, nLead, nCommit, nVotes, nNext, nMatch, nClock, mKind, mFrom, mTo, mTerm, mIndex, mAt, mYes, mCommit, mEntries, mSnap, eTerm, eCmd, mkN, mkM, mkE, last, inR, sm, lastT] at *; omega)
  · exact checkN_yes hA hB (checkC_iff.2 ⟨hC1, hC2, hC3, hC4, fun j hj => hk j (by dsimp only [den, nId, nNodes, nTerm, nVote, nBase, nBT, nSnap, nLog, nRole, nLead, nCommit, nVotes, nNext, nMatch, nClock, mKind, mFrom, mTo, mTerm, mIndex, mAt, mYes, mCommit, mEntries, mSnap, eTerm, eCmd, mkN, mkM, mkE, last, inR, sm, lastT] at *; omega)⟩)
end Go.AM
