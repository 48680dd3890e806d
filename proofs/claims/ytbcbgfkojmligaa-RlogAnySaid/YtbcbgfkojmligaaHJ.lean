import Derived.Test.YtbcbgfkojmligaaHI
import Derived.Test.YtbcbgfkojmligaaTJ
/- What functions of the program answer, each under the conditions that its contract names. -/
set_option linter.unusedVariables false
set_option linter.unusedSimpArgs false
set_option maxRecDepth 100000
set_option maxHeartbeats 40000000
set_option linter.unusedSimpArgs false
namespace Go.AM
open Go.Proofs
attribute [local congr] vc_congr evOps_congr evTab_congr bind_congr condK_congr tabK_congr
def in0 (v : Int) : Bool := decide (0 ≤ v) && decide (v ≤ 1099511627776)
def fn101 : Fn := { a := .pair tI .unit, r := .pair .bool .unit, pre := fun _ => True, f := fun x => (in0 x.1, ()) }
theorem h101  : Holds Try.prog 101 (fn101) := by
  refine Holds.of_vc (T := []) (TT := ttL) (rowAt := []) (c := c101) (ros := [.t 2]) (.nil _) mixed Try.func101 (by decide +kernel) (by rfl) comp101 (by kernel_rfl) rfl rfl (fun h => by cases h) ?_
  rintro ⟨(v : Int), _⟩ hpre
  simp only [fn101] at hpre ⊢
  simp only [c101, go_sem, reduceIte, Nat.reduceBEq, Nat.reduceMul, reduceCtorEq, Nat.reduceAdd, Nat.reduceEqDiff, decide_eq_true_eq, decide_eq_false_iff_not, Bool.not_eq_true', Bool.not_eq_false', Bool.and_eq_true, Bool.or_eq_true, Bool.and_eq_false_iff, Bool.or_eq_false_iff, Bool.cond_true_left, Bool.cond_false_right, Bool.cond_true_right, Bool.cond_false_left, Bool.or_false, Bool.and_true, in0]
theorem in0_eq (v : Int) : in0 v = inB v 0 MM := rfl
theorem inB_iff {v a b : Int} : inB v a b = true ↔ a ≤ v ∧ v ≤ b := by unfold inB; simp only [Bool.and_eq_true, Bool.or_eq_true, decide_eq_true_eq, decide_eq_false_iff_not, Bool.and_eq_false_iff, Bool.or_eq_false_iff, Bool.not_eq_true', Bool.not_eq_false']
theorem any_iff {α : Type} {d : α} {l : List α} {p : α → Bool} : (!(l.any fun v => !p v)) = true ↔ ∀ j, j < l.length → p (l.getD j d) = true := by
  rw [Bool.not_eq_true', List.any_eq_false]
  refine ⟨fun h j hj => ?_, fun h x hx => ?_⟩
  · have := h _ (List.getElem_mem hj)
    rw [List.getD_eq_getElem?_getD, List.getElem?_eq_getElem hj]
    simpa using this
  · obtain ⟨j, hj, rfl⟩ := List.getElem_of_mem hx
    have := h j hj
    rw [List.getD_eq_getElem?_getD, List.getElem?_eq_getElem hj] at this
    simpa using this
theorem eachB_iff {l : List Int} {a b : Int} : eachB l a b = true ↔ ∀ j, j < l.length → inB (l.getD j (dflt tI)) a b = true := any_iff
theorem checkA_iff {n : Node} : checkA n = true ↔ 1 ≤ nNodes n ∧ nNodes n ≤ 5 ∧ 0 ≤ nId n ∧ nId n < nNodes n ∧ ((nVotes n).length : Int) = nNodes n ∧ ((nNext n).length : Int) = nNodes n ∧ ((nMatch n).length : Int) = nNodes n := by
  unfold checkA inB; simp only [Bool.and_eq_true, Bool.or_eq_true, decide_eq_true_eq, decide_eq_false_iff_not, Bool.and_eq_false_iff, Bool.or_eq_false_iff, Bool.not_eq_true', Bool.not_eq_false']; dsimp only [den, nId, nNodes, nTerm, nVote, nBase, nBT, nSnap, nLog, nRole, nLead, nCommit, nVotes, nNext, nMatch, nClock, mKind, mFrom, mTo, mTerm, mIndex, mAt, mYes, mCommit, mEntries, mSnap, eTerm, eCmd, mkN, mkM, mkE, last, inR, sm, lastT] at *; omega
theorem checkB_iff {n : Node} : checkB n = true ↔ in0 (nTerm n) = true ∧ in0 (nBase n) = true ∧ in0 (nBT n) = true ∧ in0 (nCommit n) = true ∧ in0 (nClock n) = true ∧ -1 ≤ nVote n ∧ nVote n < nNodes n ∧ -1 ≤ nLead n ∧ nLead n < nNodes n ∧ 0 ≤ nRole n ∧ nRole n ≤ 2 := by
  unfold checkB eachB
  simp only [List.any_cons, List.any_nil, Bool.or_false, Bool.not_or, Bool.not_not, Bool.and_eq_true, ← in0_eq, inB_iff]
  have e : ∀ x : Int, x ≤ nNodes n - 1 ↔ x < nNodes n := fun x => by dsimp only [den, nId, nNodes, nTerm, nVote, nBase, nBT, nSnap, nLog, nRole, nLead, nCommit, nVotes, nNext, nMatch, nClock, mKind, mFrom, mTo, mTerm, mIndex, mAt, mYes, mCommit, mEntries, mSnap, eTerm, eCmd, mkN, mkM, mkE, last, inR, sm, lastT] at *; omega
  simp only [e, and_assoc]
theorem checkC_iff {n : Node} : checkC n = true ↔ nBase n ≤ nCommit n ∧ nCommit n ≤ last n ∧ (∀ j, j < (nNext n).length → inB ((nNext n).getD j (dflt tI)) 1 MM = true) ∧ (∀ j, j < (nMatch n).length → inB ((nMatch n).getD j (dflt tI)) 0 MM = true) ∧ (∀ j, j < (nLog n).length → inB ((nLog n).getD j (dflt tEntry)).1 0 (nTerm n) = true) := by
  unfold checkC
  rw [Bool.and_eq_true, Bool.and_eq_true, Bool.and_eq_true, inB_iff, eachB_iff, eachB_iff, any_iff (d := dflt tEntry), and_assoc, and_assoc, and_assoc]
theorem checkN_no {n : Node} (h : checkA n = true → checkB n = true → checkC n = true → False) : false = checkN n := by
  cases hc : checkN n with
  | false => rfl
  | true =>
    unfold checkN at hc
    rw [Bool.and_eq_true, Bool.and_eq_true] at hc
    exact (h hc.1.1 hc.1.2 hc.2).elim
theorem checkN_yes {n : Node} (h1 : checkA n = true) (h2 : checkB n = true) (h3 : checkC n = true) : true = checkN n := by
  unfold checkN; rw [h1, h2, h3]; rfl
theorem t_f {b : Bool} (h : b = true) (h' : b = false) : False := by rw [h] at h'; cases h'
def fn47 : Fn := { a := .pair tNode .unit, r := .pair .bool .unit, pre := fun x => InR .i64 (last x.1) ∧ smallL (nLog x.1) ∧ smallL (nNext x.1) ∧ smallL (nMatch x.1), f := fun x => (checkN x.1, ()) }
theorem h47  : Holds Try.prog 47 (fn47) := by
  refine Holds.of_vc (T := [(101, fn101), (30, fn30)]) (TT := ttL) (rowAt := []) (c := c47) (ros := [.t 2]) (.cons _ h101 (.cons _ h30 (.nil _))) mixed Try.func47 (by decide +kernel) (by rfl) comp47 (by kernel_rfl) rfl rfl (fun h => by cases h) ?_
  rintro ⟨(n : Node), _⟩ hpre
  simp only [fn47] at hpre ⊢
  simp (maxSteps := 10000000) only [c47, fn101, fn30, go_sem, reduceIte, Nat.reduceBEq, Nat.reduceMul, reduceCtorEq, Nat.reduceAdd, Nat.reduceEqDiff, decide_eq_true_eq, decide_eq_false_iff_not, Bool.not_eq_true', Bool.not_eq_false', Bool.and_eq_true, Bool.or_eq_true, Bool.and_eq_false_iff, Bool.or_eq_false_iff, Bool.cond_true_left, Bool.cond_false_right, Bool.cond_true_right, Bool.cond_false_left, Bool.or_false, Bool.and_true, inR]
  refine ⟨fun h => ?_, fun h => ⟨fun _ => hpre.1, by rfl, fun h2 => ?_, fun h2 => ?_⟩⟩
  · exact checkN_no fun hA _ _ => by rw [checkA_iff] at hA; dsimp only [den, nId, nNodes, nTerm, nVote, nBase, nBT, nSnap, nLog, nRole, nLead, nCommit, nVotes, nNext, nMatch, nClock, mKind, mFrom, mTo, mTerm, mIndex, mAt, mYes, mCommit, mEntries, mSnap, eTerm, eCmd, mkN, mkM, mkE, last, inR, sm, lastT] at *; omega
  · refine checkN_no fun hA hB hC => ?_
    rw [checkA_iff] at hA
    rw [checkB_iff] at hB
    rw [checkC_iff] at hC
    obtain ⟨b1, b2, b3, b4, b5, b6⟩ := hB
    have hC1 := hC.1
    have hC2 := hC.2.1
    clear hC
    rcases h2 with (((((((((((h2 | h2) | h2) | h2) | h2) | h2) | h2) | h2) | h2) | h2) | h2) | h2) | h2
    · exact t_f b1 h2
    · exact t_f b2 h2
    · exact t_f b3 h2
    · exact t_f b4 h2
    · exact t_f b5 h2
    all_goals (clear b1 b2 b3 b4 b5; dsimp only [den, nId, nNodes, nTerm, nVote, nBase, nBT, nSnap, nLog, nRole, nLead, nCommit, nVotes, nNext, nMatch, nClock, mKind, mFrom, mTo, mTerm, mIndex, mAt, mYes, mCommit, mEntries, mSnap, eTerm, eCmd, mkN, mkM, mkE, last, inR, sm, lastT] at *; omega)
  have hA : checkA n = true := by rw [checkA_iff]; dsimp only [den, nId, nNodes, nTerm, nVote, nBase, nBT, nSnap, nLog, nRole, nLead, nCommit, nVotes, nNext, nMatch, nClock, mKind, mFrom, mTo, mTerm, mIndex, mAt, mYes, mCommit, mEntries, mSnap, eTerm, eCmd, mkN, mkM, mkE, last, inR, sm, lastT] at *; omega
  have hB : checkB n = true := by
    obtain ⟨⟨⟨⟨⟨⟨⟨⟨⟨⟨⟨⟨c1, c2⟩, c3⟩, c4⟩, c5⟩, c6⟩, c7⟩, c8⟩, c9⟩, c10⟩, c11⟩, c12⟩, c13⟩ := h2
    rw [checkB_iff]
    refine ⟨c1, c2, c3, c4, c5, ?_⟩
    clear c1 c2 c3 c4 c5
    dsimp only [den, nId, nNodes, nTerm, nVote, nBase, nBT, nSnap, nLog, nRole, nLead, nCommit, nVotes, nNext, nMatch, nClock, mKind, mFrom, mTo, mTerm, mIndex, mAt, mYes, mCommit, mEntries, mSnap, eTerm, eCmd, mkN, mkM, mkE, last, inR, sm, lastT] at *; omega
  have hC1 : nBase n ≤ nCommit n := by have := h2.1.2; dsimp only [den, nId, nNodes, nTerm, nVote, nBase, nBT, nSnap, nLog, nRole, nLead, nCommit, nVotes, nNext, nMatch, nClock, mKind, mFrom, mTo, mTerm, mIndex, mAt, mYes, mCommit, mEntries, mSnap, eTerm, eCmd, mkN, mkM, mkE, last, inR, sm, lastT] at *; omega
  have hC2 : nCommit n ≤ last n := by have := h2.2; dsimp only [den, nId, nNodes, nTerm, nVote, nBase, nBT, nSnap, nLog, nRole, nLead, nCommit, nVotes, nNext, nMatch, nClock, mKind, mFrom, mTo, mTerm, mIndex, mAt, mYes, mCommit, mEntries, mSnap, eTerm, eCmd, mkN, mkM, mkE, last, inR, sm, lastT] at *; omega
  clear h h2
  have hA' := checkA_iff.1 hA
  refine loop_rule (β := Nat) (fun i => ⟨[(1, .ptr 1 0), (3, .int .i64 i)], [(1, .box (cellsA tNode n []))]⟩) (fun i => (i : Int) ≤ nNodes n ∧ ∀ j, j < i → inB ((nNext n).getD j (dflt tI)) 1 MM = true ∧ inB ((nMatch n).getD j (dflt tI)) 0 MM = true) (fun i => (nNodes n).toNat - i) 0 ?_ ?_ ?_
  · refine Ent_of [(1, 1)] rfl ?_ ?_
    · simp only [go_sem, reduceIte, Nat.reduceBEq, Nat.reduceMul, reduceCtorEq, Nat.reduceAdd, Nat.reduceEqDiff, decide_eq_true_eq, decide_eq_false_iff_not, Bool.not_eq_true', Bool.not_eq_false', Bool.and_eq_true, Bool.or_eq_true, Bool.and_eq_false_iff, Bool.or_eq_false_iff, Bool.cond_true_left, Bool.cond_false_right, Bool.cond_true_right, Bool.cond_false_left, Bool.or_false, Bool.and_true]
    · simp only [go_sem, reduceIte, Nat.reduceBEq, Nat.reduceMul, reduceCtorEq, Nat.reduceAdd, Nat.reduceEqDiff, decide_eq_true_eq, decide_eq_false_iff_not, Bool.not_eq_true', Bool.not_eq_false', Bool.and_eq_true, Bool.or_eq_true, Bool.and_eq_false_iff, Bool.or_eq_false_iff, Bool.cond_true_left, Bool.cond_false_right, Bool.cond_true_right, Bool.cond_false_left, Bool.or_false, Bool.and_true]
      trivial
  · exact ⟨by dsimp only [den, nId, nNodes, nTerm, nVote, nBase, nBT, nSnap, nLog, nRole, nLead, nCommit, nVotes, nNext, nMatch, nClock, mKind, mFrom, mTo, mTerm, mIndex, mAt, mYes, mCommit, mEntries, mSnap, eTerm, eCmd, mkN, mkM, mkE, last, inR, sm, lastT] at *; omega, fun j hj => absurd hj (Nat.not_lt_zero j)⟩
  rintro i ⟨hi, hk⟩
  simp only [c47, fn101, fn30, go_sem, reduceIte, Nat.reduceBEq, Nat.reduceMul, reduceCtorEq, Nat.reduceAdd, Nat.reduceEqDiff, decide_eq_true_eq, decide_eq_false_iff_not, Bool.not_eq_true', Bool.not_eq_false', Bool.and_eq_true, Bool.or_eq_true, Bool.and_eq_false_iff, Bool.or_eq_false_iff, Bool.cond_true_left, Bool.cond_false_right, Bool.cond_true_right, Bool.cond_false_left, Bool.or_false, Bool.and_true, inR]
  have hil : i < (nNodes n).toNat → i < (nNext n).length ∧ i < (nMatch n).length := fun h => by
    obtain ⟨-, -, -, -, -, h1, h2⟩ := hA'
    dsimp only [den, nId, nNodes, nTerm, nVote, nBase, nBT, nSnap, nLog, nRole, nLead, nCommit, nVotes, nNext, nMatch, nClock, mKind, mFrom, mTo, mTerm, mIndex, mAt, mYes, mCommit, mEntries, mSnap, eTerm, eCmd, mkN, mkM, mkE, last, inR, sm, lastT] at *; omega
  refine ⟨fun h => ?_, fun h => ?_⟩
  · have hl := hil (by dsimp only [den, nId, nNodes, nTerm, nVote, nBase, nBT, nSnap, nLog, nRole, nLead, nCommit, nVotes, nNext, nMatch, nClock, mKind, mFrom, mTo, mTerm, mIndex, mAt, mYes, mCommit, mEntries, mSnap, eTerm, eCmd, mkN, mkM, mkE, last, inR, sm, lastT] at *; omega)
    have hb : i ≤ 5 := by dsimp only [den, nId, nNodes, nTerm, nVote, nBase, nBT, nSnap, nLog, nRole, nLead, nCommit, nVotes, nNext, nMatch, nClock, mKind, mFrom, mTo, mTerm, mIndex, mAt, mYes, mCommit, mEntries, mSnap, eTerm, eCmd, mkN, mkM, mkE, last, inR, sm, lastT] at *; omega
    refine ⟨by dsimp only [den, nId, nNodes, nTerm, nVote, nBase, nBT, nSnap, nLog, nRole, nLead, nCommit, nVotes, nNext, nMatch, nClock, mKind, mFrom, mTo, mTerm, mIndex, mAt, mYes, mCommit, mEntries, mSnap, eTerm, eCmd, mkN, mkM, mkE, last, inR, sm, lastT] at *; omega, fun _ => by dsimp only [den, nId, nNodes, nTerm, nVote, nBase, nBT, nSnap, nLog, nRole, nLead, nCommit, nVotes, nNext, nMatch, nClock, mKind, mFrom, mTo, mTerm, mIndex, mAt, mYes, mCommit, mEntries, mSnap, eTerm, eCmd, mkN, mkM, mkE, last, inR, sm, lastT] at *; omega, fun _ => by dsimp only [den, nId, nNodes, nTerm, nVote, nBase, nBT, nSnap, nLog, nRole, nLead, nCommit, nVotes, nNext, nMatch, nClock, mKind, mFrom, mTo, mTerm, mIndex, mAt, mYes, mCommit, mEntries, mSnap, eTerm, eCmd, mkN, mkM, mkE, last, inR, sm, lastT] at *; omega, fun h2 => checkN_no fun _ _ hC => ?_, fun h2 => ⟨by omega, Again.intro (i + 1) (Ent_of [(1, 1)] rfl ?_ ?_) ⟨by dsimp only [den, nId, nNodes, nTerm, nVote, nBase, nBT, nSnap, nLog, nRole, nLead, nCommit, nVotes, nNext, nMatch, nClock, mKind, mFrom, mTo, mTerm, mIndex, mAt, mYes, mCommit, mEntries, mSnap, eTerm, eCmd, mkN, mkM, mkE, last, inR, sm, lastT] at *; omega, fun j hj => ?_⟩ (show (nNodes n).toNat - (i + 1) < (nNodes n).toNat - i by dsimp only [den, nId, nNodes, nTerm, nVote, nBase, nBT, nSnap, nLog, nRole, nLead, nCommit, nVotes, nNext, nMatch, nClock, mKind, mFrom, mTo, mTerm, mIndex, mAt, mYes, mCommit, mEntries, mSnap, eTerm, eCmd, mkN, mkM, mkE, last, inR, sm, lastT] at *; omega)⟩⟩
    · rw [checkC_iff] at hC
      have k1 := hC.2.2.1 i hl.1
      have k2 := hC.2.2.2.1 i hl.2
      rw [inB_iff] at k1
      rcases h2 with h2 | h2
      · unfold MM at k1; dsimp only [den, nId, nNodes, nTerm, nVote, nBase, nBT, nSnap, nLog, nRole, nLead, nCommit, nVotes, nNext, nMatch, nClock, mKind, mFrom, mTo, mTerm, mIndex, mAt, mYes, mCommit, mEntries, mSnap, eTerm, eCmd, mkN, mkM, mkE, last, inR, sm, lastT] at *; omega
      · exact t_f k2 h2
    · simp only [go_sem, reduceIte, Nat.reduceBEq, Nat.reduceMul, reduceCtorEq, Nat.reduceAdd, Nat.reduceEqDiff, decide_eq_true_eq, decide_eq_false_iff_not, Bool.not_eq_true', Bool.not_eq_false', Bool.and_eq_true, Bool.or_eq_true, Bool.and_eq_false_iff, Bool.or_eq_false_iff, Bool.cond_true_left, Bool.cond_false_right, Bool.cond_true_right, Bool.cond_false_left, Bool.or_false, Bool.and_true]
    · simp only [go_sem, reduceIte, Nat.reduceBEq, Nat.reduceMul, reduceCtorEq, Nat.reduceAdd, Nat.reduceEqDiff, decide_eq_true_eq, decide_eq_false_iff_not, Bool.not_eq_true', Bool.not_eq_false', Bool.and_eq_true, Bool.or_eq_true, Bool.and_eq_false_iff, Bool.or_eq_false_iff, Bool.cond_true_left, Bool.cond_false_right, Bool.cond_true_right, Bool.cond_false_left, Bool.or_false, Bool.and_true]
      omega
    · rcases Nat.lt_or_ge j i with hj2 | hj2
      · exact hk j hj2
      · rw [show j = i by omega]
        refine ⟨inB_iff.2 ?_, h2.2⟩
        have := h2.1
        unfold MM; dsimp only [den, nId, nNodes, nTerm, nVote, nBase, nBT, nSnap, nLog, nRole, nLead, nCommit, nVotes, nNext, nMatch, nClock, mKind, mFrom, mTo, mTerm, mIndex, mAt, mYes, mCommit, mEntries, mSnap, eTerm, eCmd, mkN, mkM, mkE, last, inR, sm, lastT] at *; omega
  have hC3 : ∀ j, j < (nNext n).length → inB ((nNext n).getD j (dflt tI)) 1 MM = true := fun j hj => (hk j (by dsimp only [den, nId, nNodes, nTerm, nVote, nBase, nBT, nSnap, nLog, nRole, nLead, nCommit, nVotes, nNext, nMatch, nClock, mKind, mFrom, mTo, mTerm, mIndex, mAt, mYes, mCommit, mEntries, mSnap, eTerm, eCmd, mkN, mkM, mkE, last, inR, sm, lastT] at *; omega)).1
  have hC4 : ∀ j, j < (nMatch n).length → inB ((nMatch n).getD j (dflt tI)) 0 MM = true := fun j hj => (hk j (by dsimp only [den, nId, nNodes, nTerm, nVote, nBase, nBT, nSnap, nLog, nRole, nLead, nCommit, nVotes, nNext, nMatch, nClock, mKind, mFrom, mTo, mTerm, mIndex, mAt, mYes, mCommit, mEntries, mSnap, eTerm, eCmd, mkN, mkM, mkE, last, inR, sm, lastT] at *; omega)).2
  have hpl : (nLog n).length ≤ 1048576 := hpre.2.1
  clear hk hi h hil
  refine loop_rule (β := Nat) (fun i => ⟨[(1, .ptr 1 0), (4, .int .i64 i)], [(1, .box (cellsA tNode n []))]⟩) (fun i => i ≤ (nLog n).length ∧ ∀ j, j < i → inB ((nLog n).getD j (dflt tEntry)).1 0 (nTerm n) = true) (fun i => (nLog n).length - i) 0 ?_ ?_ ?_
  · refine Ent_of [(1, 1)] rfl ?_ ?_
    · simp only [go_sem, reduceIte, Nat.reduceBEq, Nat.reduceMul, reduceCtorEq, Nat.reduceAdd, Nat.reduceEqDiff, decide_eq_true_eq, decide_eq_false_iff_not, Bool.not_eq_true', Bool.not_eq_false', Bool.and_eq_true, Bool.or_eq_true, Bool.and_eq_false_iff, Bool.or_eq_false_iff, Bool.cond_true_left, Bool.cond_false_right, Bool.cond_true_right, Bool.cond_false_left, Bool.or_false, Bool.and_true]
    · simp only [go_sem, reduceIte, Nat.reduceBEq, Nat.reduceMul, reduceCtorEq, Nat.reduceAdd, Nat.reduceEqDiff, decide_eq_true_eq, decide_eq_false_iff_not, Bool.not_eq_true', Bool.not_eq_false', Bool.and_eq_true, Bool.or_eq_true, Bool.and_eq_false_iff, Bool.or_eq_false_iff, Bool.cond_true_left, Bool.cond_false_right, Bool.cond_true_right, Bool.cond_false_left, Bool.or_false, Bool.and_true]
      trivial
  · exact ⟨Nat.zero_le _, fun j hj => absurd hj (Nat.not_lt_zero j)⟩
  rintro i ⟨hi, hk⟩
  simp only [c47, fn101, fn30, go_sem, reduceIte, Nat.reduceBEq, Nat.reduceMul, reduceCtorEq, Nat.reduceAdd, Nat.reduceEqDiff, decide_eq_true_eq, decide_eq_false_iff_not, Bool.not_eq_true', Bool.not_eq_false', Bool.and_eq_true, Bool.or_eq_true, Bool.and_eq_false_iff, Bool.or_eq_false_iff, Bool.cond_true_left, Bool.cond_false_right, Bool.cond_true_right, Bool.cond_false_left, Bool.or_false, Bool.and_true, inR]
  refine ⟨fun h => ⟨by omega, fun _ => by omega, by rfl, fun h2 => checkN_no fun _ _ hC => ?_, fun h2 => ⟨by omega, Again.intro (i + 1) (Ent_of [(1, 1)] rfl ?_ ?_) ⟨by dsimp only [den, nId, nNodes, nTerm, nVote, nBase, nBT, nSnap, nLog, nRole, nLead, nCommit, nVotes, nNext, nMatch, nClock, mKind, mFrom, mTo, mTerm, mIndex, mAt, mYes, mCommit, mEntries, mSnap, eTerm, eCmd, mkN, mkM, mkE, last, inR, sm, lastT] at *; omega, fun j hj => ?_⟩ (show (nLog n).length - (i + 1) < (nLog n).length - i by dsimp only [den, nId, nNodes, nTerm, nVote, nBase, nBT, nSnap, nLog, nRole, nLead, nCommit, nVotes, nNext, nMatch, nClock, mKind, mFrom, mTo, mTerm, mIndex, mAt, mYes, mCommit, mEntries, mSnap, eTerm, eCmd, mkN, mkM, mkE, last, inR, sm, lastT] at *; omega)⟩⟩, fun h => ?_⟩
  · rw [checkC_iff] at hC
    have k1 := hC.2.2.2.2 i (by dsimp only [den, nId, nNodes, nTerm, nVote, nBase, nBT, nSnap, nLog, nRole, nLead, nCommit, nVotes, nNext, nMatch, nClock, mKind, mFrom, mTo, mTerm, mIndex, mAt, mYes, mCommit, mEntries, mSnap, eTerm, eCmd, mkN, mkM, mkE, last, inR, sm, lastT] at *; omega)
    rw [inB_iff] at k1
    rcases h2 with h2 | h2
    · dsimp only [den, nId, nNodes, nTerm, nVote, nBase, nBT, nSnap, nLog, nRole, nLead, nCommit, nVotes, nNext, nMatch, nClock, mKind, mFrom, mTo, mTerm, mIndex, mAt, mYes, mCommit, mEntries, mSnap, eTerm, eCmd, mkN, mkM, mkE, last, inR, sm, lastT] at *; omega
    · dsimp only [den, nId, nNodes, nTerm, nVote, nBase, nBT, nSnap, nLog, nRole, nLead, nCommit, nVotes, nNext, nMatch, nClock, mKind, mFrom, mTo, mTerm, mIndex, mAt, mYes, mCommit, mEntries, mSnap, eTerm, eCmd, mkN, mkM, mkE, last, inR, sm, lastT] at *; omega
  · simp only [go_sem, reduceIte, Nat.reduceBEq, Nat.reduceMul, reduceCtorEq, Nat.reduceAdd, Nat.reduceEqDiff, decide_eq_true_eq, decide_eq_false_iff_not, Bool.not_eq_true', Bool.not_eq_false', Bool.and_eq_true, Bool.or_eq_true, Bool.and_eq_false_iff, Bool.or_eq_false_iff, Bool.cond_true_left, Bool.cond_false_right, Bool.cond_true_right, Bool.cond_false_left, Bool.or_false, Bool.and_true]
  · simp only [go_sem, reduceIte, Nat.reduceBEq, Nat.reduceMul, reduceCtorEq, Nat.reduceAdd, Nat.reduceEqDiff, decide_eq_true_eq, decide_eq_false_iff_not, Bool.not_eq_true', Bool.not_eq_false', Bool.and_eq_true, Bool.or_eq_true, Bool.and_eq_false_iff, Bool.or_eq_false_iff, Bool.cond_true_left, Bool.cond_false_right, Bool.cond_true_right, Bool.cond_false_left, Bool.or_false, Bool.and_true]
    omega
  · rcases Nat.lt_or_ge j i with hj2 | hj2
    · exact hk j hj2
    · rw [show j = i by omega]
      exact inB_iff.2 (by dsimp only [den, nId, nNodes, nTerm, nVote, nBase, nBT, nSnap, nLog, nRole, nLead, nCommit, nVotes, nNext, nMatch, nClock, mKind, mFrom, mTo, mTerm, mIndex, mAt, mYes, mCommit, mEntries, mSnap, eTerm, eCmd, mkN, mkM, mkE, last, inR, sm, lastT] at *; omega)
  · exact checkN_yes hA hB (checkC_iff.2 ⟨hC1, hC2, hC3, hC4, fun j hj => hk j (by dsimp only [den, nId, nNodes, nTerm, nVote, nBase, nBT, nSnap, nLog, nRole, nLead, nCommit, nVotes, nNext, nMatch, nClock, mKind, mFrom, mTo, mTerm, mIndex, mAt, mYes, mCommit, mEntries, mSnap, eTerm, eCmd, mkN, mkM, mkE, last, inR, sm, lastT] at *; omega)⟩)
end Go.AM

set_option maxRecDepth 100000
set_option maxHeartbeats 40000000
set_option linter.unusedSimpArgs false
namespace Go.AM
open Go.Proofs
attribute [local congr] vc_congr evOps_congr evTab_congr bind_congr condK_congr tabK_congr
def CI (n : Node) : Prop := (0 ≤ nBT n ∧ nBT n ≤ nTerm n) ∧ (-1 ≤ nVote n ∧ nVote n < nNodes n) ∧ (-1 ≤ nLead n ∧ nLead n < nNodes n) ∧ (0 ≤ nRole n ∧ nRole n ≤ 2) ∧ (0 ≤ nClock n ∧ nClock n ≤ MM) ∧ (∀ v ∈ nNext n, (1 : Int) ≤ v ∧ v ≤ MM) ∧ (∀ v ∈ nMatch n, (0 : Int) ≤ v ∧ v ≤ MM)
theorem termV_bd {n : Node} {i : Int} (hE : EO n) (hb : 0 ≤ nBT n ∧ nBT n ≤ nTerm n) : 0 ≤ termV n i ∧ termV n i ≤ nTerm n := by
  unfold termV
  split
  · exact hb
  split
  · have h0 := hE.1
    rw [List.getD_eq_getElem?_getD]
    rcases Nat.lt_or_ge (i - nBase n - 1).toNat (nLog n).length with h | h
    · rw [List.getElem?_eq_getElem h]
      exact hE.2 _ (List.getElem_mem h)
    · rw [List.getElem?_eq_none h]
      exact ⟨Int.le_refl 0, h0⟩
  · exact ⟨Int.le_refl 0, hE.1⟩
theorem CI_step (n : Node) (v : Int) (hM : MI 40 n) (hE : EO n) (h : CI n) : CI (madeStep n v) := by
  obtain ⟨h1, h2, h3, h4, h5, h6, h7⟩ := h
  simp only [MI] at hM
  have hn : 1 ≤ nNodes n := hM.1
  have hl : last n ≤ 40 := by omega
  have hl0 : 0 ≤ last n := by omega
  clear hM
  have g1 := Int.emod_nonneg (mkK v / 12) (show nNodes n + 1 ≠ 0 by omega)
  have g2 := Int.emod_lt_of_pos (mkK v / 12) (show 0 < nNodes n + 1 by omega)
  have g3 := Int.emod_nonneg (mkK v / 36) (show nNodes n + 1 ≠ 0 by omega)
  have g4 := Int.emod_lt_of_pos (mkK v / 36) (show 0 < nNodes n + 1 by omega)
  have g5 := Int.emod_nonneg (mkK v / 60) (show last n + 2 ≠ 0 by omega)
  have g6 := Int.emod_lt_of_pos (mkK v / 60) (show 0 < last n + 2 by omega)
  have g7 := Int.emod_nonneg (mkK v / 600) (show last n + 1 ≠ 0 by omega)
  have g8 := Int.emod_lt_of_pos (mkK v / 600) (show 0 < last n + 1 by omega)
  unfold madeStep
  split
  · exact ⟨⟨h1.1, show nBT n ≤ nTerm n + 1 by omega⟩, ⟨show -1 ≤ mkK v / 12 % (nNodes n + 1) - 1 by omega, show mkK v / 12 % (nNodes n + 1) - 1 < nNodes n by omega⟩, h3, h4, h5, h6, h7⟩
  split
  · exact ⟨h1, h2, h3, h4, h5, h6, h7⟩
  split
  · unfold cutN
    split
    · exact ⟨h1, h2, h3, h4, h5, h6, h7⟩
    · exact ⟨termV_bd hE h1, h2, h3, h4, h5, h6, h7⟩
  split
  · exact ⟨h1, h2, ⟨show -1 ≤ mkK v / 36 % (nNodes n + 1) - 1 by omega, show mkK v / 36 % (nNodes n + 1) - 1 < nNodes n by omega⟩, ⟨show 0 ≤ mkK v / 12 % 3 by omega, show mkK v / 12 % 3 ≤ 2 by omega⟩, h5, h6, h7⟩
  split
  · refine ⟨h1, h2, h3, h4, h5, fun w hw => ?_, fun w hw => ?_⟩
    · rcases List.mem_or_eq_of_mem_set hw with hw | hw
      · exact h6 w hw
      · rw [hw]; unfold MM; omega
    · rcases List.mem_or_eq_of_mem_set hw with hw | hw
      · exact h7 w hw
      · rw [hw]; unfold MM; omega
  split
  · exact ⟨h1, h2, h3, h4, ⟨show 0 ≤ mkK v / 12 % 30 by omega, show mkK v / 12 % 30 ≤ MM by unfold MM; omega⟩, h6, h7⟩
  · exact ⟨h1, h2, h3, h4, h5, h6, h7⟩
theorem CI_new (id nodes : Int) : CI (newN id nodes) := by
  refine ⟨⟨Int.le_refl 0, Int.le_refl 0⟩, ⟨Int.le_refl (-1), ?_⟩, ⟨Int.le_refl (-1), ?_⟩, ⟨Int.le_refl 0, show (0 : Int) ≤ 2 by decide⟩, ⟨Int.le_refl 0, show (0 : Int) ≤ MM by decide⟩, fun w hw => ?_, fun w hw => ?_⟩
  · show -1 < min (max nodes 1) 5; omega
  · show -1 < min (max nodes 1) 5; omega
  · have := List.eq_of_mem_replicate hw; rw [this]; decide
  · have := List.eq_of_mem_replicate hw; rw [this]; decide
theorem check_of {n : Node} (hM : MI 40 n) (hE : EO n) (h : CI n) : checkN n = true := by
  have hM2 := hM
  simp only [MI] at hM2
  obtain ⟨h1, h2, h3, h4, h5, h6, h7⟩ := h
  have mem : ∀ {α : Type} {l : List α} {d : α} {j : Nat}, j < l.length → l.getD j d ∈ l := fun {α l d j} hj => by
    rw [List.getD_eq_getElem?_getD, List.getElem?_eq_getElem hj]
    exact List.getElem_mem hj
  have z : ∀ {x : Int}, 0 ≤ x → x ≤ 40 → in0 x = true := fun {x} a b => by unfold in0; simp only [Bool.and_eq_true, Bool.or_eq_true, decide_eq_true_eq, decide_eq_false_iff_not, Bool.and_eq_false_iff, Bool.or_eq_false_iff, Bool.not_eq_true', Bool.not_eq_false']; omega
  symm
  refine checkN_yes ?_ ?_ ?_
  · rw [checkA_iff]; dsimp only [den, nId, nNodes, nTerm, nVote, nBase, nBT, nSnap, nLog, nRole, nLead, nCommit, nVotes, nNext, nMatch, nClock, mKind, mFrom, mTo, mTerm, mIndex, mAt, mYes, mCommit, mEntries, mSnap, eTerm, eCmd, mkN, mkM, mkE, last, inR, sm, lastT] at *; omega
  · rw [checkB_iff]
    refine ⟨z (by omega) (by omega), z (by omega) (by omega), z (by omega) (by omega), z (by omega) (by omega), ?_, h2.1, h2.2, h3.1, h3.2, h4.1, h4.2⟩
    have := h5
    unfold in0; unfold MM at this; simp only [Bool.and_eq_true, Bool.or_eq_true, decide_eq_true_eq, decide_eq_false_iff_not, Bool.and_eq_false_iff, Bool.or_eq_false_iff, Bool.not_eq_true', Bool.not_eq_false']; dsimp only [den, nId, nNodes, nTerm, nVote, nBase, nBT, nSnap, nLog, nRole, nLead, nCommit, nVotes, nNext, nMatch, nClock, mKind, mFrom, mTo, mTerm, mIndex, mAt, mYes, mCommit, mEntries, mSnap, eTerm, eCmd, mkN, mkM, mkE, last, inR, sm, lastT] at *; omega
  · rw [checkC_iff]
    refine ⟨by omega, by omega, fun j hj => inB_iff.2 (h6 _ (mem hj)), fun j hj => inB_iff.2 (h7 _ (mem hj)), fun j hj => inB_iff.2 (hE.2 _ (mem hj))⟩
theorem check_made (l : List Int) (id nodes : Int) : checkN (made l id nodes) = true := by
  unfold made
  have hf : ∀ (l : List Int) (i : Nat) (n : Node), i + l.length ≤ 40 → MI i n → EO n → CI n → checkN (l.foldl madeStep n) = true := by
    intro l
    induction l with
    | nil =>
      intro i n hi hM hE hC
      exact check_of (by simp only [List.foldl_nil, MI] at hM ⊢; simp only [List.length_nil] at hi; omega) hE hC
    | cons v l ih =>
      intro i n hi hM hE hC
      rw [List.length_cons] at hi
      exact ih (i + 1) _ (by omega) (MI_step i n v hM) (EO_step n v hE) (CI_step n v (by simp only [MI] at hM ⊢; omega) hE hC)
  exact hf _ 0 _ (by rw [List.length_take]; omega) (MI_new id nodes) ⟨Int.le_refl 0, fun e he => by cases he⟩ (CI_new id nodes)
end Go.AM

set_option maxRecDepth 100000
set_option maxHeartbeats 40000000
set_option linter.unusedSimpArgs false
namespace Go.AM
open Go.Proofs
attribute [local congr] vc_congr evOps_congr evTab_congr bind_congr condK_congr tabK_congr
def fn60l : Fn := { a := .pair tNode (.pair tI .unit), r := .pair (.list tEntry) .unit, pre := fun x => InR .i64 (x.2.1 - nBase x.1) ∧ InR .i64 (last x.1) ∧ smallL (nLog x.1), f := fun x => (behindN x.1 x.2.1, ()) }
theorem h60l  : Holds Try.prog 60 (fn60l) := by
  refine Holds.of_vc (T := [(30, fn30)]) (TT := ttL) (rowAt := []) (c := c60) (ros := [.t 4]) (.cons _ h30 (.nil _)) mixed Try.func60 (by decide +kernel) (by rfl) comp60 (by kernel_rfl) rfl rfl (fun h => by cases h) ?_
  rintro ⟨(n : Node), (i : Int), _⟩ hpre
  simp only [fn60l] at hpre ⊢
  simp only [c60, fn30, go_sem, reduceIte, Nat.reduceBEq, Nat.reduceMul, reduceCtorEq, Nat.reduceAdd, Nat.reduceEqDiff, decide_eq_true_eq, decide_eq_false_iff_not, Bool.not_eq_true', Bool.not_eq_false', Bool.and_eq_true, Bool.or_eq_true, Bool.and_eq_false_iff, Bool.or_eq_false_iff, Bool.cond_true_left, Bool.cond_false_right, Bool.cond_true_right, Bool.cond_false_left, Bool.or_false, Bool.and_true, inR, behindN]
  dsimp only [den, nId, nNodes, nTerm, nVote, nBase, nBT, nSnap, nLog, nRole, nLead, nCommit, nVotes, nNext, nMatch, nClock, mKind, mFrom, mTo, mTerm, mIndex, mAt, mYes, mCommit, mEntries, mSnap, eTerm, eCmd, mkN, mkM, mkE, last, inR, sm, lastT] at *
  have hl := List.length_drop (i := (max (i - n.2.2.2.2.1) 0).toNat) (l := n.2.2.2.2.2.2.2.1)
  repeat' (first | apply And.intro | intro _)
  all_goals (first | omega | rfl | skip)
  · rw [List.drop_eq_nil_of_le (by omega)]
  · rw [show (max (i - n.2.2.2.2.1) 0).toNat = (i - n.2.2.2.2.1).toNat by omega]
theorem put'_len (m : List E) : ∀ (l : List E) (k : Nat), (put' m k l).length ≤ m.length + l.length := by
  intro l
  induction l with
  | nil => intro k; exact Nat.le_refl _
  | cons e l ih =>
    intro k
    unfold put'
    rw [List.length_cons]
    split
    · have := ih (k + 1); omega
    · rw [List.length_append, List.length_take, List.length_cons]; omega
theorem small_put {n : Node} {p : Int} {e : List E} (h : smallN n) (hl : (nLog n).length ≤ 40) (he : e.length ≤ 20) : smallN (put n p e) := by
  unfold put; split
  · exact h
  · refine ⟨?_, h.2.1, h.2.2.1, h.2.2.2⟩
    have := put'_len (nLog n) e (p - nBase n).toNat
    rw [sm]; show (put' _ _ _).length ≤ _
    omega
theorem small_cut {n : Node} {u : Int} {s : ByteArray} (h : smallN n) : smallN (cutN n u s) := by
  unfold cutN; split
  · exact h
  · refine ⟨?_, h.2.1, h.2.2.1, h.2.2.2⟩
    have := h.1
    rw [sm] at this ⊢; show (List.drop _ _).length ≤ _
    rw [List.length_drop]; omega
theorem small_new (id nodes : Int) : smallN (newN id nodes) := by
  refine ⟨?_, ?_, ?_, ?_⟩
  · rw [sm]; exact Nat.zero_le _
  all_goals
    rw [sm]; show (List.replicate _ _).length ≤ _
    rw [List.length_replicate]; omega
theorem small_wake {id nodes : Int} {h : Hrd} (hl : smallL (hLog h)) : smallN (wakeN id nodes h) :=
  ⟨hl, (small_new id nodes).2.1, (small_new id nodes).2.2.1, (small_new id nodes).2.2.2⟩
def rlogNumbersFn : Fn := { a := .pair (.list tI) (.pair tI (.pair tI (.pair tI (.pair (.list tI) (.pair tI .unit))))), r := .pair .bool .unit, pre := fun x => preS x.1 ∧ InR .i64 x.2.1 ∧ InR .i64 x.2.2.1 ∧ InR .i64 x.2.2.2.1 ∧ preS x.2.2.2.2.1 ∧ InR .i64 x.2.2.2.2.2.1, f := fun _ => (true, ()) }
theorem h12  : Holds Try.prog 12 (rlogNumbersFn) := by
  refine Holds.of_vc (T := [(22, fn22), (23, fn23), (35, fn35), (48, fn48), (29, fn29), (34, fn34), (58, fn58), (51, fn51), (59, fn59), (55, fn55), (46, fn46), (47, fn47), (52, fn52), (30, fn30), (53, fn53), (60, fn60l), (37, fn37), (33, fn33), (62, fn62), (61, fn61), (54, fn54), (63, fn63), (64, fn64), (31, fn31), (49, fn49), (36, fn36)]) (TT := ttL) (rowAt := []) (c := c12) (ros := [.t 12]) (.cons _ h22 (.cons _ h23 (.cons _ h35 (.cons _ h48 (.cons _ h29 (.cons _ h34 (.cons _ h58 (.cons _ h51 (.cons _ h59 (.cons _ h55 (.cons _ h46 (.cons _ h47 (.cons _ h52 (.cons _ h30 (.cons _ h53 (.cons _ h60l (.cons _ h37 (.cons _ h33 (.cons _ h62 (.cons _ h61 (.cons _ h54 (.cons _ h63 (.cons _ h64 (.cons _ h31 (.cons _ h49 (.cons _ h36 (.nil _))))))))))))))))))))))))))) mixed Try.func12 (by decide +kernel) (by rfl) comp12 (by kernel_rfl) rfl rfl (fun h => by cases h) ?_
  rintro ⟨(l : List Int), (id : Int), (nodes : Int), (pv : Int), (es : List Int), (i : Int), _⟩ hpre
  simp only [rlogNumbersFn] at hpre ⊢
  have hck := check_made l id nodes
  simp (maxSteps := 10000000) only [c12, fn22, fn23, fn35, fn48, fn29, fn34, fn58, fn51, fn59, fn55, fn46, fn47, fn52, fn30, fn53, fn60l, fn37, fn33, fn62, fn61, fn54, fn63, fn64, fn31, fn49, fn36, go_sem, reduceIte, Nat.reduceBEq, Nat.reduceMul, reduceCtorEq, Nat.reduceAdd, Nat.reduceEqDiff, decide_eq_true_eq, decide_eq_false_iff_not, Bool.not_eq_true', Bool.not_eq_false', Bool.and_eq_true, Bool.or_eq_true, Bool.and_eq_false_iff, Bool.or_eq_false_iff, Bool.cond_true_left, Bool.cond_false_right, Bool.cond_true_right, Bool.cond_false_left, Bool.or_false, Bool.and_true, inR, eqB_self, fn48, hck, eq_self, decide_true, Bool.true_and, beq_self_eq_true]
  have hM := MI_made l id nodes
  generalize made l id nodes = n at *
  have hsm := small_MI hM (by decide)
  have hlast : last n = nBase n + (nLog n).length := rfl
  have hL : (nLog n).length ≤ 40 := by simp only [MI] at hM; omega
  have hB : 0 ≤ nBase n ∧ nBase n ≤ 40 := by simp only [MI] at hM; omega
  have hT : 0 ≤ nTerm n ∧ nTerm n ≤ 40 := by simp only [MI] at hM; omega
  have ha0 := Int.emod_nonneg pv (show ((nLog n).length : Int) + 4 ≠ 0 by omega)
  have ha1 := Int.emod_lt_of_pos pv (show (0 : Int) < ((nLog n).length : Int) + 4 by omega)
  have hb0 := Int.emod_nonneg i (show ((nLog n).length : Int) + 4 ≠ 0 by omega)
  have hb1 := Int.emod_lt_of_pos i (show (0 : Int) < ((nLog n).length : Int) + 4 by omega)
  have hel := entries_len es (nTerm n)
  have hlen : (n.2.2.2.2.2.2.2.1.length : Int) = (nLog n).length := rfl
  simp only [hlen]
  generalize pv % (((nLog n).length : Int) + 4) = a at *
  generalize i % (((nLog n).length : Int) + 4) = b at *
  have hP := small_put (p := nBase n + a - 1) hsm hL hel
  have hC := small_cut (u := nBase n + b - 1) (s := { data := #[115, 110, 97, 112] }) hsm
  have hN := small_new id nodes
  have hW : smallN (wakeN id nodes (hard n)) := small_wake (h := hard n) hsm.1
  have hD : (behindN n (nBase n + b - 1)).length ≤ 40 := by unfold behindN; rw [List.length_drop]; omega
  have hH : smallL (hLog (hard n)) := hsm.1
  simp only [smallN] at hsm hP hC hN hW
  clear hM hck hpre
  dsimp only [den, nId, nNodes, nTerm, nVote, nBase, nBT, nSnap, nLog, nRole, nLead, nCommit, nVotes, nNext, nMatch, nClock, mKind, mFrom, mTo, mTerm, mIndex, mAt, mYes, mCommit, mEntries, mSnap, eTerm, eCmd, mkN, mkM, mkE, last, inR, sm, lastT] at *
  repeat' (first | apply And.intro | intro _)
  all_goals first | omega | rfl | trace_state
end Go.AM
