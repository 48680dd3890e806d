import Derived.Test.YtbcbgfkojmligaaHV
import Derived.Test.YtbcbgfkojmligaaTX
/- What functions of the program answer, each under the conditions that its contract names. -/
set_option linter.unusedVariables false
set_option linter.unusedSimpArgs false
set_option maxRecDepth 100000
set_option maxHeartbeats 40000000
set_option linter.unusedSimpArgs false
namespace Go.AM
open Go.Proofs
attribute [local congr] vc_congr evOps_congr evTab_congr bind_congr condK_congr tabK_congr
def gv1 (n : Node) (m : Msg) : Node := if given2 n m = true ∧ nRole (given1 n m) = 1 then lead1 (given1 n m) else given1 n m
def gv2 (n : Node) (m : Msg) : List Msg := if given2 n m = true ∧ nRole (given1 n m) = 1 then lead2 (given1 n m) else []
theorem rgN_given {n : Node} {m : Msg} (h : rgN n) : rgN (given1 n m) := by
  have hd := rgN_down (t := mTerm m) h
  unfold given1
  generalize down n (mTerm m) = d at *
  unfold given1'
  split
  · exact hd
  · exact hd
theorem given_last (n : Node) (m : Msg) : last (given1 n m) = last n ∧ nLog (given1 n m) = nLog n := by
  have h1 := last_down n (mTerm m)
  have h2 : nLog (down n (mTerm m)) = nLog n := by unfold down; split <;> rfl
  unfold given1
  generalize down n (mTerm m) = d at *
  unfold given1'
  split
  · exact ⟨h1, h2⟩
  · exact ⟨h1, h2⟩
theorem rgL_given {n : Node} {m : Msg} (h : rgL n) : rgL (given1 n m) := ⟨rgN_given h.1, by rw [(given_last n m).1]; exact h.2.1, by rw [(given_last n m).2]; exact h.2.2⟩
def fn119 : Fn := { a := .pair tNode (.pair tMsg .unit), r := .pair tNode (.pair (.olist tMsg) .unit), pre := fun x => rgL x.1 ∧ smallL (nVotes x.1), f := fun x => (gv1 x.1 x.2.1, gv2 x.1 x.2.1, ()) }
theorem h119  : Holds Try.prog 119 (fn119) := by
  refine Holds.of_vc (T := [(40, fn40), (67, fn67)]) (TT := ttL) (rowAt := []) (c := c119) (ros := [.c 4 15, .t 5]) (.cons _ h40 (.cons _ h67 (.nil _))) mixed Try.func119 (by decide +kernel) (by rfl) comp119 (by kernel_rfl) rfl rfl (fun h => by cases h) ?_
  rintro ⟨(n : Node), (m : Msg), _⟩ hpre
  simp only [fn119] at hpre ⊢
  simp only [c119, fn40, fn67, go_sem, reduceIte, Nat.reduceBEq, Nat.reduceMul, reduceCtorEq, Nat.reduceAdd, Nat.reduceEqDiff, decide_eq_true_eq, decide_eq_false_iff_not, Bool.not_eq_true', Bool.not_eq_false', Bool.and_eq_true, Bool.or_eq_true, Bool.and_eq_false_iff, Bool.or_eq_false_iff, Bool.cond_true_left, Bool.cond_false_right, Bool.cond_true_right, Bool.cond_false_left, Bool.or_false, Bool.and_true, inR]
  have hg := rgL_given (m := m) hpre.1
  refine ⟨⟨hpre.1.1.2.2.2.2.2.1, hpre.1.1.2.2.2.2.2.2.1, hpre.2⟩, fun h => ?_, fun h => ⟨hg, ?_⟩⟩
  · have hn : ¬ (given2 n m = true ∧ nRole (given1 n m) = 1) := fun hc => by
      rcases h with h | h
      · rw [hc.1] at h; cases h
      · exact h hc.2
    exact ⟨(if_neg hn).symm, (if_neg hn).symm⟩
  · exact ⟨(if_pos h).symm, (if_pos h).symm⟩
def step1 (n : Node) (m : Msg) : Node :=
  if rightB m (nNodes n) = true ∧ mTo m = nId n then (if mKind m = 1 then asked1 n m else if mKind m = 2 then gv1 n m else if mKind m = 4 then heard1 n m else take1 n m) else n
def step2 (n : Node) (m : Msg) : List Msg :=
  if rightB m (nNodes n) = true ∧ mTo m = nId n then (if mKind m = 1 then asked2 n m else if mKind m = 2 then gv2 n m else if mKind m = 4 then heard2 n m else take2 n m) else []
def stepOk (n : Node) : Prop := rgL n ∧ smallL (nVotes n) ∧ ∀ i, okAt n i
def fn80 : Fn := { a := .pair tNode (.pair tMsg .unit), r := .pair tNode (.pair (.list tMsg) .unit), pre := fun x => stepOk x.1, f := fun x => (step1 x.1 x.2.1, step2 x.1 x.2.1, ()) }
theorem right_bd {m : Msg} {nodes : Int} (h : rightB m nodes = true) : (1 ≤ mKind m ∧ mKind m ≤ 5) ∧ 0 ≤ mIndex m ∧ mIndex m ≤ 1099511627776 ∧ (mEntries m).length ≤ 20 := by
  unfold rightB inB at h
  simp only [Bool.and_eq_true, decide_eq_true_eq, Bool.not_eq_true', decide_eq_false_iff_not] at h
  obtain ⟨⟨⟨⟨⟨⟨⟨⟨⟨h1, h2⟩, h3⟩, h4⟩, h5⟩, h6⟩, h7⟩, h8⟩, h9⟩, h10⟩ := h
  exact ⟨h1, h6.1, h6.2, by omega⟩
theorem h80  : Holds Try.prog 80 (fn80) := by
  refine Holds.of_vcc (T := [(84, fn84), (25, fn25), (119, fn119), (65, fn65), (74, fn74)]) (TT := ttL) (rowAt := []) (c := c80) (ros := [.c 4 15, .t 5]) (.cons _ h84 (.cons _ h25 (.cons _ h119 (.cons _ h65 (.cons _ h74 (.nil _)))))) mixed Try.func80 (by decide +kernel) (by rfl) comp80 (by kernel_rfl) rfl rfl (fun h => by cases h) ?_
  rintro ⟨(n : Node), (m : Msg), _⟩ hpre
  simp only [fn80] at hpre ⊢
  simp only [c80, fn84, fn25, fn119, fn65, fn74, go_sem, reduceIte, Nat.reduceBEq, Nat.reduceMul, reduceCtorEq, Nat.reduceAdd, Nat.reduceEqDiff, decide_eq_true_eq, decide_eq_false_iff_not, Bool.not_eq_true', Bool.not_eq_false', Bool.and_eq_true, Bool.or_eq_true, Bool.and_eq_false_iff, Bool.or_eq_false_iff, Bool.cond_true_left, Bool.cond_false_right, Bool.cond_true_right, Bool.cond_false_left, Bool.or_false, Bool.and_true, inR]
  generalize hV : vc _ (C.cut c80_26) _ = V
  have hL := hpre.1
  have hR := hL
  simp only [rgL, rgN, sm] at hR
  have hl : last n = nBase n + (nLog n).length := rfl
  have hN : nNodes n = n.2.1 := rfl
  refine ⟨by omega, fun h => ?_, fun h => ?_⟩
  · have hn : ¬ (rightB m (nNodes n) = true ∧ mTo m = nId n) := fun hc => by
      rcases h with h | h
      · rw [show rightB m n.2.1 = true from hc.1] at h; cases h
      · exact h hc.2
    exact ⟨(if_neg hn).symm, (if_neg hn).symm⟩
  have e1 : step1 n m = (if mKind m = 1 then asked1 n m else if mKind m = 2 then gv1 n m else if mKind m = 4 then heard1 n m else take1 n m) := if_pos h
  have e2 : step2 n m = (if mKind m = 1 then asked2 n m else if mKind m = 2 then gv2 n m else if mKind m = 4 then heard2 n m else take2 n m) := if_pos h
  rw [e1, e2] at hV
  obtain ⟨hk, hi0, hi1, he⟩ := right_bd h.1
  have hes : smallL (mEntries m) := by rw [sm]; omega
  clear e1 e2 h
  have hk5 : mKind m = 1 ∨ mKind m = 2 ∨ mKind m = 3 ∨ mKind m = 4 ∨ mKind m = 5 := by omega
  rcases hk5 with hk | hk | hk | hk | hk
  · rw [if_pos hk, if_pos hk] at hV
    refine cut_at hV ⟨[(2, .ptr 2 0), (3, .ptr 3 0), (4, .ptr 4 0), (6, .ptr 6 0)], [(2, .box (cellsA tNode n [])), (3, .box [.int .i64 1, .int .i64 (mFrom m), .int .i64 (mTo m), .int .i64 (mTerm m), .int .i64 (mIndex m), .int .i64 (mAt m), .bool (mYes m), .int .i64 (mCommit m), .sl tEntry (mEntries m) false, .str (mSnap m)]), (4, .box zN), (6, .box [.nilf, .clo 25 [], .clo 119 [], .clo 65 [], .clo 74 [], .clo 65 []])]⟩ ?_ (Ent_of [(2, 2), (3, 3), (4, 4), (6, 6)] rfl ?_ ?_)
    rotate_left
    · simp only [go_sem, reduceIte, Nat.reduceBEq, Nat.reduceMul, reduceCtorEq, Nat.reduceAdd, Nat.reduceEqDiff, decide_eq_true_eq, decide_eq_false_iff_not, Bool.not_eq_true', Bool.not_eq_false', Bool.and_eq_true, Bool.or_eq_true, Bool.and_eq_false_iff, Bool.or_eq_false_iff, Bool.cond_true_left, Bool.cond_false_right, Bool.cond_true_right, Bool.cond_false_left, Bool.or_false, Bool.and_true]
      exact hk.symm
    · simp only [go_sem, reduceIte, Nat.reduceBEq, Nat.reduceMul, reduceCtorEq, Nat.reduceAdd, Nat.reduceEqDiff, decide_eq_true_eq, decide_eq_false_iff_not, Bool.not_eq_true', Bool.not_eq_false', Bool.and_eq_true, Bool.or_eq_true, Bool.and_eq_false_iff, Bool.or_eq_false_iff, Bool.cond_true_left, Bool.cond_false_right, Bool.cond_true_right, Bool.cond_false_left, Bool.or_false, Bool.and_true]
    clear hV V
    have hm : mkM 1 (mFrom m) (mTo m) (mTerm m) (mIndex m) (mAt m) (mYes m) (mCommit m) (mEntries m) (mSnap m) = m := by rw [← hk]
    simp (maxSteps := 10000000) only [c80_26, go_sem, reduceIte, Nat.reduceBEq, Nat.reduceMul, reduceCtorEq, Nat.reduceAdd, Nat.reduceEqDiff, decide_eq_true_eq, decide_eq_false_iff_not, Bool.not_eq_true', Bool.not_eq_false', Bool.and_eq_true, Bool.or_eq_true, Bool.and_eq_false_iff, Bool.or_eq_false_iff, Bool.cond_true_left, Bool.cond_false_right, Bool.cond_true_right, Bool.cond_false_left, Bool.or_false, Bool.and_true, inR, Int.reduceToNat, Nat.mul_one]
    try simp only [mkPrM, hm]
    exact ⟨by decide, ⟨by omega, by omega⟩, by decide +kernel, trivial, trivial⟩
  · rw [if_neg (show ¬ mKind m = 1 by omega), if_pos hk, if_neg (show ¬ mKind m = 1 by omega), if_pos hk] at hV
    refine cut_at hV ⟨[(2, .ptr 2 0), (3, .ptr 3 0), (4, .ptr 4 0), (6, .ptr 6 0)], [(2, .box (cellsA tNode n [])), (3, .box [.int .i64 2, .int .i64 (mFrom m), .int .i64 (mTo m), .int .i64 (mTerm m), .int .i64 (mIndex m), .int .i64 (mAt m), .bool (mYes m), .int .i64 (mCommit m), .sl tEntry (mEntries m) false, .str (mSnap m)]), (4, .box zN), (6, .box [.nilf, .clo 25 [], .clo 119 [], .clo 65 [], .clo 74 [], .clo 65 []])]⟩ ?_ (Ent_of [(2, 2), (3, 3), (4, 4), (6, 6)] rfl ?_ ?_)
    rotate_left
    · simp only [go_sem, reduceIte, Nat.reduceBEq, Nat.reduceMul, reduceCtorEq, Nat.reduceAdd, Nat.reduceEqDiff, decide_eq_true_eq, decide_eq_false_iff_not, Bool.not_eq_true', Bool.not_eq_false', Bool.and_eq_true, Bool.or_eq_true, Bool.and_eq_false_iff, Bool.or_eq_false_iff, Bool.cond_true_left, Bool.cond_false_right, Bool.cond_true_right, Bool.cond_false_left, Bool.or_false, Bool.and_true]
      exact hk.symm
    · simp only [go_sem, reduceIte, Nat.reduceBEq, Nat.reduceMul, reduceCtorEq, Nat.reduceAdd, Nat.reduceEqDiff, decide_eq_true_eq, decide_eq_false_iff_not, Bool.not_eq_true', Bool.not_eq_false', Bool.and_eq_true, Bool.or_eq_true, Bool.and_eq_false_iff, Bool.or_eq_false_iff, Bool.cond_true_left, Bool.cond_false_right, Bool.cond_true_right, Bool.cond_false_left, Bool.or_false, Bool.and_true]
    clear hV V
    have hm : mkM 2 (mFrom m) (mTo m) (mTerm m) (mIndex m) (mAt m) (mYes m) (mCommit m) (mEntries m) (mSnap m) = m := by rw [← hk]
    simp (maxSteps := 10000000) only [c80_26, go_sem, reduceIte, Nat.reduceBEq, Nat.reduceMul, reduceCtorEq, Nat.reduceAdd, Nat.reduceEqDiff, decide_eq_true_eq, decide_eq_false_iff_not, Bool.not_eq_true', Bool.not_eq_false', Bool.and_eq_true, Bool.or_eq_true, Bool.and_eq_false_iff, Bool.or_eq_false_iff, Bool.cond_true_left, Bool.cond_false_right, Bool.cond_true_right, Bool.cond_false_left, Bool.or_false, Bool.and_true, inR, Int.reduceToNat, Nat.mul_one]
    try simp only [mkPrM, hm]
    exact ⟨by decide, ⟨hL, hpre.2.1⟩, by decide +kernel, trivial, trivial⟩
  · rw [if_neg (show ¬ mKind m = 1 by omega), if_neg (show ¬ mKind m = 2 by omega), if_neg (show ¬ mKind m = 4 by omega), if_neg (show ¬ mKind m = 1 by omega), if_neg (show ¬ mKind m = 2 by omega), if_neg (show ¬ mKind m = 4 by omega)] at hV
    refine cut_at hV ⟨[(2, .ptr 2 0), (3, .ptr 3 0), (4, .ptr 4 0), (6, .ptr 6 0)], [(2, .box (cellsA tNode n [])), (3, .box [.int .i64 3, .int .i64 (mFrom m), .int .i64 (mTo m), .int .i64 (mTerm m), .int .i64 (mIndex m), .int .i64 (mAt m), .bool (mYes m), .int .i64 (mCommit m), .sl tEntry (mEntries m) false, .str (mSnap m)]), (4, .box zN), (6, .box [.nilf, .clo 25 [], .clo 119 [], .clo 65 [], .clo 74 [], .clo 65 []])]⟩ ?_ (Ent_of [(2, 2), (3, 3), (4, 4), (6, 6)] rfl ?_ ?_)
    rotate_left
    · simp only [go_sem, reduceIte, Nat.reduceBEq, Nat.reduceMul, reduceCtorEq, Nat.reduceAdd, Nat.reduceEqDiff, decide_eq_true_eq, decide_eq_false_iff_not, Bool.not_eq_true', Bool.not_eq_false', Bool.and_eq_true, Bool.or_eq_true, Bool.and_eq_false_iff, Bool.or_eq_false_iff, Bool.cond_true_left, Bool.cond_false_right, Bool.cond_true_right, Bool.cond_false_left, Bool.or_false, Bool.and_true]
      exact hk.symm
    · simp only [go_sem, reduceIte, Nat.reduceBEq, Nat.reduceMul, reduceCtorEq, Nat.reduceAdd, Nat.reduceEqDiff, decide_eq_true_eq, decide_eq_false_iff_not, Bool.not_eq_true', Bool.not_eq_false', Bool.and_eq_true, Bool.or_eq_true, Bool.and_eq_false_iff, Bool.or_eq_false_iff, Bool.cond_true_left, Bool.cond_false_right, Bool.cond_true_right, Bool.cond_false_left, Bool.or_false, Bool.and_true]
    clear hV V
    have hm : mkM 3 (mFrom m) (mTo m) (mTerm m) (mIndex m) (mAt m) (mYes m) (mCommit m) (mEntries m) (mSnap m) = m := by rw [← hk]
    simp (maxSteps := 10000000) only [c80_26, go_sem, reduceIte, Nat.reduceBEq, Nat.reduceMul, reduceCtorEq, Nat.reduceAdd, Nat.reduceEqDiff, decide_eq_true_eq, decide_eq_false_iff_not, Bool.not_eq_true', Bool.not_eq_false', Bool.and_eq_true, Bool.or_eq_true, Bool.and_eq_false_iff, Bool.or_eq_false_iff, Bool.cond_true_left, Bool.cond_false_right, Bool.cond_true_right, Bool.cond_false_left, Bool.or_false, Bool.and_true, inR, Int.reduceToNat, Nat.mul_one]
    try simp only [mkPrM, hm]
    exact ⟨by decide, ⟨hL.1, by unfold okIdx; omega, hes⟩, by decide +kernel, trivial, trivial⟩
  · rw [if_neg (show ¬ mKind m = 1 by omega), if_neg (show ¬ mKind m = 2 by omega), if_pos hk, if_neg (show ¬ mKind m = 1 by omega), if_neg (show ¬ mKind m = 2 by omega), if_pos hk] at hV
    refine cut_at hV ⟨[(2, .ptr 2 0), (3, .ptr 3 0), (4, .ptr 4 0), (6, .ptr 6 0)], [(2, .box (cellsA tNode n [])), (3, .box [.int .i64 4, .int .i64 (mFrom m), .int .i64 (mTo m), .int .i64 (mTerm m), .int .i64 (mIndex m), .int .i64 (mAt m), .bool (mYes m), .int .i64 (mCommit m), .sl tEntry (mEntries m) false, .str (mSnap m)]), (4, .box zN), (6, .box [.nilf, .clo 25 [], .clo 119 [], .clo 65 [], .clo 74 [], .clo 65 []])]⟩ ?_ (Ent_of [(2, 2), (3, 3), (4, 4), (6, 6)] rfl ?_ ?_)
    rotate_left
    · simp only [go_sem, reduceIte, Nat.reduceBEq, Nat.reduceMul, reduceCtorEq, Nat.reduceAdd, Nat.reduceEqDiff, decide_eq_true_eq, decide_eq_false_iff_not, Bool.not_eq_true', Bool.not_eq_false', Bool.and_eq_true, Bool.or_eq_true, Bool.and_eq_false_iff, Bool.or_eq_false_iff, Bool.cond_true_left, Bool.cond_false_right, Bool.cond_true_right, Bool.cond_false_left, Bool.or_false, Bool.and_true]
      exact hk.symm
    · simp only [go_sem, reduceIte, Nat.reduceBEq, Nat.reduceMul, reduceCtorEq, Nat.reduceAdd, Nat.reduceEqDiff, decide_eq_true_eq, decide_eq_false_iff_not, Bool.not_eq_true', Bool.not_eq_false', Bool.and_eq_true, Bool.or_eq_true, Bool.and_eq_false_iff, Bool.or_eq_false_iff, Bool.cond_true_left, Bool.cond_false_right, Bool.cond_true_right, Bool.cond_false_left, Bool.or_false, Bool.and_true]
    clear hV V
    have hm : mkM 4 (mFrom m) (mTo m) (mTerm m) (mIndex m) (mAt m) (mYes m) (mCommit m) (mEntries m) (mSnap m) = m := by rw [← hk]
    simp (maxSteps := 10000000) only [c80_26, go_sem, reduceIte, Nat.reduceBEq, Nat.reduceMul, reduceCtorEq, Nat.reduceAdd, Nat.reduceEqDiff, decide_eq_true_eq, decide_eq_false_iff_not, Bool.not_eq_true', Bool.not_eq_false', Bool.and_eq_true, Bool.or_eq_true, Bool.and_eq_false_iff, Bool.or_eq_false_iff, Bool.cond_true_left, Bool.cond_false_right, Bool.cond_true_right, Bool.cond_false_left, Bool.or_false, Bool.and_true, inR, Int.reduceToNat, Nat.mul_one]
    try simp only [mkPrM, hm]
    exact ⟨by decide, ⟨hL.1, hpre.2.2 _, by omega, by omega, hL.2.1⟩, by decide +kernel, trivial, trivial⟩
  · rw [if_neg (show ¬ mKind m = 1 by omega), if_neg (show ¬ mKind m = 2 by omega), if_neg (show ¬ mKind m = 4 by omega), if_neg (show ¬ mKind m = 1 by omega), if_neg (show ¬ mKind m = 2 by omega), if_neg (show ¬ mKind m = 4 by omega)] at hV
    refine cut_at hV ⟨[(2, .ptr 2 0), (3, .ptr 3 0), (4, .ptr 4 0), (6, .ptr 6 0)], [(2, .box (cellsA tNode n [])), (3, .box [.int .i64 5, .int .i64 (mFrom m), .int .i64 (mTo m), .int .i64 (mTerm m), .int .i64 (mIndex m), .int .i64 (mAt m), .bool (mYes m), .int .i64 (mCommit m), .sl tEntry (mEntries m) false, .str (mSnap m)]), (4, .box zN), (6, .box [.nilf, .clo 25 [], .clo 119 [], .clo 65 [], .clo 74 [], .clo 65 []])]⟩ ?_ (Ent_of [(2, 2), (3, 3), (4, 4), (6, 6)] rfl ?_ ?_)
    rotate_left
    · simp only [go_sem, reduceIte, Nat.reduceBEq, Nat.reduceMul, reduceCtorEq, Nat.reduceAdd, Nat.reduceEqDiff, decide_eq_true_eq, decide_eq_false_iff_not, Bool.not_eq_true', Bool.not_eq_false', Bool.and_eq_true, Bool.or_eq_true, Bool.and_eq_false_iff, Bool.or_eq_false_iff, Bool.cond_true_left, Bool.cond_false_right, Bool.cond_true_right, Bool.cond_false_left, Bool.or_false, Bool.and_true]
      exact hk.symm
    · simp only [go_sem, reduceIte, Nat.reduceBEq, Nat.reduceMul, reduceCtorEq, Nat.reduceAdd, Nat.reduceEqDiff, decide_eq_true_eq, decide_eq_false_iff_not, Bool.not_eq_true', Bool.not_eq_false', Bool.and_eq_true, Bool.or_eq_true, Bool.and_eq_false_iff, Bool.or_eq_false_iff, Bool.cond_true_left, Bool.cond_false_right, Bool.cond_true_right, Bool.cond_false_left, Bool.or_false, Bool.and_true]
    clear hV V
    have hm : mkM 5 (mFrom m) (mTo m) (mTerm m) (mIndex m) (mAt m) (mYes m) (mCommit m) (mEntries m) (mSnap m) = m := by rw [← hk]
    simp (maxSteps := 10000000) only [c80_26, go_sem, reduceIte, Nat.reduceBEq, Nat.reduceMul, reduceCtorEq, Nat.reduceAdd, Nat.reduceEqDiff, decide_eq_true_eq, decide_eq_false_iff_not, Bool.not_eq_true', Bool.not_eq_false', Bool.and_eq_true, Bool.or_eq_true, Bool.and_eq_false_iff, Bool.or_eq_false_iff, Bool.cond_true_left, Bool.cond_false_right, Bool.cond_true_right, Bool.cond_false_left, Bool.or_false, Bool.and_true, inR, Int.reduceToNat, Nat.mul_one]
    try simp only [mkPrM, hm]
    exact ⟨by decide, ⟨hL.1, by unfold okIdx; omega, hes⟩, by decide +kernel, trivial, trivial⟩
end Go.AM

set_option maxRecDepth 100000
set_option maxHeartbeats 40000000
set_option linter.unusedSimpArgs false
namespace Go.AM
open Go.Proofs
attribute [local congr] vc_congr evOps_congr evTab_congr bind_congr condK_congr tabK_congr
def fn83 : Fn := { a := .pair tNode (.pair .str .unit), r := .pair tNode (.pair (.olist tMsg) (.pair tI .unit)), pre := fun x => wfR x.1 ∧ rgL x.1 ∧ nextsOk x.1, f := fun x => (prop1 x.1 x.2.1, prop2 x.1 x.2.1, prop3 x.1, ()) }
theorem h83  : Holds Try.prog 83 (fn83) := by
  refine Holds.of_vcc (T := [(112, fn112)]) (TT := ttL) (rowAt := []) (c := c83) (ros := [.c 4 15, .t 5, .t 6]) (.cons _ h112 (.nil _)) mixed Try.func83 (by decide +kernel) (by rfl) comp83 (by kernel_rfl) rfl rfl (fun h => by cases h) ?_
  rintro ⟨(n : Node), (cmd : ByteArray), _⟩ hpre
  simp only [fn83] at hpre ⊢
  simp only [c83, fn112, go_sem, reduceIte, Nat.reduceBEq, Nat.reduceMul, reduceCtorEq, Nat.reduceAdd, Nat.reduceEqDiff, decide_eq_true_eq, decide_eq_false_iff_not, Bool.not_eq_true', Bool.not_eq_false', Bool.and_eq_true, Bool.or_eq_true, Bool.and_eq_false_iff, Bool.or_eq_false_iff, Bool.cond_true_left, Bool.cond_false_right, Bool.cond_true_right, Bool.cond_false_left, Bool.or_false, Bool.and_true, inR]
  generalize hV : vc _ (C.cut c83_19) _ = V
  have hLl : (nLog n).length = n.2.2.2.2.2.2.2.1.length := rfl
  refine ⟨fun h => ?_, fun h => ⟨fun h2 => ?_, fun h2 => ?_⟩⟩
  · have hn : ¬ (nRole n = 2 ∧ (nLog n).length < 200) := fun hc => h hc.1
    exact ⟨(if_neg hn).symm, (if_neg hn).symm, (if_neg h).symm⟩
  · have hlt : ¬ (nLog n).length < 200 := by omega
    have hn : ¬ (nRole n = 2 ∧ (nLog n).length < 200) := fun hc => hlt hc.2
    have e3 : prop3 n = if (nLog n).length < 200 then 0 else 7 := if_pos h
    exact ⟨(if_neg hn).symm, (if_neg hn).symm, by rw [e3, if_neg hlt]⟩
  have hlt : (nLog n).length < 200 := by omega
  have e1 : prop1 n cmd = moreN n cmd := if_pos ⟨h, hlt⟩
  have e2 : prop2 n cmd = othersN (moreN n cmd) := if_pos ⟨h, hlt⟩
  have e3 : prop3 n = 0 := by
    have : prop3 n = if (nLog n).length < 200 then 0 else 7 := if_pos h
    rw [this, if_pos hlt]
  rw [e1, e2, e3] at hV
  refine cut_at hV ⟨[(1, .str cmd), (2, .ptr 2 0), (4, .ptr 4 0)], [(2, .box (cellsA tNode n [])), (4, .box zN)]⟩ ?_ (Ent_of [(2, 2), (4, 4)] rfl ?_ ?_)
  rotate_left
  · simp only [go_sem, reduceIte, Nat.reduceBEq, Nat.reduceMul, reduceCtorEq, Nat.reduceAdd, Nat.reduceEqDiff, decide_eq_true_eq, decide_eq_false_iff_not, Bool.not_eq_true', Bool.not_eq_false', Bool.and_eq_true, Bool.or_eq_true, Bool.and_eq_false_iff, Bool.or_eq_false_iff, Bool.cond_true_left, Bool.cond_false_right, Bool.cond_true_right, Bool.cond_false_left, Bool.or_false, Bool.and_true]
  · simp only [go_sem, reduceIte, Nat.reduceBEq, Nat.reduceMul, reduceCtorEq, Nat.reduceAdd, Nat.reduceEqDiff, decide_eq_true_eq, decide_eq_false_iff_not, Bool.not_eq_true', Bool.not_eq_false', Bool.and_eq_true, Bool.or_eq_true, Bool.and_eq_false_iff, Bool.or_eq_false_iff, Bool.cond_true_left, Bool.cond_false_right, Bool.cond_true_right, Bool.cond_false_left, Bool.or_false, Bool.and_true]
  clear hV V e1 e2 e3
  simp (maxSteps := 10000000) only [c83_19, go_sem, reduceIte, Nat.reduceBEq, Nat.reduceMul, reduceCtorEq, Nat.reduceAdd, Nat.reduceEqDiff, decide_eq_true_eq, decide_eq_false_iff_not, Bool.not_eq_true', Bool.not_eq_false', Bool.and_eq_true, Bool.or_eq_true, Bool.and_eq_false_iff, Bool.or_eq_false_iff, Bool.cond_true_left, Bool.cond_false_right, Bool.cond_true_right, Bool.cond_false_left, Bool.or_false, Bool.and_true, inR]
  exact hpre
def tickOk (n : Node) : Prop := rgL n ∧ wfR n ∧ nextsOk n ∧ 0 ≤ nTerm n ∧ nTerm n ≤ 4398046511000 ∧ 0 ≤ nClock n ∧ nClock n ≤ 4398046511000
def fn79 : Fn := { a := .pair tNode .unit, r := .pair tNode (.pair (.olist tMsg) .unit), pre := fun x => tickOk x.1, f := fun x => (tick1 x.1, tick2 x.1, ()) }
theorem h79  : Holds Try.prog 79 (fn79) := by
  refine Holds.of_vcc (T := [(118, fn118), (38, fn38), (45, fn45), (68, fn68)]) (TT := ttL) (rowAt := []) (c := c79) (ros := [.c 2 15, .t 3]) (.cons _ h118 (.cons _ h38 (.cons _ h45 (.cons _ h68 (.nil _))))) mixed Try.func79 (by decide +kernel) (by rfl) comp79 (by kernel_rfl) rfl rfl (fun h => by cases h) ?_
  rintro ⟨(n : Node), _⟩ hpre
  simp only [fn79] at hpre ⊢
  simp only [c79, fn118, fn38, fn45, fn68, go_sem, reduceIte, Nat.reduceBEq, Nat.reduceMul, reduceCtorEq, Nat.reduceAdd, Nat.reduceEqDiff, decide_eq_true_eq, decide_eq_false_iff_not, Bool.not_eq_true', Bool.not_eq_false', Bool.and_eq_true, Bool.or_eq_true, Bool.and_eq_false_iff, Bool.or_eq_false_iff, Bool.cond_true_left, Bool.cond_false_right, Bool.cond_true_right, Bool.cond_false_left, Bool.or_false, Bool.and_true, inR, fn44]
  simp only [mkPr]
  generalize hV : vc _ (C.cut c79_31) _ = V
  generalize hq : mkN _ _ _ _ _ _ _ _ _ _ _ _ _ _ 0 = q
  have eq : q = setClock n 0 := by rw [← hq]; rfl
  clear hq
  subst eq
  generalize hp : mkN _ _ _ _ _ _ _ _ _ _ _ _ _ _ (_ + 1) = p
  have ep : p = setClock n (nClock n + 1) := by rw [← hp]; rfl
  clear hp
  obtain ⟨hL, hw, hx, ht0, ht1, hc0, hc1⟩ := hpre
  have hI : nId n = n.1 := rfl
  have hC : nClock n = n.2.2.2.2.2.2.2.2.2.2.2.2.2.2.1 := rfl
  have hid : 0 ≤ nId n ∧ nId n ≤ 5 := by have := hw.2; omega
  refine ⟨by omega, fun h => ⟨fun h2 => ?_, fun h2 => ⟨⟨hw, hx⟩, by rfl, ?_, ?_⟩⟩, fun h => ⟨by omega, by omega, fun h2 => ?_, fun h2 => ?_⟩⟩
  · have hn : ¬ (nRole n = 2 ∧ 3 ≤ nClock n + 1) := fun hc => by omega
    unfold tick1 tick2
    rw [if_neg hn, if_neg hn, if_pos (.inl h), if_pos (.inl h)]
    exact ⟨ep, rfl⟩
  · have hn : nRole n = 2 ∧ 3 ≤ nClock n + 1 := ⟨h, by omega⟩
    unfold tick1; rw [if_pos hn]
  · have hn : nRole n = 2 ∧ 3 ≤ nClock n + 1 := ⟨h, by omega⟩
    unfold tick2; rw [if_pos hn]
  · have hn : ¬ (nRole n = 2 ∧ 3 ≤ nClock n + 1) := fun hc => h hc.1
    unfold tick1 tick2
    rw [if_neg hn, if_neg hn, if_pos (.inr h2), if_pos (.inr h2)]
    exact ⟨ep, rfl⟩
  have hn : ¬ (nRole n = 2 ∧ 3 ≤ nClock n + 1) := fun hc => h hc.1
  have h3 : ¬ (nRole n = 2 ∨ nClock n + 1 < 10 + 5 * nId n) := fun hc => hc.elim h h2
  have e1 : tick1 n = if most (start1 (setClock n (nClock n + 1))) = 1 then lead1 (start1 (setClock n (nClock n + 1))) else start1 (setClock n (nClock n + 1)) := by
    unfold tick1; rw [if_neg hn, if_neg h3]
  have e2 : tick2 n = if most (start1 (setClock n (nClock n + 1))) = 1 then start2 (setClock n (nClock n + 1)) ++ lead2 (start1 (setClock n (nClock n + 1))) else start2 (setClock n (nClock n + 1)) := by
    unfold tick2; rw [if_neg hn, if_neg h3]
  rw [e1, e2] at hV
  refine cut_at hV ⟨[(1, .ptr 1 0), (2, .ptr 2 0)], [(1, .box (cellsA tNode (setClock n (nClock n + 1)) [])), (2, .box zN)]⟩ ?_ (Ent_of [(1, 1), (2, 2)] rfl ?_ ?_)
  rotate_left
  · simp only [go_sem, reduceIte, Nat.reduceBEq, Nat.reduceMul, reduceCtorEq, Nat.reduceAdd, Nat.reduceEqDiff, decide_eq_true_eq, decide_eq_false_iff_not, Bool.not_eq_true', Bool.not_eq_false', Bool.and_eq_true, Bool.or_eq_true, Bool.and_eq_false_iff, Bool.or_eq_false_iff, Bool.cond_true_left, Bool.cond_false_right, Bool.cond_true_right, Bool.cond_false_left, Bool.or_false, Bool.and_true]
    repeat (first | exact rfl | refine ⟨rfl, ?_⟩)
  · simp only [go_sem, reduceIte, Nat.reduceBEq, Nat.reduceMul, reduceCtorEq, Nat.reduceAdd, Nat.reduceEqDiff, decide_eq_true_eq, decide_eq_false_iff_not, Bool.not_eq_true', Bool.not_eq_false', Bool.and_eq_true, Bool.or_eq_true, Bool.and_eq_false_iff, Bool.or_eq_false_iff, Bool.cond_true_left, Bool.cond_false_right, Bool.cond_true_right, Bool.cond_false_left, Bool.or_false, Bool.and_true]
  clear hV V ep e1 e2
  have hLc : rgL (setClock n (nClock n + 1)) := hL
  have hwc : wfR (setClock n (nClock n + 1)) := hw
  have htc : 0 ≤ nTerm (setClock n (nClock n + 1)) ∧ nTerm (setClock n (nClock n + 1)) ≤ 4398046511000 := ⟨ht0, ht1⟩
  generalize setClock n (nClock n + 1) = c at *
  simp (maxSteps := 10000000) only [c79_31, go_sem, reduceIte, Nat.reduceBEq, Nat.reduceMul, reduceCtorEq, Nat.reduceAdd, Nat.reduceEqDiff, decide_eq_true_eq, decide_eq_false_iff_not, Bool.not_eq_true', Bool.not_eq_false', Bool.and_eq_true, Bool.or_eq_true, Bool.and_eq_false_iff, Bool.or_eq_false_iff, Bool.cond_true_left, Bool.cond_false_right, Bool.cond_true_right, Bool.cond_false_left, Bool.or_false, Bool.and_true, inR]
  generalize hV : vc _ (C.cut c79_35) _ = V
  have hLs := rgL_start hLc
  have hs5 := start2_len c
  have hns : nNodes (start1 c) = nNodes c ∧ nId (start1 c) = nId c := by unfold start1 Go.AM.own; split <;> exact ⟨rfl, rfl⟩
  have hLc2 := hLc
  have hw2 := hwc.2
  simp only [rgL, rgN] at hLc2
  generalize start1 c = s at *
  generalize start2 c = sl at *
  refine ⟨⟨hLc2.1.1, by omega, by omega, by omega, hw2.2.2.1, hw2.2.2.2.1, hw2.2.1⟩, ?_⟩
  refine cut_at hV ⟨[(1, .ptr 1 0), (2, .ptr 2 0), (4, .own 13201 0 sl.length)], [(1, .box (cellsA tNode s [])), (2, .box zN), (13201, .row tMsg sl false)]⟩ ?_ (Ent_of [(1, 1), (2, 2), (13201, 13201)] rfl ?_ ?_)
  rotate_left
  · simp only [go_sem, reduceIte, Nat.reduceBEq, Nat.reduceMul, reduceCtorEq, Nat.reduceAdd, Nat.reduceEqDiff, decide_eq_true_eq, decide_eq_false_iff_not, Bool.not_eq_true', Bool.not_eq_false', Bool.and_eq_true, Bool.or_eq_true, Bool.and_eq_false_iff, Bool.or_eq_false_iff, Bool.cond_true_left, Bool.cond_false_right, Bool.cond_true_right, Bool.cond_false_left, Bool.or_false, Bool.and_true]
  · simp only [go_sem, reduceIte, Nat.reduceBEq, Nat.reduceMul, reduceCtorEq, Nat.reduceAdd, Nat.reduceEqDiff, decide_eq_true_eq, decide_eq_false_iff_not, Bool.not_eq_true', Bool.not_eq_false', Bool.and_eq_true, Bool.or_eq_true, Bool.and_eq_false_iff, Bool.or_eq_false_iff, Bool.cond_true_left, Bool.cond_false_right, Bool.cond_true_right, Bool.cond_false_left, Bool.or_false, Bool.and_true]
  clear hV V
  simp (maxSteps := 10000000) only [c79_35, go_sem, reduceIte, Nat.reduceBEq, Nat.reduceMul, reduceCtorEq, Nat.reduceAdd, Nat.reduceEqDiff, decide_eq_true_eq, decide_eq_false_iff_not, Bool.not_eq_true', Bool.not_eq_false', Bool.and_eq_true, Bool.or_eq_true, Bool.and_eq_false_iff, Bool.or_eq_false_iff, Bool.cond_true_left, Bool.cond_false_right, Bool.cond_true_right, Bool.cond_false_left, Bool.or_false, Bool.and_true, inR]
  have hl2 : (lead2 s).length ≤ 5 := others_len (lead1 s)
  refine ⟨by omega, fun h => ⟨⟨hLs, by omega, by omega, by omega, by omega⟩, by omega, by decide +kernel, (if_pos h).symm, by rw [List.take_of_length_le (by rw [List.length_append]; exact Nat.le_refl _)]; exact (if_pos h).symm⟩, fun h => ⟨(if_neg h).symm, (if_neg h).symm⟩⟩
def fn77 : Fn := fn24
theorem h77  : Holds Try.prog 77 (fn77) := by
  refine Holds.of_vc (T := [(23, fn23), (29, fn29), (35, fn35), (50, fn50)]) (TT := ttL) (rowAt := []) (c := c77) (ros := [.c 8 10]) (.cons _ h23 (.cons _ h29 (.cons _ h35 (.cons _ h50 (.nil _))))) mixed Try.func77 (by decide +kernel) (by rfl) comp77 (by kernel_rfl) rfl rfl (fun h => by cases h) ?_
  rintro ⟨(v : Int), (w : Int), (n : Node), (es : List Int), _⟩ hpre
  simp only [fn77, fn24] at hpre ⊢
  simp only [c77, fn23, fn29, fn35, fn50, go_sem, reduceIte, Nat.reduceBEq, Nat.reduceMul, reduceCtorEq, Nat.reduceAdd, Nat.reduceEqDiff, decide_eq_true_eq, decide_eq_false_iff_not, Bool.not_eq_true', Bool.not_eq_false', Bool.and_eq_true, Bool.or_eq_true, Bool.and_eq_false_iff, Bool.or_eq_false_iff, Bool.cond_true_left, Bool.cond_false_right, Bool.cond_true_right, Bool.cond_false_left, Bool.or_false, Bool.and_true, fn48, inR, p19, tq1, tm1, nn1, nn2, Int.reduceLE]
  simp only [wfN] at hpre
  have hk1 : 0 ≤ v % 1073741824 / 5 % max (nNodes n - 1) 1 := Int.emod_nonneg _ (by omega)
  have hk2 : v % 1073741824 / 5 % max (nNodes n - 1) 1 < max (nNodes n - 1) 1 := Int.emod_lt_of_pos _ (by omega)
  have hsz := digits_size (w % 1073741824 % 100)
  dsimp only [den, nId, nNodes, nTerm, nVote, nBase, nBT, nSnap, nLog, nRole, nLead, nCommit, nVotes, nNext, nMatch, nClock, mKind, mFrom, mTo, mTerm, mIndex, mAt, mYes, mCommit, mEntries, mSnap, eTerm, eCmd, mkN, mkM, mkE, last, inR, sm, lastT] at *
  have e1 : (n.1 + 1 + v % 1073741824 / 5 % max (n.2.1 - 1) 1).tmod n.2.1 = (n.1 + 1 + v % 1073741824 / 5 % max (n.2.1 - 1) 1) % n.2.1 := tm1 (by omega)
  simp only [e1]
  repeat (first | refine ⟨by omega, ?_⟩ | refine ⟨by rfl, ?_⟩ | refine ⟨fun h => h, ?_⟩ | refine ⟨fun h => ⟨h, by omega⟩, ?_⟩)
  refine ⟨fun h1 => ⟨fun h2 => ⟨by omega, fun h3 => absurd h3 (by omega), fun h3 => ?_⟩, fun h2 => ⟨fun h3 => ⟨by omega, by omega, ?_, ?_⟩, fun h3 => ?_⟩⟩, fun h1 => ?_⟩
  · unfold message; rw [if_pos h1, if_pos h2, if_neg h3]; rfl
  · have : (#[115, 110, 97, 112] : Array UInt8).size = 4 := rfl
    omega
  · unfold message; rw [if_pos h1, if_neg h2, if_pos h3]; rfl
  · unfold message; rw [if_pos h1, if_neg h2, if_neg h3]; rfl
  have h1 : ¬ (termOk n (max (last n - 3 + w % 1073741824 % 6) 0) = true ∧ w % 1073741824 / 2700 % 2 = 0) := by
    rintro ⟨a, b⟩
    rcases h1 with h | h
    · rw [a] at h; cases h
    · exact h b
  refine ⟨fun h2 => ⟨by omega, fun h3 => absurd h3 (by omega), fun h3 => ?_⟩, fun h2 => ⟨fun h3 => ⟨by omega, by omega, ?_, ?_⟩, fun h3 => ?_⟩⟩
  · unfold message; rw [if_neg h1, if_pos h2, if_neg h3]; rfl
  · have : (#[115, 110, 97, 112] : Array UInt8).size = 4 := rfl
    omega
  · unfold message; rw [if_neg h1, if_neg h2, if_pos h3]; rfl
  · unfold message; rw [if_neg h1, if_neg h2, if_neg h3]; rfl
end Go.AM
