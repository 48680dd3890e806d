import Derived.Test.YtbcbgfkojmligaaHS
import Derived.Test.YtbcbgfkojmligaaTT
/- What functions of the program answer, each under the conditions that its contract names. -/
set_option linter.unusedVariables false
set_option linter.unusedSimpArgs false
set_option maxRecDepth 100000
set_option maxHeartbeats 40000000
set_option linter.unusedSimpArgs false
namespace Go.AM
open Go.Proofs
attribute [local congr] vc_congr evOps_congr evTab_congr bind_congr condK_congr tabK_congr
def rlogAnyFn : Fn := { a := .pair tNode (.pair tNode (.pair tI .unit)), r := .pair .bool .unit, pre := fun _ => True, f := fun _ => (true, ()) }
theorem h9  : Holds Try.prog 9 (rlogAnyFn) := by
  refine Holds.of_vcc (T := [(36, fn36), (46, fn46), (47, fn47w), (48, fn48w), (29, fn48w), (49, fn49), (33, fn33)]) (TT := ttL) (rowAt := []) (c := c9) (ros := [.t 6]) (.cons _ h36 (.cons _ h46 (.cons _ h47w (.cons _ h48w (.cons _ h29w (.cons _ h49 (.cons _ h33 (.nil _)))))))) mixed Try.func9 (by decide +kernel) (by rfl) comp9 (by kernel_rfl) rfl rfl (fun h => by cases h) ?_
  rintro ⟨(n : Node), (m : Node), (i : Int), _⟩ hpre
  simp only [rlogAnyFn] at hpre ⊢
  simp (maxSteps := 10000000) only [c9, fn36, fn46, fn47w, fn48w, fn48w, fn49, fn33, go_sem, reduceIte, Nat.reduceBEq, Nat.reduceMul, reduceCtorEq, Nat.reduceAdd, Nat.reduceEqDiff, decide_eq_true_eq, decide_eq_false_iff_not, Bool.not_eq_true', Bool.not_eq_false', Bool.and_eq_true, Bool.or_eq_true, Bool.and_eq_false_iff, Bool.or_eq_false_iff, Bool.cond_true_left, Bool.cond_false_right, Bool.cond_true_right, Bool.cond_false_left, Bool.or_false, Bool.and_true, inR]
  generalize hV : vc _ (C.cut c9_50) _ = V
  refine fun hg => ?_
  have hb : (nLog n).length ≤ 50 ∧ (nLog m).length ≤ 50 ∧ (nVotes n).length ≤ 20 ∧ (nNext n).length ≤ 20 ∧ (nMatch n).length ≤ 20 ∧ nBase n ≤ 1099511627776 ∧ 0 ≤ nBase n := by
    clear hV
    dsimp only [den, nId, nNodes, nTerm, nVote, nBase, nBT, nSnap, nLog, nRole, nLead, nCommit, nVotes, nNext, nMatch, nClock, mKind, mFrom, mTo, mTerm, mIndex, mAt, mYes, mCommit, mEntries, mSnap, eTerm, eCmd, mkN, mkM, mkE, last, inR, sm, lastT] at *
    omega
  clear hg
  have hl : last n = nBase n + (nLog n).length := rfl
  have hsn : smallN n := by
    refine ⟨?_, ?_, ?_, ?_⟩ <;> rw [sm] <;> omega
  have hsm : smallL (nLog m) := by rw [sm]; omega
  have hla : InR .i64 (last n) := by rw [inR]; omega
  refine cut_at hV ⟨[(2, .int .i64 i), (3, .ptr 3 0), (4, .ptr 4 0)], [(3, .box (cellsA tNode n [])), (4, .box (cellsA tNode m []))]⟩ ?_ (Ent_of [(3, 3), (4, 4)] rfl ?_ ?_)
  rotate_left
  · simp only [go_sem, reduceIte, Nat.reduceBEq, Nat.reduceMul, reduceCtorEq, Nat.reduceAdd, Nat.reduceEqDiff, decide_eq_true_eq, decide_eq_false_iff_not, Bool.not_eq_true', Bool.not_eq_false', Bool.and_eq_true, Bool.or_eq_true, Bool.and_eq_false_iff, Bool.or_eq_false_iff, Bool.cond_true_left, Bool.cond_false_right, Bool.cond_true_right, Bool.cond_false_left, Bool.or_false, Bool.and_true]
  · simp only [go_sem, reduceIte, Nat.reduceBEq, Nat.reduceMul, reduceCtorEq, Nat.reduceAdd, Nat.reduceEqDiff, decide_eq_true_eq, decide_eq_false_iff_not, Bool.not_eq_true', Bool.not_eq_false', Bool.and_eq_true, Bool.or_eq_true, Bool.and_eq_false_iff, Bool.or_eq_false_iff, Bool.cond_true_left, Bool.cond_false_right, Bool.cond_true_right, Bool.cond_false_left, Bool.or_false, Bool.and_true]
  clear hV V
  simp (maxSteps := 10000000) only [c9_50, go_sem, reduceIte, Nat.reduceBEq, Nat.reduceMul, reduceCtorEq, Nat.reduceAdd, Nat.reduceEqDiff, decide_eq_true_eq, decide_eq_false_iff_not, Bool.not_eq_true', Bool.not_eq_false', Bool.and_eq_true, Bool.or_eq_true, Bool.and_eq_false_iff, Bool.or_eq_false_iff, Bool.cond_true_left, Bool.cond_false_right, Bool.cond_true_right, Bool.cond_false_left, Bool.or_false, Bool.and_true, eq_self, decide_true, beq_self_eq_true]
  generalize hV : vc _ (C.cut c9_55) _ = V
  refine ⟨⟨hla, hsn.1, hsn.2.2.1, hsn.2.2.2⟩, hsn.1, by decide +kernel, ?_⟩
  refine cut_at hV ⟨[(2, .int .i64 i), (3, .ptr 3 0), (4, .ptr 4 0)], [(3, .box (cellsA tNode n [])), (4, .box (cellsA tNode m []))]⟩ ?_ (Ent_of [(3, 3), (4, 4)] rfl ?_ ?_)
  rotate_left
  · simp only [go_sem, reduceIte, Nat.reduceBEq, Nat.reduceMul, reduceCtorEq, Nat.reduceAdd, Nat.reduceEqDiff, decide_eq_true_eq, decide_eq_false_iff_not, Bool.not_eq_true', Bool.not_eq_false', Bool.and_eq_true, Bool.or_eq_true, Bool.and_eq_false_iff, Bool.or_eq_false_iff, Bool.cond_true_left, Bool.cond_false_right, Bool.cond_true_right, Bool.cond_false_left, Bool.or_false, Bool.and_true]
  · simp only [go_sem, reduceIte, Nat.reduceBEq, Nat.reduceMul, reduceCtorEq, Nat.reduceAdd, Nat.reduceEqDiff, decide_eq_true_eq, decide_eq_false_iff_not, Bool.not_eq_true', Bool.not_eq_false', Bool.and_eq_true, Bool.or_eq_true, Bool.and_eq_false_iff, Bool.or_eq_false_iff, Bool.cond_true_left, Bool.cond_false_right, Bool.cond_true_right, Bool.cond_false_left, Bool.or_false, Bool.and_true]
  clear hV V
  simp (maxSteps := 10000000) only [c9_55, go_sem, reduceIte, Nat.reduceBEq, Nat.reduceMul, reduceCtorEq, Nat.reduceAdd, Nat.reduceEqDiff, decide_eq_true_eq, decide_eq_false_iff_not, Bool.not_eq_true', Bool.not_eq_false', Bool.and_eq_true, Bool.or_eq_true, Bool.and_eq_false_iff, Bool.or_eq_false_iff, Bool.cond_true_left, Bool.cond_false_right, Bool.cond_true_right, Bool.cond_false_left, Bool.or_false, Bool.and_true]
  generalize hV : vc _ (C.cut c9_65) _ = V
  refine ⟨hsn.1, fun _ => hsm, ?_⟩
  refine fun _ => ?_
  refine cut_at hV ⟨[(2, .int .i64 i), (3, .ptr 3 0), (4, .ptr 4 0)], [(3, .box (cellsA tNode n [])), (4, .box (cellsA tNode m []))]⟩ ?_ (Ent_of [(3, 3), (4, 4)] rfl ?_ ?_)
  rotate_left
  · simp only [go_sem, reduceIte, Nat.reduceBEq, Nat.reduceMul, reduceCtorEq, Nat.reduceAdd, Nat.reduceEqDiff, decide_eq_true_eq, decide_eq_false_iff_not, Bool.not_eq_true', Bool.not_eq_false', Bool.and_eq_true, Bool.or_eq_true, Bool.and_eq_false_iff, Bool.or_eq_false_iff, Bool.cond_true_left, Bool.cond_false_right, Bool.cond_true_right, Bool.cond_false_left, Bool.or_false, Bool.and_true]
  · simp only [go_sem, reduceIte, Nat.reduceBEq, Nat.reduceMul, reduceCtorEq, Nat.reduceAdd, Nat.reduceEqDiff, decide_eq_true_eq, decide_eq_false_iff_not, Bool.not_eq_true', Bool.not_eq_false', Bool.and_eq_true, Bool.or_eq_true, Bool.and_eq_false_iff, Bool.or_eq_false_iff, Bool.cond_true_left, Bool.cond_false_right, Bool.cond_true_right, Bool.cond_false_left, Bool.or_false, Bool.and_true]
  clear hV V
  simp (maxSteps := 10000000) only [c9_65, go_sem, reduceIte, Nat.reduceBEq, Nat.reduceMul, reduceCtorEq, Nat.reduceAdd, Nat.reduceEqDiff, decide_eq_true_eq, decide_eq_false_iff_not, Bool.not_eq_true', Bool.not_eq_false', Bool.and_eq_true, Bool.or_eq_true, Bool.and_eq_false_iff, Bool.or_eq_false_iff, Bool.cond_true_left, Bool.cond_false_right, Bool.cond_true_right, Bool.cond_false_left, Bool.or_false, Bool.and_true, eq_self, decide_true, beq_self_eq_true, eqB_self]
  exact ⟨⟨hla, hb.2.2.2.2.2.2, hsn.1⟩, ⟨hla, hb.2.2.2.2.2.2, hsn.1⟩, hsn, hsn, hsn, by decide +kernel⟩
end Go.AM
