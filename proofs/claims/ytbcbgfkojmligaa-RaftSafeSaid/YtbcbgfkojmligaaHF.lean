import Derived.Test.YtbcbgfkojmligaaHE
import Derived.KernelRfl
import Derived.Test.YtbcbgfkojmligaaProg
/- What functions of the program answer, each under the conditions that its contract names. -/
set_option linter.unusedVariables false
set_option linter.unusedSimpArgs false
set_option maxRecDepth 100000
namespace Go.AM
def c34 : C := (.seq (.reg [⟨(some 3), .box, [.t 0], none⟩,
  ⟨(some 6), (.alloc [.int .i64 0, .int .i64 0, .int .i64 0, .int .i64 0, .int .i64 0, .int .i64 0, .str ⟨#[]⟩, .sl tEntry [] true, .int .i64 0, .int .i64 0, .int .i64 0, .sl .bool [] true, .sl tI [] true, .sl tI [] true, .int .i64 0]), [], none⟩])
 (.seq (.reg [⟨(some 11), .mv, [.t 1], none⟩,
  ⟨(some 12), (.fld 4), [.t 3], none⟩,
  ⟨(some 13), (.load 1 false), [.t 12], none⟩,
  ⟨(some 14), (.bin .sub), [.t 11, .t 13], none⟩,
  ⟨(some 7), .mv, [.t 14], none⟩])
 (.seq (.seq (.reg [⟨(some 15), .mv, [.t 1], none⟩,
  ⟨(some 16), (.fld 4), [.t 3], none⟩,
  ⟨(some 17), (.load 1 false), [.t 16], none⟩,
  ⟨(some 18), (.bin .lss), [.t 15, .t 17], none⟩,
  ⟨(some 19), .mv, [.t 18], none⟩,
  ⟨(some 20), .mv, [.t 1], (some (19, false))⟩,
  ⟨(some 21), (.load 15 true), [.t 3], (some (19, false))⟩,
  ⟨(some 22), (.call 52), [.t 21], (some (19, false))⟩,
  ⟨(some 23), (.bin .gtr), [.t 20, .t 22], (some (19, false))⟩,
  ⟨(some 24), .pick, [.t 19, .c (.bool true), .t 23], none⟩,
  ⟨(some 25), .mv, [.t 24], none⟩,
  ⟨(some 26), .mv, [.t 7], (some (25, false))⟩,
  ⟨(some 27), (.bin .lss), [.t 26, .c (.int .i64 0)], (some (25, false))⟩,
  ⟨(some 28), .pick, [.t 25, .c (.bool true), .t 27], none⟩,
  ⟨(some 29), .mv, [.t 28], none⟩,
  ⟨(some 30), .mv, [.t 7], (some (29, false))⟩,
  ⟨(some 31), (.fld 7), [.t 3], (some (29, false))⟩,
  ⟨(some 32), (.load 1 false), [.t 31], (some (29, false))⟩,
  ⟨(some 33), .len, [.t 32], (some (29, false))⟩,
  ⟨(some 34), (.bin .gtr), [.t 30, .t 33], (some (29, false))⟩,
  ⟨(some 35), .pick, [.t 29, .c (.bool true), .t 34], none⟩])
 (.cond (.t 35) (.seq (.reg [⟨(some 36), (.load 15 true), [.t 3], none⟩,
  ⟨none, (.store 15), [.t 6, .t 36], none⟩])
 .ret) .skip))
 (.seq (.seq (.reg [⟨(some 37), .mv, [.t 2], none⟩,
  ⟨(some 38), .len, [.t 37], none⟩,
  ⟨(some 39), .mv, [.c (.int .i64 0)], none⟩])
 (.block 0 (.loop (.seq (.reg [⟨(some 40), (.bin .lss), [.t 39, .t 38], none⟩])
 (.seq (.cond (.t 40) .skip (.exit 0))
 (.seq (.block 1 (.seq (.reg [⟨(some 41), .mv, [.t 39], none⟩,
  ⟨(some 42), (.idx 2), [.t 37, .t 39], none⟩,
  ⟨(some 43), (.load 2 true), [.t 42], none⟩,
  ⟨(some 9), (.alloc [.int .i64 0, .str ⟨#[]⟩]), [], none⟩,
  ⟨(some 8), .mv, [.t 41], none⟩,
  ⟨none, (.store 2), [.t 9, .t 43], none⟩])
 (.seq (.reg [⟨(some 44), .mv, [.t 7], none⟩,
  ⟨(some 45), .mv, [.t 8], none⟩,
  ⟨(some 46), (.bin .add), [.t 44, .t 45], none⟩,
  ⟨(some 10), .mv, [.t 46], none⟩])
 (.seq (.regd [⟨(some 47), .mv, [.t 10], none⟩,
  ⟨(some 48), (.fld 7), [.t 3], none⟩,
  ⟨(some 49), (.load 1 false), [.t 48], none⟩,
  ⟨(some 50), .len, [.t 49], none⟩,
  ⟨(some 51), (.bin .geq), [.t 47, .t 50], none⟩,
  ⟨(some 52), .mv, [.t 51], none⟩,
  ⟨(some 53), (.fld 7), [.t 3], (some (52, false))⟩,
  ⟨(some 54), (.load 1 false), [.t 53], (some (52, false))⟩,
  ⟨(some 55), .mv, [.t 10], (some (52, false))⟩,
  ⟨(some 56), (.idx 2), [.t 54, .t 55], (some (52, false))⟩,
  ⟨(some 57), (.fld 0), [.t 56], (some (52, false))⟩,
  ⟨(some 58), (.load 1 false), [.t 57], (some (52, false))⟩,
  ⟨(some 59), (.fld 0), [.t 9], (some (52, false))⟩,
  ⟨(some 60), (.load 1 false), [.t 59], (some (52, false))⟩,
  ⟨(some 61), (.bin .neq), [.t 58, .t 60], (some (52, false))⟩,
  ⟨(some 62), .pick, [.t 52, .c (.bool true), .t 61], none⟩] [0, 0, 2, 4, 9, 16, 32, 96, 32, 416, 544, 1056, 32, 4128, 10272, 16416])
 (.cond (.t 62) (.seq (.regd [⟨(some 63), (.fld 7), [.t 3], none⟩,
  ⟨(some 64), (.load 1 false), [.t 63], none⟩,
  ⟨(some 65), .mv, [.t 10], none⟩,
  ⟨(some 66), .mv, [.t 10], none⟩,
  ⟨(some 67), (.slc 2 false true true), [.t 64, .t 65, .t 66], none⟩,
  ⟨(some 68), .mv, [.t 2], none⟩,
  ⟨(some 69), .mv, [.t 8], none⟩,
  ⟨(some 70), (.slc 2 true false false), [.t 68, .t 69], none⟩,
  ⟨(some 71), (.app 2 24), [.t 67, .t 70], none⟩,
  ⟨(some 72), (.fld 7), [.t 3], none⟩,
  ⟨none, (.store 1), [.t 72, .t 71], none⟩] [0, 1, 0, 0, 14, 0, 0, 96, 144, 511, 1023])
 (.seq (.reg [⟨(some 73), (.load 15 true), [.t 3], none⟩,
  ⟨none, (.store 15), [.t 6, .t 73], none⟩])
 .ret)) .skip)))))
 (.reg [⟨(some 74), (.bin .add), [.t 39, .c (.int .i64 1)], none⟩,
  ⟨(some 39), .mv, [.t 74], none⟩])))))))
 (.seq (.reg [⟨(some 75), (.load 15 true), [.t 3], none⟩,
  ⟨none, (.store 15), [.t 6, .t 75], none⟩])
 .ret)))))
theorem comp34 : compC Go.Proofs.Try.prog ttL 76 [] (match Go.Proofs.Try.f34.body with | some b => b | none => .skip) = some (c34) := by kernel_rfl
end Go.AM
set_option maxRecDepth 100000
set_option maxHeartbeats 4000000
set_option linter.unusedSimpArgs false
namespace Go.AM
open Go.Proofs
attribute [local congr] vc_congr evOps_congr evTab_congr bind_congr condK_congr tabK_congr
theorem put'_ne {m l : List E} {k i : Nat} (hi : i < l.length) (h : m.length ≤ k ∨ ¬ (m.getD k (dflt tEntry)).1 = (l.getD i (dflt tEntry)).1) : put' m k (l.drop i) = m.take k ++ l.drop i := by
  rw [List.drop_eq_getElem_cons hi]
  rw [List.getD_eq_getElem?_getD, List.getD_eq_getElem?_getD, List.getElem?_eq_getElem hi] at h
  refine if_neg fun e => ?_
  rcases h with h | h
  · rw [List.getElem?_eq_none h] at e
    cases e
  · rcases Nat.lt_or_ge k m.length with hk | hk
    · rw [List.getElem?_eq_getElem hk] at e h
      simp only [Option.map_some, Option.some.injEq, Option.getD_some] at e h
      exact h e
    · rw [List.getElem?_eq_none hk] at e
      cases e
theorem put'_eq {m l : List E} {k i : Nat} (hi : i < l.length) (hk : k < m.length) (h : (m.getD k (dflt tEntry)).1 = (l.getD i (dflt tEntry)).1) : put' m k (l.drop i) = put' m (k + 1) (l.drop (i + 1)) := by
  rw [List.drop_eq_getElem_cons hi]
  rw [List.getD_eq_getElem?_getD, List.getD_eq_getElem?_getD, List.getElem?_eq_getElem hi, List.getElem?_eq_getElem hk] at h
  simp only [Option.getD_some] at h
  refine if_pos ?_
  rw [List.getElem?_eq_getElem hk]
  simp only [Option.map_some, h]
theorem put'_nil {m : List E} {k : Nat} : put' m k [] = m := rfl
def fn34 : Fn := { a := .pair tNode (.pair tI (.pair (.list tEntry) .unit)), r := .pair tNode .unit, pre := fun x => smallL (nLog x.1) ∧ smallL x.2.2.1 ∧ InR .i64 (x.2.1 - nBase x.1) ∧ InR .i64 (last x.1), f := fun x => (put x.1 x.2.1 x.2.2.1, ()) }
theorem h34  : Holds Try.prog 34 (fn34) := by
  refine Holds.of_vc (T := [(52, fn52)]) (TT := ttL) (rowAt := []) (c := c34) (ros := [.c 6 15]) (.cons _ h52 (.nil _)) mixed Try.func34 (by decide +kernel) (by rfl) comp34 (by kernel_rfl) rfl rfl (fun h => by cases h) ?_
  rintro ⟨(n : Node), (prev : Int), (l : List E), _⟩ hpre
  simp only [fn34] at hpre ⊢
  simp only [c34, fn52, go_sem, reduceIte, Nat.reduceBEq, Nat.reduceMul, reduceCtorEq, Nat.reduceAdd, Nat.reduceEqDiff, decide_eq_true_eq, decide_eq_false_iff_not, Bool.not_eq_true', Bool.not_eq_false', Bool.and_eq_true, Bool.or_eq_true, Bool.and_eq_false_iff, Bool.or_eq_false_iff, Bool.cond_true_left, Bool.cond_false_right, Bool.cond_true_right, Bool.cond_false_left, Bool.or_false, Bool.and_true, inR]
  obtain ⟨p1, p2, p3, p4⟩ := hpre
  refine ⟨p3, fun _ => p4, fun h => ?_, fun h => ?_⟩
  · exact (if_pos (by dsimp only [den, nId, nNodes, nTerm, nVote, nBase, nBT, nSnap, nLog, nRole, nLead, nCommit, nVotes, nNext, nMatch, nClock, mKind, mFrom, mTo, mTerm, mIndex, mAt, mYes, mCommit, mEntries, mSnap, eTerm, eCmd, mkN, mkM, mkE, last, inR, sm, lastT] at *; omega)).symm
  have hput : put n prev l = setLog n (put' (nLog n) (prev - nBase n).toNat l) := if_neg (by dsimp only [den, nId, nNodes, nTerm, nVote, nBase, nBT, nSnap, nLog, nRole, nLead, nCommit, nVotes, nNext, nMatch, nClock, mKind, mFrom, mTo, mTerm, mIndex, mAt, mYes, mCommit, mEntries, mSnap, eTerm, eCmd, mkN, mkM, mkE, last, inR, sm, lastT] at *; omega)
  rw [hput]
  clear hput
  have hat : 0 ≤ prev - nBase n ∧ prev - nBase n ≤ (nLog n).length := by dsimp only [den, nId, nNodes, nTerm, nVote, nBase, nBT, nSnap, nLog, nRole, nLead, nCommit, nVotes, nNext, nMatch, nClock, mKind, mFrom, mTo, mTerm, mIndex, mAt, mYes, mCommit, mEntries, mSnap, eTerm, eCmd, mkN, mkM, mkE, last, inR, sm, lastT] at *; omega
  generalize hat' : prev - n.2.2.2.2.1 = at_ at *
  refine loop_rule (β := Nat) (fun i => ⟨[(2, .sl tEntry l false), (3, .ptr 3 0), (6, .ptr 6 0), (7, .int .i64 at_), (37, .sl tEntry l false), (38, .int .i64 l.length), (39, .int .i64 i)], [(3, .box (cellsA tNode n [])), (6, .box zN)]⟩)
    (fun i => i ≤ l.length ∧ at_.toNat + i ≤ (nLog n).length ∧ put' (nLog n) (at_.toNat + i) (l.drop i) = put' (nLog n) at_.toNat l) (fun i => l.length - i) 0 ?_ ?_ ?_
  · refine Ent_of [(3, 3), (6, 6)] rfl ?_ ?_
    · simp only [go_sem, reduceIte, Nat.reduceBEq, Nat.reduceMul, reduceCtorEq, Nat.reduceAdd, Nat.reduceEqDiff, decide_eq_true_eq, decide_eq_false_iff_not, Bool.not_eq_true', Bool.not_eq_false', Bool.and_eq_true, Bool.or_eq_true, Bool.and_eq_false_iff, Bool.or_eq_false_iff, Bool.cond_true_left, Bool.cond_false_right, Bool.cond_true_right, Bool.cond_false_left, Bool.or_false, Bool.and_true]
    · simp only [go_sem, reduceIte, Nat.reduceBEq, Nat.reduceMul, reduceCtorEq, Nat.reduceAdd, Nat.reduceEqDiff, decide_eq_true_eq, decide_eq_false_iff_not, Bool.not_eq_true', Bool.not_eq_false', Bool.and_eq_true, Bool.or_eq_true, Bool.and_eq_false_iff, Bool.or_eq_false_iff, Bool.cond_true_left, Bool.cond_false_right, Bool.cond_true_right, Bool.cond_false_left, Bool.or_false, Bool.and_true]
      trivial
  · refine ⟨Nat.zero_le _, ?_, rfl⟩
    dsimp only [den, nId, nNodes, nTerm, nVote, nBase, nBT, nSnap, nLog, nRole, nLead, nCommit, nVotes, nNext, nMatch, nClock, mKind, mFrom, mTo, mTerm, mIndex, mAt, mYes, mCommit, mEntries, mSnap, eTerm, eCmd, mkN, mkM, mkE, last, inR, sm, lastT] at *; omega
  rintro i ⟨hi, hki, hk⟩
  simp only [sm] at p1 p2
  simp only [go_sem, reduceIte, Nat.reduceBEq, Nat.reduceMul, reduceCtorEq, Nat.reduceAdd, Nat.reduceEqDiff, decide_eq_true_eq, decide_eq_false_iff_not, Bool.not_eq_true', Bool.not_eq_false', Bool.and_eq_true, Bool.or_eq_true, Bool.and_eq_false_iff, Bool.or_eq_false_iff, Bool.cond_true_left, Bool.cond_false_right, Bool.cond_true_right, Bool.cond_false_left, Bool.or_false, Bool.and_true, inR, decide_true]
  have hki' : at_.toNat + i ≤ n.2.2.2.2.2.2.2.1.length := hki
  have p1' : n.2.2.2.2.2.2.2.1.length ≤ 1048576 := p1
  have hat1 : 0 ≤ at_ := hat.1
  have e0 : (at_ + (i : Int)).toNat = at_.toNat + i := by omega
  have hl1 : (List.take (at_.toNat + i) n.2.2.2.2.2.2.2.1).length ≤ 1048576 := by rw [List.length_take]; omega
  have hl2 : (List.drop i l).length ≤ 1048576 := by rw [List.length_drop]; omega
  simp only [e0]
  refine ⟨fun h => ⟨by omega, by omega, fun h2 => by omega, by rfl, fun h2 => ⟨by omega, by omega, ⟨.inr ?_, by omega, by omega⟩, by rfl, ?_⟩, fun h2 => ⟨by omega, Again.intro (i + 1) (Ent_of [(3, 3), (6, 6)] rfl ?_ ?_) ⟨?_, ?_, ?_⟩ (show l.length - (i + 1) < l.length - i by omega)⟩⟩, fun h => ?_⟩
  · intro e
    have := congrArg List.length e
    rw [List.length_drop] at this
    simp only [List.length_nil] at this
    omega
  · rw [← hk, put'_ne (by omega) ?_, List.take_of_length_le (by rw [List.length_append]; exact Nat.le_refl _)]
    · rfl
    · rcases h2 with h2 | h2
      · left; show n.2.2.2.2.2.2.2.1.length ≤ _; omega
      · exact .inr h2
  · simp only [go_sem, reduceIte, Nat.reduceBEq, Nat.reduceMul, reduceCtorEq, Nat.reduceAdd, Nat.reduceEqDiff, decide_eq_true_eq, decide_eq_false_iff_not, Bool.not_eq_true', Bool.not_eq_false', Bool.and_eq_true, Bool.or_eq_true, Bool.and_eq_false_iff, Bool.or_eq_false_iff, Bool.cond_true_left, Bool.cond_false_right, Bool.cond_true_right, Bool.cond_false_left, Bool.or_false, Bool.and_true]
  · simp only [go_sem, reduceIte, Nat.reduceBEq, Nat.reduceMul, reduceCtorEq, Nat.reduceAdd, Nat.reduceEqDiff, decide_eq_true_eq, decide_eq_false_iff_not, Bool.not_eq_true', Bool.not_eq_false', Bool.and_eq_true, Bool.or_eq_true, Bool.and_eq_false_iff, Bool.or_eq_false_iff, Bool.cond_true_left, Bool.cond_false_right, Bool.cond_true_right, Bool.cond_false_left, Bool.or_false, Bool.and_true]
    omega
  · show i + 1 ≤ l.length; omega
  · show at_.toNat + (i + 1) ≤ n.2.2.2.2.2.2.2.1.length; omega
  · rw [← hk, put'_eq (by omega) (show at_.toNat + i < n.2.2.2.2.2.2.2.1.length by omega) h2.2]
    rfl
  · rw [← hk, show i = l.length by omega, List.drop_length, put'_nil]
    rfl
end Go.AM
