import Derived.Test.YtbcbgfkojmligaaHH
import Derived.KernelRfl
import Derived.Test.YtbcbgfkojmligaaProg
/- What functions of the program answer, each under the conditions that its contract names. -/
set_option linter.unusedVariables false
set_option linter.unusedSimpArgs false
set_option maxRecDepth 100000
namespace Go.AM
def c38 : C := (.seq (.reg [⟨(some 1), .box, [.t 0], none⟩,
  ⟨(some 2), (.alloc [.int .i64 0, .int .i64 0, .int .i64 0, .int .i64 0, .int .i64 0, .int .i64 0, .str ⟨#[]⟩, .sl tEntry [] true, .int .i64 0, .int .i64 0, .int .i64 0, .sl .bool [] true, .sl tI [] true, .sl tI [] true, .int .i64 0]), [], none⟩,
  ⟨(some 3), .mv, [.c (.sl tMsg [] true)], none⟩])
 (.seq (.reg [⟨(some 6), (.fld 2), [.t 1], none⟩,
  ⟨(some 7), (.load 1 false), [.t 6], none⟩,
  ⟨(some 8), (.bin .add), [.t 7, .c (.int .i64 1)], none⟩,
  ⟨(some 9), (.fld 2), [.t 1], none⟩,
  ⟨none, (.store 1), [.t 9, .t 8], none⟩])
 (.seq (.reg [⟨(some 10), (.fld 0), [.t 1], none⟩,
  ⟨(some 11), (.load 1 false), [.t 10], none⟩,
  ⟨(some 12), (.fld 8), [.t 1], none⟩,
  ⟨none, (.store 1), [.t 12, .c (.int .i64 1)], none⟩,
  ⟨(some 13), (.fld 9), [.t 1], none⟩,
  ⟨none, (.store 1), [.t 13, .c (.int .i64 (-1))], none⟩,
  ⟨(some 14), (.fld 14), [.t 1], none⟩,
  ⟨none, (.store 1), [.t 14, .c (.int .i64 0)], none⟩,
  ⟨(some 15), (.fld 3), [.t 1], none⟩,
  ⟨none, (.store 1), [.t 15, .t 11], none⟩])
 (.seq (.reg [⟨(some 16), (.fld 1), [.t 1], none⟩,
  ⟨(some 17), (.load 1 false), [.t 16], none⟩,
  ⟨(some 18), (.mks .bool 1), [.t 17, .t 17], none⟩,
  ⟨(some 19), (.fld 11), [.t 1], none⟩,
  ⟨none, (.store 1), [.t 19, .t 18], none⟩])
 (.seq (.reg [⟨(some 20), (.fld 11), [.t 1], none⟩,
  ⟨(some 21), (.load 1 false), [.t 20], none⟩,
  ⟨(some 22), (.fld 0), [.t 1], none⟩,
  ⟨(some 23), (.load 1 false), [.t 22], none⟩,
  ⟨(some 24), (.idx 1), [.t 21, .t 23], none⟩,
  ⟨none, (.store 1), [.t 24, .c (.bool true)], none⟩])
 (.seq (.reg [⟨(some 4), .mv, [.c (.sl tMsg [] true)], none⟩])
 (.seq (.seq (.reg [⟨(some 5), .mv, [.c (.int .i64 0)], none⟩])
 (.block 0 (.loop (.seq (.seq (.reg [⟨(some 25), .mv, [.t 5], none⟩,
  ⟨(some 26), (.fld 1), [.t 1], none⟩,
  ⟨(some 27), (.load 1 false), [.t 26], none⟩,
  ⟨(some 28), (.bin .lss), [.t 25, .t 27], none⟩])
 (.cond (.t 28) .skip (.exit 0)))
 (.seq (.block 1 (.seq (.reg [⟨(some 31), .mv, [.t 5], none⟩,
  ⟨(some 32), (.fld 0), [.t 1], none⟩,
  ⟨(some 33), (.load 1 false), [.t 32], none⟩,
  ⟨(some 34), (.bin .neq), [.t 31, .t 33], none⟩])
 (.cond (.t 34) (.regd [⟨(some 35), .mv, [.t 4], none⟩,
  ⟨(some 36), (.fld 0), [.t 1], none⟩,
  ⟨(some 37), (.load 1 false), [.t 36], none⟩,
  ⟨(some 38), .mv, [.t 5], none⟩,
  ⟨(some 39), (.fld 2), [.t 1], none⟩,
  ⟨(some 40), (.load 1 false), [.t 39], none⟩,
  ⟨(some 41), (.load 15 true), [.t 1], none⟩,
  ⟨(some 42), (.call 30), [.t 41], none⟩,
  ⟨(some 43), (.load 15 true), [.t 1], none⟩,
  ⟨(some 44), (.call 94), [.t 43], none⟩,
  ⟨(some 45), (.build [.int .i64 0, .int .i64 0, .int .i64 0, .int .i64 0, .int .i64 0, .int .i64 0, .bool false, .int .i64 0, .sl tEntry [] true, .str ⟨#[]⟩] [(0, 1), (1, 1), (2, 1), (3, 1), (4, 1), (5, 1)]), [.c (.int .i64 1), .t 37, .t 38, .t 40, .t 42, .t 44], none⟩,
  ⟨(some 46), (.bslice tMsg 1), [.t 45], none⟩,
  ⟨(some 47), (.app 10 104), [.t 35, .t 46], none⟩,
  ⟨(some 4), .mv, [.t 47], none⟩] [0, 0, 2, 0, 0, 16, 0, 64, 0, 384, 684, 1024, 2561, 8191]) .skip)))
 (.reg [⟨(some 29), .mv, [.t 5], none⟩,
  ⟨(some 30), (.bin .add), [.t 29, .c (.int .i64 1)], none⟩,
  ⟨(some 5), .mv, [.t 30], none⟩]))))))
 (.seq (.reg [⟨(some 48), (.load 15 true), [.t 1], none⟩,
  ⟨(some 49), .mv, [.t 4], none⟩,
  ⟨none, (.store 15), [.t 2, .t 48], none⟩,
  ⟨(some 3), .mv, [.t 49], none⟩])
 .ret))))))))
theorem comp38 : compC Go.Proofs.Try.prog ttL 50 [] (match Go.Proofs.Try.f38.body with | some b => b | none => .skip) = some (c38) := by kernel_rfl
def c41 : C := (.seq (.reg [⟨(some 2), .box, [.t 0], none⟩,
  ⟨(some 3), .box, [.t 1], none⟩,
  ⟨(some 4), (.alloc [.int .i64 0, .int .i64 0, .int .i64 0, .int .i64 0, .int .i64 0, .int .i64 0, .str ⟨#[]⟩, .sl tEntry [] true, .int .i64 0, .int .i64 0, .int .i64 0, .sl .bool [] true, .sl tI [] true, .sl tI [] true, .int .i64 0]), [], none⟩,
  ⟨(some 5), .mv, [.c (.bool false)], none⟩])
 (.seq (.reg [⟨(some 8), (.load 15 true), [.t 2], none⟩,
  ⟨(some 9), (.fld 3), [.t 3], none⟩,
  ⟨(some 10), (.load 1 false), [.t 9], none⟩,
  ⟨(some 11), (.call 43), [.t 8, .t 10], none⟩,
  ⟨none, (.store 15), [.t 2, .t 11], none⟩])
 (.seq (.seq (.reg [⟨(some 12), (.fld 6), [.t 3], none⟩,
  ⟨(some 13), (.load 1 false), [.t 12], none⟩,
  ⟨(some 14), .not, [.t 13], none⟩,
  ⟨(some 15), .mv, [.t 14], none⟩,
  ⟨(some 16), (.fld 3), [.t 3], (some (15, false))⟩,
  ⟨(some 17), (.load 1 false), [.t 16], (some (15, false))⟩,
  ⟨(some 18), (.fld 2), [.t 2], (some (15, false))⟩,
  ⟨(some 19), (.load 1 false), [.t 18], (some (15, false))⟩,
  ⟨(some 20), (.bin .neq), [.t 17, .t 19], (some (15, false))⟩,
  ⟨(some 21), .pick, [.t 15, .c (.bool true), .t 20], none⟩,
  ⟨(some 22), .mv, [.t 21], none⟩,
  ⟨(some 23), (.fld 8), [.t 2], (some (22, false))⟩,
  ⟨(some 24), (.load 1 false), [.t 23], (some (22, false))⟩,
  ⟨(some 25), (.bin .neq), [.t 24, .c (.int .i64 1)], (some (22, false))⟩,
  ⟨(some 26), .pick, [.t 22, .c (.bool true), .t 25], none⟩])
 (.cond (.t 26) (.seq (.reg [⟨(some 27), (.load 15 true), [.t 2], none⟩,
  ⟨none, (.store 15), [.t 4, .t 27], none⟩,
  ⟨(some 5), .mv, [.c (.bool false)], none⟩])
 .ret) .skip))
 (.seq (.reg [⟨(some 28), (.fld 11), [.t 2], none⟩,
  ⟨(some 29), (.load 1 false), [.t 28], none⟩,
  ⟨(some 30), (.app 1 1), [.c (.sl .bool [] true), .t 29], none⟩,
  ⟨(some 31), (.fld 11), [.t 2], none⟩,
  ⟨none, (.store 1), [.t 31, .t 30], none⟩])
 (.seq (.reg [⟨(some 32), (.fld 11), [.t 2], none⟩,
  ⟨(some 33), (.load 1 false), [.t 32], none⟩,
  ⟨(some 34), (.fld 1), [.t 3], none⟩,
  ⟨(some 35), (.load 1 false), [.t 34], none⟩,
  ⟨(some 36), (.idx 1), [.t 33, .t 35], none⟩,
  ⟨none, (.store 1), [.t 36, .c (.bool true)], none⟩])
 (.seq (.reg [⟨(some 6), .mv, [.c (.int .i64 0)], none⟩])
 (.seq (.seq (.reg [⟨(some 7), .mv, [.c (.int .i64 0)], none⟩])
 (.block 0 (.loop (.seq (.seq (.reg [⟨(some 37), .mv, [.t 7], none⟩,
  ⟨(some 38), (.fld 1), [.t 2], none⟩,
  ⟨(some 39), (.load 1 false), [.t 38], none⟩,
  ⟨(some 40), (.bin .lss), [.t 37, .t 39], none⟩])
 (.cond (.t 40) .skip (.exit 0)))
 (.seq (.block 1 (.seq (.reg [⟨(some 43), (.fld 11), [.t 2], none⟩,
  ⟨(some 44), (.load 1 false), [.t 43], none⟩,
  ⟨(some 45), .mv, [.t 7], none⟩,
  ⟨(some 46), (.idx 1), [.t 44, .t 45], none⟩,
  ⟨(some 47), (.load 1 false), [.t 46], none⟩])
 (.cond (.t 47) (.reg [⟨(some 48), .mv, [.t 6], none⟩,
  ⟨(some 49), (.bin .add), [.t 48, .c (.int .i64 1)], none⟩,
  ⟨(some 6), .mv, [.t 49], none⟩]) .skip)))
 (.reg [⟨(some 41), .mv, [.t 7], none⟩,
  ⟨(some 42), (.bin .add), [.t 41, .c (.int .i64 1)], none⟩,
  ⟨(some 7), .mv, [.t 42], none⟩]))))))
 (.seq (.regd [⟨(some 50), (.load 15 true), [.t 2], none⟩,
  ⟨(some 51), .mv, [.t 6], none⟩,
  ⟨(some 52), (.load 15 true), [.t 2], none⟩,
  ⟨(some 53), (.call 45), [.t 52], none⟩,
  ⟨(some 54), (.bin .geq), [.t 51, .t 53], none⟩,
  ⟨none, (.store 15), [.t 4, .t 50], none⟩,
  ⟨(some 5), .mv, [.t 54], none⟩] [0, 0, 0, 4, 10, 9, 63])
 .ret))))))))
theorem comp41 : compC Go.Proofs.Try.prog ttL 55 [] (match Go.Proofs.Try.f41.body with | some b => b | none => .skip) = some (c41) := by kernel_rfl
def c42 : C := (.seq (.reg [⟨(some 4), .mv, [.c (.bool false)], none⟩])
 (.seq (.seq (.reg [⟨(some 6), .mv, [.t 0], none⟩,
  ⟨(some 7), .len, [.t 6], none⟩,
  ⟨(some 8), .mv, [.t 1], none⟩,
  ⟨(some 9), .len, [.t 8], none⟩,
  ⟨(some 10), (.bin .neq), [.t 7, .t 9], none⟩])
 (.cond (.t 10) (.seq (.reg [⟨(some 4), .mv, [.c (.bool false)], none⟩])
 .ret) .skip))
 (.seq (.seq (.reg [⟨(some 5), .mv, [.c (.int .i64 0)], none⟩])
 (.block 0 (.loop (.seq (.seq (.reg [⟨(some 11), .mv, [.t 5], none⟩,
  ⟨(some 12), .mv, [.t 0], none⟩,
  ⟨(some 13), .len, [.t 12], none⟩,
  ⟨(some 14), (.bin .lss), [.t 11, .t 13], none⟩])
 (.cond (.t 14) .skip (.exit 0)))
 (.seq (.block 1 (.seq (.regd [⟨(some 17), .mv, [.t 0], none⟩,
  ⟨(some 18), .mv, [.t 5], none⟩,
  ⟨(some 19), (.idx 10), [.t 17, .t 18], none⟩,
  ⟨(some 20), (.load 10 true), [.t 19], none⟩,
  ⟨(some 21), .mv, [.t 1], none⟩,
  ⟨(some 22), .mv, [.t 5], none⟩,
  ⟨(some 23), (.idx 10), [.t 21, .t 22], none⟩,
  ⟨(some 24), (.load 10 true), [.t 23], none⟩,
  ⟨(some 25), (.call 69), [.t 20, .t 24], none⟩,
  ⟨(some 26), .not, [.t 25], none⟩] [0, 0, 3, 4, 0, 0, 48, 64, 136, 256])
 (.cond (.t 26) (.seq (.reg [⟨(some 4), .mv, [.c (.bool false)], none⟩])
 .ret) .skip)))
 (.reg [⟨(some 15), .mv, [.t 5], none⟩,
  ⟨(some 16), (.bin .add), [.t 15, .c (.int .i64 1)], none⟩,
  ⟨(some 5), .mv, [.t 16], none⟩]))))))
 (.seq (.reg [⟨(some 4), .mv, [.c (.bool true)], none⟩])
 .ret))))
theorem comp42 : compC Go.Proofs.Try.prog ttL 27 [] (match Go.Proofs.Try.f42.body with | some b => b | none => .skip) = some (c42) := by kernel_rfl
end Go.AM
set_option maxRecDepth 100000
set_option maxHeartbeats 4000000
set_option linter.unusedSimpArgs false
namespace Go.AM
open Go.Proofs
attribute [local congr] vc_congr evOps_congr evTab_congr bind_congr condK_congr tabK_congr
def fn38 : Fn := { a := .pair tNode .unit, r := .pair tNode (.pair (.olist tMsg) .unit), pre := fun x => 0 ≤ nBase x.1 ∧ last x.1 ≤ 4398046511104 ∧ -5 ≤ nTerm x.1 ∧ nTerm x.1 ≤ 4398046511104 ∧ 0 ≤ nId x.1 ∧ nId x.1 < nNodes x.1 ∧ nNodes x.1 ≤ 5, f := fun x => (start1 x.1, start2 x.1, ()) }
theorem h38  : Holds Try.prog 38 (fn38) := by
  refine Holds.of_vc (T := [(30, fn30), (94, fn94)]) (TT := ttL) (rowAt := []) (c := c38) (ros := [.c 2 15, .t 3]) (.cons _ h30 (.cons _ h94 (.nil _))) mixed Try.func38 (by decide +kernel) (by rfl) comp38 (by kernel_rfl) rfl rfl (fun h => by cases h) ?_
  rintro ⟨(n : Node), _⟩ hpre
  simp only [fn38] at hpre ⊢
  simp only [c38, fn30, fn94, go_sem, reduceIte, Nat.reduceBEq, Nat.reduceMul, reduceCtorEq, Nat.reduceAdd, Nat.reduceEqDiff, decide_eq_true_eq, decide_eq_false_iff_not, Bool.not_eq_true', Bool.not_eq_false', Bool.and_eq_true, Bool.or_eq_true, Bool.and_eq_false_iff, Bool.or_eq_false_iff, Bool.cond_true_left, Bool.cond_false_right, Bool.cond_true_right, Bool.cond_false_left, Bool.or_false, Bool.and_true, inR]
  have hs : start1 n = mkN (nId n) (nNodes n) (nTerm n + 1) (nId n) (nBase n) (nBT n) (nSnap n) (nLog n) 1 (-1) (nCommit n) ((List.replicate (nNodes n).toNat false).set (nId n).toNat true) (nNext n) (nMatch n) 0 := by
    have hv : votes (start0 n) = List.replicate (nNodes n).toNat false := by
      show List.replicate (max 0 (min (nNodes n) 5)).toNat false = _
      rw [show (max 0 (min (nNodes n) 5)).toNat = (nNodes n).toNat by dsimp only [den, nId, nNodes, nTerm, nVote, nBase, nBT, nSnap, nLog, nRole, nLead, nCommit, nVotes, nNext, nMatch, nClock, mKind, mFrom, mTo, mTerm, mIndex, mAt, mYes, mCommit, mEntries, mSnap, eTerm, eCmd, mkN, mkM, mkE, last, inR, sm, lastT] at *; omega]
    unfold start1 own
    rw [hv]
    refine (if_pos ?_).trans rfl
    rw [List.length_replicate]
    show 0 ≤ nId n ∧ nId n < _
    dsimp only [den, nId, nNodes, nTerm, nVote, nBase, nBT, nSnap, nLog, nRole, nLead, nCommit, nVotes, nNext, nMatch, nClock, mKind, mFrom, mTo, mTerm, mIndex, mAt, mYes, mCommit, mEntries, mSnap, eTerm, eCmd, mkN, mkM, mkE, last, inR, sm, lastT] at *
    omega
  simp only [start2]
  have h1 : last (start1 n) = last n := start1_last n
  have h2 : nBase (start1 n) = nBase n := start1_base n
  have h3 : (nVotes (start1 n)).length = (nNodes n).toNat := by rw [hs]; show ((List.replicate _ _).set _ _).length = _; rw [List.length_set, List.length_replicate]
  have h4 : nNodes (start1 n) = nNodes n := by rw [hs]
  generalize start1 n = s at *
  refine ⟨by dsimp only [den, nId, nNodes, nTerm, nVote, nBase, nBT, nSnap, nLog, nRole, nLead, nCommit, nVotes, nNext, nMatch, nClock, mKind, mFrom, mTo, mTerm, mIndex, mAt, mYes, mCommit, mEntries, mSnap, eTerm, eCmd, mkN, mkM, mkE, last, inR, sm, lastT] at *; omega, by dsimp only [den, nId, nNodes, nTerm, nVote, nBase, nBT, nSnap, nLog, nRole, nLead, nCommit, nVotes, nNext, nMatch, nClock, mKind, mFrom, mTo, mTerm, mIndex, mAt, mYes, mCommit, mEntries, mSnap, eTerm, eCmd, mkN, mkM, mkE, last, inR, sm, lastT] at *; omega, by dsimp only [den, nId, nNodes, nTerm, nVote, nBase, nBT, nSnap, nLog, nRole, nLead, nCommit, nVotes, nNext, nMatch, nClock, mKind, mFrom, mTo, mTerm, mIndex, mAt, mYes, mCommit, mEntries, mSnap, eTerm, eCmd, mkN, mkM, mkE, last, inR, sm, lastT] at *; omega, ?_⟩
  refine loop_rule (β := Nat) (fun i => ⟨[(1, .ptr 1 0), (2, .ptr 2 0), (4, .own 47 0 (startMsgs s i).length), (5, .int .i64 i)], [(1, .box (cellsA tNode s [])), (2, .box zN), (47, .row tMsg (startMsgs s i) false)]⟩)
    (fun i => i ≤ (nVotes s).length) (fun i => (nVotes s).length - i) 0 ?_ ?_ ?_
  · refine Ent_fz [18] [(1, 1), (2, 2)] rfl ?_ ?_
    · subst hs
      simp only [go_sem, reduceIte, Nat.reduceBEq, Nat.reduceMul, reduceCtorEq, Nat.reduceAdd, Nat.reduceEqDiff, decide_eq_true_eq, decide_eq_false_iff_not, Bool.not_eq_true', Bool.not_eq_false', Bool.and_eq_true, Bool.or_eq_true, Bool.and_eq_false_iff, Bool.or_eq_false_iff, Bool.cond_true_left, Bool.cond_false_right, Bool.cond_true_right, Bool.cond_false_left, Bool.or_false, Bool.and_true]
      exact ⟨List.take_of_length_le (by rw [List.length_set, List.length_replicate]; exact Nat.le_refl _), rfl, by decide⟩
    · simp only [go_sem, reduceIte, Nat.reduceBEq, Nat.reduceMul, reduceCtorEq, Nat.reduceAdd, Nat.reduceEqDiff, decide_eq_true_eq, decide_eq_false_iff_not, Bool.not_eq_true', Bool.not_eq_false', Bool.and_eq_true, Bool.or_eq_true, Bool.and_eq_false_iff, Bool.or_eq_false_iff, Bool.cond_true_left, Bool.cond_false_right, Bool.cond_true_right, Bool.cond_false_left, Bool.or_false, Bool.and_true]
      exact ⟨rfl, rfl⟩
  · exact Nat.zero_le _
  intro i hi
  have hl := startMsgs_len s i
  simp only [go_sem, reduceIte, Nat.reduceBEq, Nat.reduceMul, reduceCtorEq, Nat.reduceAdd, Nat.reduceEqDiff, decide_eq_true_eq, decide_eq_false_iff_not, Bool.not_eq_true', Bool.not_eq_false', Bool.and_eq_true, Bool.or_eq_true, Bool.and_eq_false_iff, Bool.or_eq_false_iff, Bool.cond_true_left, Bool.cond_false_right, Bool.cond_true_right, Bool.cond_false_left, Bool.or_false, Bool.and_true, inR]
  have h4' : nNodes n = s.2.1 := h4.symm
  have hp : (0 ≤ nBase n ∧ last n ≤ 4398046511104) := ⟨hpre.1, hpre.2.1⟩
  have hp5 : nNodes n ≤ 5 := hpre.2.2.2.2.2.2
  have hlr : -9223372036854775808 ≤ last s ∧ last s ≤ 9223372036854775807 := by
    rw [h1]
    have : last n = nBase n + (nLog n).length := rfl
    omega
  have hb0 : 0 ≤ nBase s := by rw [h2]; exact hp.1
  refine ⟨fun h => ⟨fun hne => ⟨hlr, ⟨hlr, hb0⟩, by omega, by rfl, by omega, Again.intro (i + 1) (Ent_of [(1, 1), (2, 2), (47, 47)] rfl ?_ ?_) ?_ ?_⟩, fun he => ⟨by omega, Again.intro (i + 1) (Ent_of [(1, 1), (2, 2), (47, 47)] rfl ?_ ?_) ?_ ?_⟩⟩, fun h => ?_⟩
  · simp only [go_sem, reduceIte, Nat.reduceBEq, Nat.reduceMul, reduceCtorEq, Nat.reduceAdd, Nat.reduceEqDiff, decide_eq_true_eq, decide_eq_false_iff_not, Bool.not_eq_true', Bool.not_eq_false', Bool.and_eq_true, Bool.or_eq_true, Bool.and_eq_false_iff, Bool.or_eq_false_iff, Bool.cond_true_left, Bool.cond_false_right, Bool.cond_true_right, Bool.cond_false_left, Bool.or_false, Bool.and_true]
    exact startMsgs_yes s i hne
  · simp only [go_sem, reduceIte, Nat.reduceBEq, Nat.reduceMul, reduceCtorEq, Nat.reduceAdd, Nat.reduceEqDiff, decide_eq_true_eq, decide_eq_false_iff_not, Bool.not_eq_true', Bool.not_eq_false', Bool.and_eq_true, Bool.or_eq_true, Bool.and_eq_false_iff, Bool.or_eq_false_iff, Bool.cond_true_left, Bool.cond_false_right, Bool.cond_true_right, Bool.cond_false_left, Bool.or_false, Bool.and_true]
    rw [startMsgs_yes s i hne, List.length_append]
    exact ⟨rfl, by omega⟩
  · show i + 1 ≤ (nVotes s).length; omega
  · show (nVotes s).length - (i + 1) < (nVotes s).length - i; omega
  · simp only [go_sem, reduceIte, Nat.reduceBEq, Nat.reduceMul, reduceCtorEq, Nat.reduceAdd, Nat.reduceEqDiff, decide_eq_true_eq, decide_eq_false_iff_not, Bool.not_eq_true', Bool.not_eq_false', Bool.and_eq_true, Bool.or_eq_true, Bool.and_eq_false_iff, Bool.or_eq_false_iff, Bool.cond_true_left, Bool.cond_false_right, Bool.cond_true_right, Bool.cond_false_left, Bool.or_false, Bool.and_true]
    exact startMsgs_no s i he
  · simp only [go_sem, reduceIte, Nat.reduceBEq, Nat.reduceMul, reduceCtorEq, Nat.reduceAdd, Nat.reduceEqDiff, decide_eq_true_eq, decide_eq_false_iff_not, Bool.not_eq_true', Bool.not_eq_false', Bool.and_eq_true, Bool.or_eq_true, Bool.and_eq_false_iff, Bool.or_eq_false_iff, Bool.cond_true_left, Bool.cond_false_right, Bool.cond_true_right, Bool.cond_false_left, Bool.or_false, Bool.and_true]
    rw [startMsgs_no s i he]
    exact ⟨rfl, by omega⟩
  · show i + 1 ≤ (nVotes s).length; omega
  · show (nVotes s).length - (i + 1) < (nVotes s).length - i; omega
  · have : i = (nVotes s).length := by omega
    subst this
    rfl
noncomputable def fn42 : Fn := { a := .pair (.list tMsg) (.pair (.list tMsg) .unit), r := .pair .bool .unit, pre := fun x => smallL x.1 ∧ ∀ m ∈ x.1, smallL (mEntries m), f := fun x => (eqB x.1 x.2.1, ()) }
theorem h42  : Holds Try.prog 42 (fn42) := by
  refine Holds.of_vc (T := [(69, fn69)]) (TT := ttL) (rowAt := []) (c := c42) (ros := [.t 4]) (.cons _ h69 (.nil _)) mixed Try.func42 (by decide +kernel) (by rfl) comp42 (by kernel_rfl) rfl rfl (fun h => by cases h) ?_
  rintro ⟨(a : List Msg), (b : List Msg), _⟩ hpre
  simp only [fn42] at hpre ⊢
  simp only [c42, fn69, go_sem, reduceIte, Nat.reduceBEq, Nat.reduceMul, reduceCtorEq, Nat.reduceAdd, Nat.reduceEqDiff, decide_eq_true_eq, decide_eq_false_iff_not, Bool.not_eq_true', Bool.not_eq_false', Bool.and_eq_true, Bool.or_eq_true, Bool.and_eq_false_iff, Bool.or_eq_false_iff, Bool.cond_true_left, Bool.cond_false_right, Bool.cond_true_right, Bool.cond_false_left, Bool.or_false, Bool.and_true, inR]
  refine ⟨fun h => eqB_ne fun e => h (by rw [e]), fun hl => ?_⟩
  have hl' : a.length = b.length := by omega
  refine loop_rule (β := Nat) (fun i => ⟨[(0, .sl tMsg a false), (1, .sl tMsg b false), (5, .int .i64 i)], []⟩) (fun i => i ≤ a.length ∧ ∀ j, j < i → a.getD j (dflt tMsg) = b.getD j (dflt tMsg)) (fun i => a.length - i) 0 ?_ ?_ ?_
  · refine Ent_of [] rfl ?_ ?_
    · simp only [go_sem, reduceIte, Nat.reduceBEq, Nat.reduceMul, reduceCtorEq, Nat.reduceAdd, Nat.reduceEqDiff, decide_eq_true_eq, decide_eq_false_iff_not, Bool.not_eq_true', Bool.not_eq_false', Bool.and_eq_true, Bool.or_eq_true, Bool.and_eq_false_iff, Bool.or_eq_false_iff, Bool.cond_true_left, Bool.cond_false_right, Bool.cond_true_right, Bool.cond_false_left, Bool.or_false, Bool.and_true]
    · simp only [go_sem, reduceIte, Nat.reduceBEq, Nat.reduceMul, reduceCtorEq, Nat.reduceAdd, Nat.reduceEqDiff, decide_eq_true_eq, decide_eq_false_iff_not, Bool.not_eq_true', Bool.not_eq_false', Bool.and_eq_true, Bool.or_eq_true, Bool.and_eq_false_iff, Bool.or_eq_false_iff, Bool.cond_true_left, Bool.cond_false_right, Bool.cond_true_right, Bool.cond_false_left, Bool.or_false, Bool.and_true]
      trivial
  · exact ⟨Nat.zero_le _, fun j hj => absurd hj (Nat.not_lt_zero j)⟩
  rintro i ⟨hi, hk⟩
  have hp1 : a.length ≤ 1048576 := hpre.1
  have hp2 : i < a.length → smallL (mEntries (a.getD i (dflt tMsg))) := fun h => by
    rw [List.getD_eq_getElem?_getD, List.getElem?_eq_getElem h]
    exact hpre.2 _ (List.getElem_mem h)
  simp only [go_sem, reduceIte, Nat.reduceBEq, Nat.reduceMul, reduceCtorEq, Nat.reduceAdd, Nat.reduceEqDiff, decide_eq_true_eq, decide_eq_false_iff_not, Bool.not_eq_true', Bool.not_eq_false', Bool.and_eq_true, Bool.or_eq_true, Bool.and_eq_false_iff, Bool.or_eq_false_iff, Bool.cond_true_left, Bool.cond_false_right, Bool.cond_true_right, Bool.cond_false_left, Bool.or_false, Bool.and_true, inR]
  refine ⟨fun h => ⟨by omega, by omega, hp2 (by omega), by rfl, fun hd => eqB_ne fun e => ?_, fun hs => ⟨by omega, Again.intro (i + 1) (Ent_of [] rfl ?_ ?_) ⟨?_, upTo hk (eqB_iff.1 hs)⟩ (show a.length - (i + 1) < a.length - i by omega)⟩⟩, fun h => ?_⟩
  · subst e; rw [eqB_self] at hd; cases hd
  · simp only [go_sem, reduceIte, Nat.reduceBEq, Nat.reduceMul, reduceCtorEq, Nat.reduceAdd, Nat.reduceEqDiff, decide_eq_true_eq, decide_eq_false_iff_not, Bool.not_eq_true', Bool.not_eq_false', Bool.and_eq_true, Bool.or_eq_true, Bool.and_eq_false_iff, Bool.or_eq_false_iff, Bool.cond_true_left, Bool.cond_false_right, Bool.cond_true_right, Bool.cond_false_left, Bool.or_false, Bool.and_true]
  · simp only [go_sem, reduceIte, Nat.reduceBEq, Nat.reduceMul, reduceCtorEq, Nat.reduceAdd, Nat.reduceEqDiff, decide_eq_true_eq, decide_eq_false_iff_not, Bool.not_eq_true', Bool.not_eq_false', Bool.and_eq_true, Bool.or_eq_true, Bool.and_eq_false_iff, Bool.or_eq_false_iff, Bool.cond_true_left, Bool.cond_false_right, Bool.cond_true_right, Bool.cond_false_left, Bool.or_false, Bool.and_true]
    omega
  · show i + 1 ≤ a.length; omega
  · exact (eqB_iff.2 (list_eq_of_getD _ hl' fun j hj => hk j (by omega))).symm
def fn41 : Fn := { a := .pair tNode (.pair tMsg .unit), r := .pair tNode (.pair .bool .unit), pre := fun x => 1 ≤ nNodes x.1 ∧ nNodes x.1 ≤ 5 ∧ (nVotes x.1).length = (nNodes x.1).toNat ∧ 0 ≤ mFrom x.2.1 ∧ mFrom x.2.1 < nNodes x.1, f := fun x => (given1 x.1 x.2.1, given2 x.1 x.2.1, ()) }
theorem h41  : Holds Try.prog 41 (fn41) := by
  refine Holds.of_vc (T := [(43, fn43), (45, fn45)]) (TT := ttL) (rowAt := []) (c := c41) (ros := [.c 4 15, .t 5]) (.cons _ h43 (.cons _ h45 (.nil _))) mixed Try.func41 (by decide +kernel) (by rfl) comp41 (by kernel_rfl) rfl rfl (fun h => by cases h) ?_
  rintro ⟨(n : Node), (m : Msg), _⟩ hpre
  simp only [fn41] at hpre ⊢
  simp only [c41, fn43, fn45, go_sem, reduceIte, Nat.reduceBEq, Nat.reduceMul, reduceCtorEq, Nat.reduceAdd, Nat.reduceEqDiff, decide_eq_true_eq, decide_eq_false_iff_not, Bool.not_eq_true', Bool.not_eq_false', Bool.and_eq_true, Bool.or_eq_true, Bool.and_eq_false_iff, Bool.or_eq_false_iff, Bool.cond_true_left, Bool.cond_false_right, Bool.cond_true_right, Bool.cond_false_left, Bool.or_false, Bool.and_true, inR, fn44]
  simp only [given1, given2]
  have hn := down_nodes n (mTerm m)
  have hv : (nVotes (down n (mTerm m))).length = (nNodes n).toNat := by
    unfold down; split
    · exact votes_len' hpre.1 hpre.2.1
    · exact hpre.2.2.1
  generalize hd : down n m.2.2.2.1 = d at *
  have hp1 := hpre.1
  have hp2 := hpre.2.1
  have hp4 := hpre.2.2.2.1
  have hp5 := hpre.2.2.2.2
  refine ⟨by omega, fun h => ?_, fun h => ?_⟩
  · have hc : ¬ givenC d m := by
      rintro ⟨c1, c2, c3, c4, c5⟩
      rcases h with (h | h) | h
      · rw [show m.2.2.2.2.2.2.1 = true from c1] at h; cases h
      · exact h c2
      · exact h c3
    exact ⟨(if_neg hc).symm, (if_neg hc).symm⟩
  have hvl : d.2.2.2.2.2.2.2.2.2.2.2.1.length = (nNodes n).toNat := hv
  have hf1 : m.2.1 = mFrom m := rfl
  have hc : givenC d m := ⟨h.1.1, h.1.2, h.2, by omega, by rw [hv]; omega⟩
  have g1 : given1' d m = mkN (nId d) (nNodes d) (nTerm d) (nVote d) (nBase d) (nBT d) (nSnap d) (nLog d) (nRole d) (nLead d) (nCommit d) ((nVotes d).set (mFrom m).toNat true) (nNext d) (nMatch d) (nClock d) := if_pos hc
  have g2 : given2' d m = decide (most d ≤ cnt ((nVotes d).set (mFrom m).toNat true)) := if_pos hc
  rw [g1, g2]
  have hVl : ((nVotes d).set (mFrom m).toNat true).length = (nNodes n).toNat := by rw [List.length_set, hv]
  have hV : List.set d.2.2.2.2.2.2.2.2.2.2.2.1 m.2.1.toNat true = (nVotes d).set (mFrom m).toNat true := rfl
  simp only [hV]
  generalize (nVotes d).set (mFrom m).toNat true = V at *
  refine ⟨by omega, ⟨by dsimp only [den, nId, nNodes, nTerm, nVote, nBase, nBT, nSnap, nLog, nRole, nLead, nCommit, nVotes, nNext, nMatch, nClock, mKind, mFrom, mTo, mTerm, mIndex, mAt, mYes, mCommit, mEntries, mSnap, eTerm, eCmd, mkN, mkM, mkE, last, inR, sm, lastT] at *; omega, by dsimp only [den, nId, nNodes, nTerm, nVote, nBase, nBT, nSnap, nLog, nRole, nLead, nCommit, nVotes, nNext, nMatch, nClock, mKind, mFrom, mTo, mTerm, mIndex, mAt, mYes, mCommit, mEntries, mSnap, eTerm, eCmd, mkN, mkM, mkE, last, inR, sm, lastT] at *; omega⟩, ?_⟩
  refine loop_rule (β := Nat) (fun i => ⟨[(2, .ptr 2 0), (4, .ptr 4 0), (6, .int .i64 (countB V id i)), (7, .int .i64 i)], [(2, .box (cellsA tNode (mkN (nId d) (nNodes d) (nTerm d) (nVote d) (nBase d) (nBT d) (nSnap d) (nLog d) (nRole d) (nLead d) (nCommit d) V (nNext d) (nMatch d) (nClock d)) [])), (4, .box zN)]⟩)
    (fun i => i ≤ V.length) (fun i => V.length - i) 0 ?_ ?_ ?_
  · refine Ent_fz [30] [(2, 2), (4, 4)] rfl ?_ ?_
    · simp only [go_sem, reduceIte, Nat.reduceBEq, Nat.reduceMul, reduceCtorEq, Nat.reduceAdd, Nat.reduceEqDiff, decide_eq_true_eq, decide_eq_false_iff_not, Bool.not_eq_true', Bool.not_eq_false', Bool.and_eq_true, Bool.or_eq_true, Bool.and_eq_false_iff, Bool.or_eq_false_iff, Bool.cond_true_left, Bool.cond_false_right, Bool.cond_true_right, Bool.cond_false_left, Bool.or_false, Bool.and_true]
      exact List.take_of_length_le (by omega)
    · simp only [go_sem, reduceIte, Nat.reduceBEq, Nat.reduceMul, reduceCtorEq, Nat.reduceAdd, Nat.reduceEqDiff, decide_eq_true_eq, decide_eq_false_iff_not, Bool.not_eq_true', Bool.not_eq_false', Bool.and_eq_true, Bool.or_eq_true, Bool.and_eq_false_iff, Bool.or_eq_false_iff, Bool.cond_true_left, Bool.cond_false_right, Bool.cond_true_right, Bool.cond_false_left, Bool.or_false, Bool.and_true]
      exact ⟨rfl, rfl⟩
  · exact Nat.zero_le _
  intro i hi
  have hcb := countB_le V id i
  have hn' : nNodes d = nNodes n := hn
  simp only [go_sem, reduceIte, Nat.reduceBEq, Nat.reduceMul, reduceCtorEq, Nat.reduceAdd, Nat.reduceEqDiff, decide_eq_true_eq, decide_eq_false_iff_not, Bool.not_eq_true', Bool.not_eq_false', Bool.and_eq_true, Bool.or_eq_true, Bool.and_eq_false_iff, Bool.or_eq_false_iff, Bool.cond_true_left, Bool.cond_false_right, Bool.cond_true_right, Bool.cond_false_left, Bool.or_false, Bool.and_true, inR, fn44]
  refine ⟨fun h => ⟨by omega, fun hp => ⟨by omega, by omega, Again.intro (i + 1) (Ent_of [(2, 2), (4, 4)] rfl ?_ ?_) ?_ ?_⟩, fun hp => ⟨by omega, Again.intro (i + 1) (Ent_of [(2, 2), (4, 4)] rfl ?_ ?_) ?_ ?_⟩⟩, fun h => ?_⟩
  · simp only [go_sem, reduceIte, Nat.reduceBEq, Nat.reduceMul, reduceCtorEq, Nat.reduceAdd, Nat.reduceEqDiff, decide_eq_true_eq, decide_eq_false_iff_not, Bool.not_eq_true', Bool.not_eq_false', Bool.and_eq_true, Bool.or_eq_true, Bool.and_eq_false_iff, Bool.or_eq_false_iff, Bool.cond_true_left, Bool.cond_false_right, Bool.cond_true_right, Bool.cond_false_left, Bool.or_false, Bool.and_true]
  · simp only [go_sem, reduceIte, Nat.reduceBEq, Nat.reduceMul, reduceCtorEq, Nat.reduceAdd, Nat.reduceEqDiff, decide_eq_true_eq, decide_eq_false_iff_not, Bool.not_eq_true', Bool.not_eq_false', Bool.and_eq_true, Bool.or_eq_true, Bool.and_eq_false_iff, Bool.or_eq_false_iff, Bool.cond_true_left, Bool.cond_false_right, Bool.cond_true_right, Bool.cond_false_left, Bool.or_false, Bool.and_true]
    rw [countB_yes (by omega) hp]
    omega
  · show i + 1 ≤ V.length; omega
  · show V.length - (i + 1) < V.length - i; omega
  · simp only [go_sem, reduceIte, Nat.reduceBEq, Nat.reduceMul, reduceCtorEq, Nat.reduceAdd, Nat.reduceEqDiff, decide_eq_true_eq, decide_eq_false_iff_not, Bool.not_eq_true', Bool.not_eq_false', Bool.and_eq_true, Bool.or_eq_true, Bool.and_eq_false_iff, Bool.or_eq_false_iff, Bool.cond_true_left, Bool.cond_false_right, Bool.cond_true_right, Bool.cond_false_left, Bool.or_false, Bool.and_true]
  · simp only [go_sem, reduceIte, Nat.reduceBEq, Nat.reduceMul, reduceCtorEq, Nat.reduceAdd, Nat.reduceEqDiff, decide_eq_true_eq, decide_eq_false_iff_not, Bool.not_eq_true', Bool.not_eq_false', Bool.and_eq_true, Bool.or_eq_true, Bool.and_eq_false_iff, Bool.or_eq_false_iff, Bool.cond_true_left, Bool.cond_false_right, Bool.cond_true_right, Bool.cond_false_left, Bool.or_false, Bool.and_true]
    rw [countB_no (by omega) hp]
    omega
  · show i + 1 ≤ V.length; omega
  · show V.length - (i + 1) < V.length - i; omega
  · have hiV : i = V.length := by omega
    subst hiV
    exact ⟨⟨by show 0 ≤ nNodes d; omega, by show nNodes d ≤ 100; omega⟩, by rfl, rfl, rfl⟩
end Go.AM
