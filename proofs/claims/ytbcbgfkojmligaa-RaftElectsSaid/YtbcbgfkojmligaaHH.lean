import Derived.Test.YtbcbgfkojmligaaHF
import Derived.KernelRfl
import Derived.Test.YtbcbgfkojmligaaProg
/- What functions of the program answer, each under the conditions that its contract names. -/
set_option linter.unusedVariables false
set_option linter.unusedSimpArgs false
set_option maxRecDepth 100000
namespace Go.AM
def c39 : C := (.seq (.reg [⟨(some 2), .box, [.t 0], none⟩,
  ⟨(some 3), .box, [.t 1], none⟩,
  ⟨(some 4), (.alloc [.int .i64 0, .int .i64 0, .int .i64 0, .int .i64 0, .int .i64 0, .int .i64 0, .str ⟨#[]⟩, .sl tEntry [] true, .int .i64 0, .int .i64 0, .int .i64 0, .sl .bool [] true, .sl tI [] true, .sl tI [] true, .int .i64 0]), [], none⟩,
  ⟨(some 5), .mv, [.c (.sl tMsg [] true)], none⟩])
 (.seq (.reg [⟨(some 7), (.load 15 true), [.t 2], none⟩,
  ⟨(some 8), (.fld 3), [.t 3], none⟩,
  ⟨(some 9), (.load 1 false), [.t 8], none⟩,
  ⟨(some 10), (.call 43), [.t 7, .t 9], none⟩,
  ⟨none, (.store 15), [.t 2, .t 10], none⟩])
 (.seq (.regd [⟨(some 11), (.fld 3), [.t 3], none⟩,
  ⟨(some 12), (.load 1 false), [.t 11], none⟩,
  ⟨(some 13), (.fld 2), [.t 2], none⟩,
  ⟨(some 14), (.load 1 false), [.t 13], none⟩,
  ⟨(some 15), (.bin .eql), [.t 12, .t 14], none⟩,
  ⟨(some 16), .mv, [.t 15], none⟩,
  ⟨(some 17), (.fld 3), [.t 2], (some (16, true))⟩,
  ⟨(some 18), (.load 1 false), [.t 17], (some (16, true))⟩,
  ⟨(some 19), (.bin .eql), [.t 18, .c (.int .i64 (-1))], (some (16, true))⟩,
  ⟨(some 20), .mv, [.t 19], (some (16, true))⟩,
  ⟨(some 21), (.fld 3), [.t 2], (some (20, false))⟩,
  ⟨(some 22), (.load 1 false), [.t 21], (some (20, false))⟩,
  ⟨(some 23), (.fld 1), [.t 3], (some (20, false))⟩,
  ⟨(some 24), (.load 1 false), [.t 23], (some (20, false))⟩,
  ⟨(some 25), (.bin .eql), [.t 22, .t 24], (some (20, false))⟩,
  ⟨(some 26), .pick, [.t 20, .c (.bool true), .t 25], (some (16, true))⟩,
  ⟨(some 27), .pick, [.t 16, .t 26, .c (.bool false)], none⟩,
  ⟨(some 28), .mv, [.t 27], none⟩,
  ⟨(some 29), (.fld 5), [.t 3], (some (28, true))⟩,
  ⟨(some 30), (.load 1 false), [.t 29], (some (28, true))⟩,
  ⟨(some 31), (.load 15 true), [.t 2], (some (28, true))⟩,
  ⟨(some 32), (.call 94), [.t 31], (some (28, true))⟩,
  ⟨(some 33), (.bin .gtr), [.t 30, .t 32], (some (28, true))⟩,
  ⟨(some 34), .mv, [.t 33], (some (28, true))⟩,
  ⟨(some 35), (.fld 5), [.t 3], (some (34, false))⟩,
  ⟨(some 36), (.load 1 false), [.t 35], (some (34, false))⟩,
  ⟨(some 37), (.load 15 true), [.t 2], (some (34, false))⟩,
  ⟨(some 38), (.call 94), [.t 37], (some (34, false))⟩,
  ⟨(some 39), (.bin .eql), [.t 36, .t 38], (some (34, false))⟩,
  ⟨(some 40), .mv, [.t 39], (some (34, false))⟩,
  ⟨(some 41), (.fld 4), [.t 3], (some (40, true))⟩,
  ⟨(some 42), (.load 1 false), [.t 41], (some (40, true))⟩,
  ⟨(some 43), (.load 15 true), [.t 2], (some (40, true))⟩,
  ⟨(some 44), (.call 30), [.t 43], (some (40, true))⟩,
  ⟨(some 45), (.bin .geq), [.t 42, .t 44], (some (40, true))⟩,
  ⟨(some 46), .pick, [.t 40, .t 45, .c (.bool false)], (some (34, false))⟩,
  ⟨(some 47), .pick, [.t 34, .c (.bool true), .t 46], (some (28, true))⟩,
  ⟨(some 48), .pick, [.t 28, .t 47, .c (.bool false)], none⟩,
  ⟨(some 6), .mv, [.t 48], none⟩] [0, 1, 0, 4, 10, 16, 32, 96, 160, 288, 512, 1536, 512, 4608, 10752, 16928, 32800, 66048, 131072, 393216, 131072, 1179648, 2752512, 6422528, 8388608, 25165824, 8388608, 75497472, 176160768, 411041792, 536870912, 1610612736, 536870912, 4831838208, 11274289152, 17725128704, 34368258048, 68719607808, 274877906943])
 (.seq (.seq (.reg [⟨(some 49), .mv, [.t 6], none⟩])
 (.cond (.t 49) (.reg [⟨(some 50), (.fld 1), [.t 3], none⟩,
  ⟨(some 51), (.load 1 false), [.t 50], none⟩,
  ⟨(some 52), (.fld 3), [.t 2], none⟩,
  ⟨none, (.store 1), [.t 52, .t 51], none⟩,
  ⟨(some 53), (.fld 14), [.t 2], none⟩,
  ⟨none, (.store 1), [.t 53, .c (.int .i64 0)], none⟩]) .skip))
 (.seq (.regd [⟨(some 54), (.load 15 true), [.t 2], none⟩,
  ⟨(some 55), (.fld 0), [.t 2], none⟩,
  ⟨(some 56), (.load 1 false), [.t 55], none⟩,
  ⟨(some 57), (.fld 1), [.t 3], none⟩,
  ⟨(some 58), (.load 1 false), [.t 57], none⟩,
  ⟨(some 59), (.fld 2), [.t 2], none⟩,
  ⟨(some 60), (.load 1 false), [.t 59], none⟩,
  ⟨(some 61), .mv, [.t 6], none⟩,
  ⟨(some 62), (.build [.int .i64 0, .int .i64 0, .int .i64 0, .int .i64 0, .int .i64 0, .int .i64 0, .bool false, .int .i64 0, .sl tEntry [] true, .str ⟨#[]⟩] [(0, 1), (1, 1), (2, 1), (3, 1), (6, 1)]), [.c (.int .i64 2), .t 56, .t 58, .t 60, .t 61], none⟩,
  ⟨(some 63), (.bslice tMsg 1), [.t 62], none⟩,
  ⟨none, (.store 15), [.t 4, .t 54], none⟩,
  ⟨(some 5), .mv, [.t 63], none⟩] [0, 0, 2, 0, 8, 0, 32, 0, 212, 256, 1, 2047])
 .ret)))))
theorem comp39 : compC Go.Proofs.Try.prog ttL 64 [] (match Go.Proofs.Try.f39.body with | some b => b | none => .skip) = some (c39) := by kernel_rfl
def c43 : C := (.seq (.reg [⟨(some 2), .box, [.t 0], none⟩,
  ⟨(some 4), (.alloc [.int .i64 0, .int .i64 0, .int .i64 0, .int .i64 0, .int .i64 0, .int .i64 0, .str ⟨#[]⟩, .sl tEntry [] true, .int .i64 0, .int .i64 0, .int .i64 0, .sl .bool [] true, .sl tI [] true, .sl tI [] true, .int .i64 0]), [], none⟩])
 (.seq (.seq (.reg [⟨(some 5), .mv, [.t 1], none⟩,
  ⟨(some 6), (.fld 2), [.t 2], none⟩,
  ⟨(some 7), (.load 1 false), [.t 6], none⟩,
  ⟨(some 8), (.bin .leq), [.t 5, .t 7], none⟩])
 (.cond (.t 8) (.seq (.reg [⟨(some 9), (.load 15 true), [.t 2], none⟩,
  ⟨none, (.store 15), [.t 4, .t 9], none⟩])
 .ret) .skip))
 (.seq (.reg [⟨(some 10), .mv, [.t 1], none⟩,
  ⟨(some 11), (.fld 2), [.t 2], none⟩,
  ⟨none, (.store 1), [.t 11, .t 10], none⟩,
  ⟨(some 12), (.fld 3), [.t 2], none⟩,
  ⟨none, (.store 1), [.t 12, .c (.int .i64 (-1))], none⟩,
  ⟨(some 13), (.fld 9), [.t 2], none⟩,
  ⟨none, (.store 1), [.t 13, .c (.int .i64 (-1))], none⟩,
  ⟨(some 14), (.fld 8), [.t 2], none⟩,
  ⟨none, (.store 1), [.t 14, .c (.int .i64 0)], none⟩])
 (.seq (.reg [⟨(some 15), (.fld 1), [.t 2], none⟩,
  ⟨(some 16), (.load 1 false), [.t 15], none⟩,
  ⟨(some 17), (.mks .bool 1), [.t 16, .t 16], none⟩,
  ⟨(some 18), (.fld 11), [.t 2], none⟩,
  ⟨none, (.store 1), [.t 18, .t 17], none⟩])
 (.seq (.reg [⟨(some 19), (.load 15 true), [.t 2], none⟩,
  ⟨none, (.store 15), [.t 4, .t 19], none⟩])
 .ret)))))
theorem comp43 : compC Go.Proofs.Try.prog ttL 20 [] (match Go.Proofs.Try.f43.body with | some b => b | none => .skip) = some (c43) := by kernel_rfl
def c69 : C := (.seq (.reg [⟨(some 2), .box, [.t 0], none⟩,
  ⟨(some 3), .box, [.t 1], none⟩,
  ⟨(some 4), .mv, [.c (.bool false)], none⟩])
 (.seq (.reg [⟨(some 5), (.fld 0), [.t 2], none⟩,
  ⟨(some 6), (.load 1 false), [.t 5], none⟩,
  ⟨(some 7), (.fld 0), [.t 3], none⟩,
  ⟨(some 8), (.load 1 false), [.t 7], none⟩,
  ⟨(some 9), (.bin .eql), [.t 6, .t 8], none⟩,
  ⟨(some 10), .mv, [.t 9], none⟩,
  ⟨(some 11), (.fld 1), [.t 2], (some (10, true))⟩,
  ⟨(some 12), (.load 1 false), [.t 11], (some (10, true))⟩,
  ⟨(some 13), (.fld 1), [.t 3], (some (10, true))⟩,
  ⟨(some 14), (.load 1 false), [.t 13], (some (10, true))⟩,
  ⟨(some 15), (.bin .eql), [.t 12, .t 14], (some (10, true))⟩,
  ⟨(some 16), .pick, [.t 10, .t 15, .c (.bool false)], none⟩,
  ⟨(some 17), .mv, [.t 16], none⟩,
  ⟨(some 18), (.fld 2), [.t 2], (some (17, true))⟩,
  ⟨(some 19), (.load 1 false), [.t 18], (some (17, true))⟩,
  ⟨(some 20), (.fld 2), [.t 3], (some (17, true))⟩,
  ⟨(some 21), (.load 1 false), [.t 20], (some (17, true))⟩,
  ⟨(some 22), (.bin .eql), [.t 19, .t 21], (some (17, true))⟩,
  ⟨(some 23), .pick, [.t 17, .t 22, .c (.bool false)], none⟩,
  ⟨(some 24), .mv, [.t 23], none⟩,
  ⟨(some 25), (.fld 3), [.t 2], (some (24, true))⟩,
  ⟨(some 26), (.load 1 false), [.t 25], (some (24, true))⟩,
  ⟨(some 27), (.fld 3), [.t 3], (some (24, true))⟩,
  ⟨(some 28), (.load 1 false), [.t 27], (some (24, true))⟩,
  ⟨(some 29), (.bin .eql), [.t 26, .t 28], (some (24, true))⟩,
  ⟨(some 30), .pick, [.t 24, .t 29, .c (.bool false)], none⟩,
  ⟨(some 31), .mv, [.t 30], none⟩,
  ⟨(some 32), (.fld 4), [.t 2], (some (31, true))⟩,
  ⟨(some 33), (.load 1 false), [.t 32], (some (31, true))⟩,
  ⟨(some 34), (.fld 4), [.t 3], (some (31, true))⟩,
  ⟨(some 35), (.load 1 false), [.t 34], (some (31, true))⟩,
  ⟨(some 36), (.bin .eql), [.t 33, .t 35], (some (31, true))⟩,
  ⟨(some 37), .pick, [.t 31, .t 36, .c (.bool false)], none⟩,
  ⟨(some 38), .mv, [.t 37], none⟩,
  ⟨(some 39), (.fld 5), [.t 2], (some (38, true))⟩,
  ⟨(some 40), (.load 1 false), [.t 39], (some (38, true))⟩,
  ⟨(some 41), (.fld 5), [.t 3], (some (38, true))⟩,
  ⟨(some 42), (.load 1 false), [.t 41], (some (38, true))⟩,
  ⟨(some 43), (.bin .eql), [.t 40, .t 42], (some (38, true))⟩,
  ⟨(some 44), .pick, [.t 38, .t 43, .c (.bool false)], none⟩,
  ⟨(some 45), .mv, [.t 44], none⟩,
  ⟨(some 46), (.fld 6), [.t 2], (some (45, true))⟩,
  ⟨(some 47), (.load 1 false), [.t 46], (some (45, true))⟩,
  ⟨(some 48), (.fld 6), [.t 3], (some (45, true))⟩,
  ⟨(some 49), (.load 1 false), [.t 48], (some (45, true))⟩,
  ⟨(some 50), (.binb .eql), [.t 47, .t 49], (some (45, true))⟩,
  ⟨(some 51), .pick, [.t 45, .t 50, .c (.bool false)], none⟩,
  ⟨(some 52), .mv, [.t 51], none⟩,
  ⟨(some 53), (.fld 7), [.t 2], (some (52, true))⟩,
  ⟨(some 54), (.load 1 false), [.t 53], (some (52, true))⟩,
  ⟨(some 55), (.fld 7), [.t 3], (some (52, true))⟩,
  ⟨(some 56), (.load 1 false), [.t 55], (some (52, true))⟩,
  ⟨(some 57), (.bin .eql), [.t 54, .t 56], (some (52, true))⟩,
  ⟨(some 58), .pick, [.t 52, .t 57, .c (.bool false)], none⟩,
  ⟨(some 59), .mv, [.t 58], none⟩,
  ⟨(some 60), (.fld 9), [.t 2], (some (59, true))⟩,
  ⟨(some 61), (.load 1 false), [.t 60], (some (59, true))⟩,
  ⟨(some 62), (.fld 9), [.t 3], (some (59, true))⟩,
  ⟨(some 63), (.load 1 false), [.t 62], (some (59, true))⟩,
  ⟨(some 64), (.bin .eql), [.t 61, .t 63], (some (59, true))⟩,
  ⟨(some 65), .pick, [.t 59, .t 64, .c (.bool false)], none⟩,
  ⟨(some 66), .mv, [.t 65], none⟩,
  ⟨(some 67), (.fld 8), [.t 2], (some (66, true))⟩,
  ⟨(some 68), (.load 1 false), [.t 67], (some (66, true))⟩,
  ⟨(some 69), (.fld 8), [.t 3], (some (66, true))⟩,
  ⟨(some 70), (.load 1 false), [.t 69], (some (66, true))⟩,
  ⟨(some 71), (.call 37), [.t 68, .t 70], (some (66, true))⟩,
  ⟨(some 72), .pick, [.t 66, .t 71, .c (.bool false)], none⟩,
  ⟨(some 4), .mv, [.t 72], none⟩])
 .ret))
theorem comp69 : compC Go.Proofs.Try.prog ttL 73 [] (match Go.Proofs.Try.f69.body with | some b => b | none => .skip) = some (c69) := by kernel_rfl
def c94 : C := (.seq (.reg [⟨(some 1), .box, [.t 0], none⟩,
  ⟨(some 2), .mv, [.c (.int .i64 0)], none⟩])
 (.seq (.regd [⟨(some 6), (.load 15 true), [.t 1], none⟩,
  ⟨(some 7), (.load 15 true), [.t 1], none⟩,
  ⟨(some 8), (.call 30), [.t 7], none⟩,
  ⟨(some 9), (.call 29), [.t 6, .t 8], none⟩,
  ⟨(some 5), .mv, [.t 9], none⟩,
  ⟨(some 10), (.ext 0), [.t 5], none⟩,
  ⟨(some 11), (.ext 1), [.t 5], none⟩,
  ⟨(some 3), .mv, [.t 10], none⟩,
  ⟨(some 4), .mv, [.t 11], none⟩] [0, 0, 2, 5, 8, 16, 16, 63, 255])
 (.seq (.reg [⟨(some 12), .mv, [.t 3], none⟩,
  ⟨(some 2), .mv, [.t 12], none⟩])
 .ret)))
theorem comp94 : compC Go.Proofs.Try.prog ttL 13 [] (match Go.Proofs.Try.f94.body with | some b => b | none => .skip) = some (c94) := by kernel_rfl
end Go.AM
set_option maxRecDepth 100000
set_option maxHeartbeats 4000000
set_option linter.unusedSimpArgs false
namespace Go.AM
open Go.Proofs
attribute [local congr] vc_congr evOps_congr evTab_congr bind_congr condK_congr tabK_congr
def fn43 : Fn := { a := .pair tNode (.pair tI .unit), r := .pair tNode .unit, pre := fun x => 0 ≤ nNodes x.1 ∧ nNodes x.1 ≤ 5, f := fun x => (down x.1 x.2.1, ()) }
theorem h43  : Holds Try.prog 43 (fn43) := by
  refine Holds.of_vc (T := []) (TT := ttL) (rowAt := []) (c := c43) (ros := [.c 4 15]) (.nil _) mixed Try.func43 (by decide +kernel) (by rfl) comp43 (by kernel_rfl) rfl rfl (fun h => by cases h) ?_
  rintro ⟨(n : Node), (t : Int), _⟩ hpre
  simp only [fn43] at hpre ⊢
  simp only [c43, go_sem, reduceIte, Nat.reduceBEq, Nat.reduceMul, reduceCtorEq, Nat.reduceAdd, Nat.reduceEqDiff, decide_eq_true_eq, decide_eq_false_iff_not, Bool.not_eq_true', Bool.not_eq_false', Bool.and_eq_true, Bool.or_eq_true, Bool.and_eq_false_iff, Bool.or_eq_false_iff, Bool.cond_true_left, Bool.cond_false_right, Bool.cond_true_right, Bool.cond_false_left, Bool.or_false, Bool.and_true, inR]
  have hv : votes n = List.replicate (nNodes n).toNat false := by
    unfold votes
    rw [show (max 0 (min (nNodes n) 5)).toNat = (nNodes n).toNat by dsimp only [den, nId, nNodes, nTerm, nVote, nBase, nBT, nSnap, nLog, nRole, nLead, nCommit, nVotes, nNext, nMatch, nClock, mKind, mFrom, mTo, mTerm, mIndex, mAt, mYes, mCommit, mEntries, mSnap, eTerm, eCmd, mkN, mkM, mkE, last, inR, sm, lastT] at *; omega]
  dsimp only [den, nId, nNodes, nTerm, nVote, nBase, nBT, nSnap, nLog, nRole, nLead, nCommit, nVotes, nNext, nMatch, nClock, mKind, mFrom, mTo, mTerm, mIndex, mAt, mYes, mCommit, mEntries, mSnap, eTerm, eCmd, mkN, mkM, mkE, last, inR, sm, lastT] at *
  refine ⟨fun h => (if_neg (by dsimp only [den, nId, nNodes, nTerm, nVote, nBase, nBT, nSnap, nLog, nRole, nLead, nCommit, nVotes, nNext, nMatch, nClock, mKind, mFrom, mTo, mTerm, mIndex, mAt, mYes, mCommit, mEntries, mSnap, eTerm, eCmd, mkN, mkM, mkE, last, inR, sm, lastT] at *; omega)).symm, fun h => ⟨by omega, ?_⟩⟩
  refine Eq.trans ?_ (if_pos (by dsimp only [den, nId, nNodes, nTerm, nVote, nBase, nBT, nSnap, nLog, nRole, nLead, nCommit, nVotes, nNext, nMatch, nClock, mKind, mFrom, mTo, mTerm, mIndex, mAt, mYes, mCommit, mEntries, mSnap, eTerm, eCmd, mkN, mkM, mkE, last, inR, sm, lastT] at *; omega)).symm
  rw [hv]
  rfl
def fn94 : Fn := { a := .pair tNode .unit, r := .pair tI .unit, pre := fun x => InR .i64 (last x.1) ∧ 0 ≤ nBase x.1, f := fun x => (termV x.1 (last x.1), ()) }
theorem h94  : Holds Try.prog 94 (fn94) := by
  refine Holds.of_vc (T := [(30, fn30), (29, fn29)]) (TT := ttL) (rowAt := []) (c := c94) (ros := [.t 2]) (.cons _ h30 (.cons _ h29 (.nil _))) mixed Try.func94 (by decide +kernel) (by rfl) comp94 (by kernel_rfl) rfl rfl (fun h => by cases h) ?_
  rintro ⟨(n : Node), _⟩ hpre
  simp only [fn94] at hpre ⊢
  simp only [c94, fn30, fn29, go_sem, reduceIte, Nat.reduceBEq, Nat.reduceMul, reduceCtorEq, Nat.reduceAdd, Nat.reduceEqDiff, decide_eq_true_eq, decide_eq_false_iff_not, Bool.not_eq_true', Bool.not_eq_false', Bool.and_eq_true, Bool.or_eq_true, Bool.and_eq_false_iff, Bool.or_eq_false_iff, Bool.cond_true_left, Bool.cond_false_right, Bool.cond_true_right, Bool.cond_false_left, Bool.or_false, Bool.and_true, inR, fn48]
  dsimp only [den, nId, nNodes, nTerm, nVote, nBase, nBT, nSnap, nLog, nRole, nLead, nCommit, nVotes, nNext, nMatch, nClock, mKind, mFrom, mTo, mTerm, mIndex, mAt, mYes, mCommit, mEntries, mSnap, eTerm, eCmd, mkN, mkM, mkE, last, inR, sm, lastT] at *
  exact ⟨by omega, by omega, by rfl⟩
def fn39 : Fn := { a := .pair tNode (.pair tMsg .unit), r := .pair tNode (.pair (.list tMsg) .unit), pre := fun x => InR .i64 (last x.1) ∧ 0 ≤ nBase x.1 ∧ 0 ≤ nNodes x.1 ∧ nNodes x.1 ≤ 5, f := fun x => (asked1 x.1 x.2.1, asked2 x.1 x.2.1, ()) }
theorem h39  : Holds Try.prog 39 (fn39) := by
  refine Holds.of_vc (T := [(43, fn43), (94, fn94), (30, fn30)]) (TT := ttL) (rowAt := []) (c := c39) (ros := [.c 4 15, .t 5]) (.cons _ h43 (.cons _ h94 (.cons _ h30 (.nil _)))) mixed Try.func39 (by decide +kernel) (by rfl) comp39 (by kernel_rfl) rfl rfl (fun h => by cases h) ?_
  rintro ⟨(n : Node), (m : Msg), _⟩ hpre
  simp only [fn39] at hpre ⊢
  simp only [c39, fn43, fn94, fn30, go_sem, reduceIte, Nat.reduceBEq, Nat.reduceMul, reduceCtorEq, Nat.reduceAdd, Nat.reduceEqDiff, decide_eq_true_eq, decide_eq_false_iff_not, Bool.not_eq_true', Bool.not_eq_false', Bool.and_eq_true, Bool.or_eq_true, Bool.and_eq_false_iff, Bool.or_eq_false_iff, Bool.cond_true_left, Bool.cond_false_right, Bool.cond_true_right, Bool.cond_false_left, Bool.or_false, Bool.and_true, inR]
  simp only [asked1, asked2]
  have hb := base_down n m.2.2.2.1
  have hl := last_down n m.2.2.2.1
  have hn := down_nodes n m.2.2.2.1
  generalize hd : down n m.2.2.2.1 = d at *
  rw [← hl, ← hb] at hpre
  simp only [asked1', asked2', askB]
  clear hl hb
  dsimp only [den, nId, nNodes, nTerm, nVote, nBase, nBT, nSnap, nLog, nRole, nLead, nCommit, nVotes, nNext, nMatch, nClock, mKind, mFrom, mTo, mTerm, mIndex, mAt, mYes, mCommit, mEntries, mSnap, eTerm, eCmd, mkN, mkM, mkE, last, inR, sm, lastT] at *
  have hn' : d.2.1 = n.2.1 := hn
  repeat' (first | apply And.intro | intro _)
  all_goals (first | omega | rfl | skip)
  · exact (if_pos (by simp only [Bool.and_eq_true, Bool.or_eq_true, decide_eq_true_eq, decide_eq_false_iff_not, Bool.and_eq_false_iff, Bool.or_eq_false_iff, Bool.not_eq_true', Bool.not_eq_false']; omega)).symm
  · exact (if_neg (by simp only [Bool.and_eq_true, Bool.or_eq_true, decide_eq_true_eq, decide_eq_false_iff_not, Bool.and_eq_false_iff, Bool.or_eq_false_iff, Bool.not_eq_true', Bool.not_eq_false']; omega)).symm
noncomputable def fn69 : Fn := { a := .pair tMsg (.pair tMsg .unit), r := .pair .bool .unit, pre := fun x => smallL (mEntries x.1), f := fun x => (eqB x.1 x.2.1, ()) }
theorem h69  : Holds Try.prog 69 (fn69) := by
  refine Holds.of_vc (T := [(37, fn37)]) (TT := ttL) (rowAt := []) (c := c69) (ros := [.t 4]) (.cons _ h37 (.nil _)) mixed Try.func69 (by decide +kernel) (by rfl) comp69 (by kernel_rfl) rfl rfl (fun h => by cases h) ?_
  rintro ⟨(a : Msg), (b : Msg), _⟩ hpre
  simp only [fn69] at hpre ⊢
  simp (maxSteps := 10000000) only [c69, fn37, go_sem, reduceIte, Nat.reduceBEq, Nat.reduceMul, reduceCtorEq, Nat.reduceAdd, Nat.reduceEqDiff, decide_eq_true_eq, decide_eq_false_iff_not, Bool.not_eq_true', Bool.not_eq_false', Bool.and_eq_true, Bool.or_eq_true, Bool.and_eq_false_iff, Bool.or_eq_false_iff, Bool.cond_true_left, Bool.cond_false_right, Bool.cond_true_right, Bool.cond_false_left, Bool.or_false, Bool.and_true, inR, str_eq]
  refine ⟨fun _ => hpre, eqB_of ?_⟩
  simp only [Bool.and_eq_true, decide_eq_true_eq, eqB_iff, beq_iff_eq]
  obtain ⟨a1, a2, a3, a4, a5, a6, a7, a8, a9, a10, _⟩ := a
  obtain ⟨b1, b2, b3, b4, b5, b6, b7, b8, b9, b10, _⟩ := b
  constructor
  · rintro ⟨⟨⟨⟨⟨⟨⟨⟨⟨h1, h2⟩, h3⟩, h4⟩, h5⟩, h6⟩, h7⟩, h8⟩, h9⟩, h10⟩
    simp only at h1 h2 h3 h4 h5 h6 h7 h8 h9 h10
    rw [h1, h2, h3, h4, h5, h6, h7, h8, h9, h10]
  · intro h
    cases h
    exact ⟨⟨⟨⟨⟨⟨⟨⟨⟨rfl, rfl⟩, rfl⟩, rfl⟩, rfl⟩, rfl⟩, rfl⟩, rfl⟩, rfl⟩, rfl⟩
end Go.AM
