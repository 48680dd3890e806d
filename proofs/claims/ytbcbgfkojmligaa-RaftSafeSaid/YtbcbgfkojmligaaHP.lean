import Derived.Test.YtbcbgfkojmligaaHO
import Derived.KernelRfl
import Derived.Test.YtbcbgfkojmligaaProg
/- What functions of the program answer, each under the conditions that its contract names. -/
set_option linter.unusedVariables false
set_option linter.unusedSimpArgs false
set_option maxRecDepth 100000
namespace Go.AM
def c65 : C := (.seq (.reg [⟨(some 2), .box, [.t 0], none⟩,
  ⟨(some 3), .box, [.t 1], none⟩,
  ⟨(some 4), (.alloc [.int .i64 0, .int .i64 0, .int .i64 0, .int .i64 0, .int .i64 0, .int .i64 0, .str ⟨#[]⟩, .sl tEntry [] true, .int .i64 0, .int .i64 0, .int .i64 0, .sl .bool [] true, .sl tI [] true, .sl tI [] true, .int .i64 0]), [], none⟩,
  ⟨(some 5), .mv, [.c (.sl tMsg [] true)], none⟩])
 (.seq (.reg [⟨(some 10), (.load 15 true), [.t 2], none⟩,
  ⟨(some 11), (.fld 3), [.t 3], none⟩,
  ⟨(some 12), (.load 1 false), [.t 11], none⟩,
  ⟨(some 13), (.call 32), [.t 10, .t 12], none⟩,
  ⟨none, (.store 15), [.t 2, .t 13], none⟩])
 (.seq (.reg [⟨(some 14), (.load 15 true), [.t 2], none⟩,
  ⟨(some 15), (.call 52), [.t 14], none⟩,
  ⟨(some 6), .mv, [.t 15], none⟩])
 (.seq (.seq (.reg [⟨(some 16), (.fld 3), [.t 3], none⟩,
  ⟨(some 17), (.load 1 false), [.t 16], none⟩,
  ⟨(some 18), (.fld 2), [.t 2], none⟩,
  ⟨(some 19), (.load 1 false), [.t 18], none⟩,
  ⟨(some 20), (.bin .lss), [.t 17, .t 19], none⟩])
 (.cond (.t 20) (.seq (.regd [⟨(some 21), (.load 15 true), [.t 2], none⟩,
  ⟨(some 22), (.load 15 true), [.t 2], none⟩,
  ⟨(some 23), (.load 10 true), [.t 3], none⟩,
  ⟨(some 24), .mv, [.t 6], none⟩,
  ⟨(some 25), (.call 106), [.t 22, .t 23, .c (.bool false), .t 24], none⟩,
  ⟨none, (.store 15), [.t 4, .t 21], none⟩,
  ⟨(some 5), .mv, [.t 25], none⟩] [0, 0, 0, 0, 14, 17, 63])
 .ret) .skip))
 (.seq (.regd [⟨(some 26), (.fld 1), [.t 3], none⟩,
  ⟨(some 27), (.load 1 false), [.t 26], none⟩,
  ⟨(some 28), (.fld 8), [.t 2], none⟩,
  ⟨none, (.store 1), [.t 28, .c (.int .i64 0)], none⟩,
  ⟨(some 29), (.fld 9), [.t 2], none⟩,
  ⟨none, (.store 1), [.t 29, .t 27], none⟩,
  ⟨(some 30), (.fld 14), [.t 2], none⟩,
  ⟨none, (.store 1), [.t 30, .c (.int .i64 0)], none⟩] [0, 1, 0, 4, 15, 31, 63, 127])
 (.seq (.seq (.reg [⟨(some 31), (.fld 0), [.t 3], none⟩,
  ⟨(some 32), (.load 1 false), [.t 31], none⟩,
  ⟨(some 33), (.bin .eql), [.t 32, .c (.int .i64 5)], none⟩])
 (.cond (.t 33) (.seq (.reg [⟨(some 34), (.load 15 true), [.t 2], none⟩,
  ⟨(some 35), (.load 10 true), [.t 3], none⟩,
  ⟨(some 36), (.call 107), [.t 34, .t 35], none⟩,
  ⟨(some 37), (.ext 0), [.t 36], none⟩,
  ⟨(some 38), (.ext 1), [.t 36], none⟩,
  ⟨none, (.store 15), [.t 4, .t 37], none⟩,
  ⟨(some 5), .mv, [.t 38], none⟩])
 .ret) .skip))
 (.seq (.reg [⟨(some 40), (.load 15 true), [.t 2], none⟩,
  ⟨(some 41), (.fld 4), [.t 3], none⟩,
  ⟨(some 42), (.load 1 false), [.t 41], none⟩,
  ⟨(some 43), (.call 48), [.t 40, .t 42], none⟩,
  ⟨(some 39), .mv, [.t 43], none⟩,
  ⟨(some 44), (.ext 0), [.t 39], none⟩,
  ⟨(some 45), (.ext 1), [.t 39], none⟩,
  ⟨(some 7), .mv, [.t 44], none⟩,
  ⟨(some 8), .mv, [.t 45], none⟩])
 (.seq (.block 0 (.seq (.reg [⟨(some 47), (.fld 4), [.t 3], none⟩,
  ⟨(some 48), (.load 1 false), [.t 47], none⟩,
  ⟨(some 49), (.fld 4), [.t 2], none⟩,
  ⟨(some 50), (.load 1 false), [.t 49], none⟩,
  ⟨(some 51), (.bin .lss), [.t 48, .t 50], none⟩,
  ⟨(some 46), .mv, [.t 51], none⟩])
 (.cond (.t 46) (.seq (.regd [⟨(some 52), (.load 15 true), [.t 2], none⟩,
  ⟨(some 53), (.load 15 true), [.t 2], none⟩,
  ⟨(some 54), (.load 10 true), [.t 3], none⟩,
  ⟨(some 55), (.fld 4), [.t 2], none⟩,
  ⟨(some 56), (.load 1 false), [.t 55], none⟩,
  ⟨(some 57), (.call 106), [.t 53, .t 54, .c (.bool true), .t 56], none⟩,
  ⟨none, (.store 15), [.t 4, .t 52], none⟩,
  ⟨(some 5), .mv, [.t 57], none⟩] [0, 0, 0, 0, 8, 22, 33, 127])
 .ret) (.seq (.reg [⟨(some 59), (.fld 4), [.t 3], none⟩,
  ⟨(some 60), (.load 1 false), [.t 59], none⟩,
  ⟨(some 61), .mv, [.t 6], none⟩,
  ⟨(some 62), (.bin .gtr), [.t 60, .t 61], none⟩,
  ⟨(some 63), .mv, [.t 62], none⟩,
  ⟨(some 64), .mv, [.t 8], (some (63, false))⟩,
  ⟨(some 65), .not, [.t 64], (some (63, false))⟩,
  ⟨(some 66), .pick, [.t 63, .c (.bool true), .t 65], none⟩,
  ⟨(some 67), .mv, [.t 66], none⟩,
  ⟨(some 68), .mv, [.t 7], (some (67, false))⟩,
  ⟨(some 69), (.fld 5), [.t 3], (some (67, false))⟩,
  ⟨(some 70), (.load 1 false), [.t 69], (some (67, false))⟩,
  ⟨(some 71), (.bin .neq), [.t 68, .t 70], (some (67, false))⟩,
  ⟨(some 72), .pick, [.t 67, .c (.bool true), .t 71], none⟩,
  ⟨(some 58), .mv, [.t 72], none⟩])
 (.cond (.t 58) (.seq (.regd [⟨(some 73), (.load 15 true), [.t 2], none⟩,
  ⟨(some 74), (.load 15 true), [.t 2], none⟩,
  ⟨(some 75), (.load 10 true), [.t 3], none⟩,
  ⟨(some 76), .mv, [.t 6], none⟩,
  ⟨(some 77), (.fld 4), [.t 3], none⟩,
  ⟨(some 78), (.load 1 false), [.t 77], none⟩,
  ⟨(some 79), (.bin .sub), [.t 78, .c (.int .i64 1)], none⟩,
  ⟨(some 80), .mn, [.t 76, .t 79], none⟩,
  ⟨(some 81), .mx, [.c (.int .i64 0), .t 80], none⟩,
  ⟨(some 82), (.call 106), [.t 74, .t 75, .c (.bool false), .t 81], none⟩,
  ⟨none, (.store 15), [.t 4, .t 73], none⟩,
  ⟨(some 5), .mv, [.t 82], none⟩] [0, 0, 0, 0, 0, 16, 32, 72, 128, 262, 513, 2047])
 .ret) .skip)))))
 (.seq (.reg [⟨(some 83), (.load 15 true), [.t 2], none⟩,
  ⟨(some 84), (.fld 4), [.t 3], none⟩,
  ⟨(some 85), (.load 1 false), [.t 84], none⟩,
  ⟨(some 86), (.fld 8), [.t 3], none⟩,
  ⟨(some 87), (.load 1 false), [.t 86], none⟩,
  ⟨(some 88), (.call 34), [.t 83, .t 85, .t 87], none⟩,
  ⟨none, (.store 15), [.t 2, .t 88], none⟩])
 (.seq (.reg [⟨(some 89), (.fld 4), [.t 3], none⟩,
  ⟨(some 90), (.load 1 false), [.t 89], none⟩,
  ⟨(some 91), (.fld 8), [.t 3], none⟩,
  ⟨(some 92), (.load 1 false), [.t 91], none⟩,
  ⟨(some 93), .len, [.t 92], none⟩,
  ⟨(some 94), (.bin .add), [.t 90, .t 93], none⟩,
  ⟨(some 9), .mv, [.t 94], none⟩])
 (.seq (.reg [⟨(some 95), (.fld 10), [.t 2], none⟩,
  ⟨(some 96), (.load 1 false), [.t 95], none⟩,
  ⟨(some 97), (.fld 7), [.t 3], none⟩,
  ⟨(some 98), (.load 1 false), [.t 97], none⟩,
  ⟨(some 99), .mv, [.t 9], none⟩,
  ⟨(some 100), .mn, [.t 98, .t 99], none⟩,
  ⟨(some 101), .mx, [.t 96, .t 100], none⟩,
  ⟨(some 102), (.fld 10), [.t 2], none⟩,
  ⟨none, (.store 1), [.t 102, .t 101], none⟩])
 (.seq (.regd [⟨(some 103), (.load 15 true), [.t 2], none⟩,
  ⟨(some 104), (.load 15 true), [.t 2], none⟩,
  ⟨(some 105), (.load 10 true), [.t 3], none⟩,
  ⟨(some 106), .mv, [.t 9], none⟩,
  ⟨(some 107), (.call 106), [.t 104, .t 105, .c (.bool true), .t 106], none⟩,
  ⟨none, (.store 15), [.t 4, .t 103], none⟩,
  ⟨(some 5), .mv, [.t 107], none⟩] [0, 0, 0, 0, 14, 17, 63])
 .ret))))))))))))
theorem comp65 : compC Go.Proofs.Try.prog ttL 108 [] (match Go.Proofs.Try.f65.body with | some b => b | none => .skip) = some (c65) := by kernel_rfl
def c107 : C := (.seq (.reg [⟨(some 2), .box, [.t 0], none⟩,
  ⟨(some 3), .box, [.t 1], none⟩,
  ⟨(some 4), (.alloc [.int .i64 0, .int .i64 0, .int .i64 0, .int .i64 0, .int .i64 0, .int .i64 0, .str ⟨#[]⟩, .sl tEntry [] true, .int .i64 0, .int .i64 0, .int .i64 0, .sl .bool [] true, .sl tI [] true, .sl tI [] true, .int .i64 0]), [], none⟩,
  ⟨(some 5), .mv, [.c (.sl tMsg [] true)], none⟩])
 (.seq (.seq (.reg [⟨(some 9), (.fld 4), [.t 3], none⟩,
  ⟨(some 10), (.load 1 false), [.t 9], none⟩,
  ⟨(some 11), (.fld 10), [.t 2], none⟩,
  ⟨(some 12), (.load 1 false), [.t 11], none⟩,
  ⟨(some 13), (.bin .leq), [.t 10, .t 12], none⟩])
 (.cond (.t 13) (.seq (.regd [⟨(some 14), (.load 15 true), [.t 2], none⟩,
  ⟨(some 15), (.load 15 true), [.t 2], none⟩,
  ⟨(some 16), (.load 10 true), [.t 3], none⟩,
  ⟨(some 17), (.fld 10), [.t 2], none⟩,
  ⟨(some 18), (.load 1 false), [.t 17], none⟩,
  ⟨(some 19), (.call 106), [.t 15, .t 16, .c (.bool true), .t 18], none⟩,
  ⟨none, (.store 15), [.t 4, .t 14], none⟩,
  ⟨(some 5), .mv, [.t 19], none⟩] [0, 0, 0, 0, 8, 22, 33, 127])
 .ret) .skip))
 (.seq (.reg [⟨(some 6), .mv, [.c (.sl tEntry [] true)], none⟩])
 (.seq (.seq (.reg [⟨(some 21), (.load 15 true), [.t 2], none⟩,
  ⟨(some 22), (.fld 4), [.t 3], none⟩,
  ⟨(some 23), (.load 1 false), [.t 22], none⟩,
  ⟨(some 24), (.call 48), [.t 21, .t 23], none⟩,
  ⟨(some 20), .mv, [.t 24], none⟩,
  ⟨(some 25), (.ext 0), [.t 20], none⟩,
  ⟨(some 26), (.ext 1), [.t 20], none⟩,
  ⟨(some 7), .mv, [.t 25], none⟩,
  ⟨(some 8), .mv, [.t 26], none⟩])
 (.seq (.reg [⟨(some 27), .mv, [.t 8], none⟩,
  ⟨(some 28), .mv, [.t 27], none⟩,
  ⟨(some 29), .mv, [.t 7], (some (28, true))⟩,
  ⟨(some 30), (.fld 5), [.t 3], (some (28, true))⟩,
  ⟨(some 31), (.load 1 false), [.t 30], (some (28, true))⟩,
  ⟨(some 32), (.bin .eql), [.t 29, .t 31], (some (28, true))⟩,
  ⟨(some 33), .pick, [.t 28, .t 32, .c (.bool false)], none⟩])
 (.cond (.t 33) (.reg [⟨(some 34), (.load 15 true), [.t 2], none⟩,
  ⟨(some 35), (.fld 4), [.t 3], none⟩,
  ⟨(some 36), (.load 1 false), [.t 35], none⟩,
  ⟨(some 37), (.call 53), [.t 34, .t 36], none⟩,
  ⟨(some 38), (.call 105), [.t 37], none⟩,
  ⟨(some 6), .mv, [.t 38], none⟩]) .skip)))
 (.seq (.regd [⟨(some 39), (.fld 4), [.t 3], none⟩,
  ⟨(some 40), (.load 1 false), [.t 39], none⟩,
  ⟨(some 41), (.fld 5), [.t 3], none⟩,
  ⟨(some 42), (.load 1 false), [.t 41], none⟩,
  ⟨(some 43), (.fld 9), [.t 3], none⟩,
  ⟨(some 44), (.load 1 false), [.t 43], none⟩,
  ⟨(some 45), .mv, [.t 6], none⟩,
  ⟨(some 46), (.fld 4), [.t 3], none⟩,
  ⟨(some 47), (.load 1 false), [.t 46], none⟩,
  ⟨(some 48), (.fld 4), [.t 2], none⟩,
  ⟨none, (.store 1), [.t 48, .t 40], none⟩,
  ⟨(some 49), (.fld 5), [.t 2], none⟩,
  ⟨none, (.store 1), [.t 49, .t 42], none⟩,
  ⟨(some 50), (.fld 6), [.t 2], none⟩,
  ⟨none, (.store 1), [.t 50, .t 44], none⟩,
  ⟨(some 51), (.fld 7), [.t 2], none⟩,
  ⟨none, (.store 1), [.t 51, .t 45], none⟩,
  ⟨(some 52), (.fld 10), [.t 2], none⟩,
  ⟨none, (.store 1), [.t 52, .t 47], none⟩] [0, 1, 0, 4, 0, 16, 0, 0, 128, 3, 515, 1551, 3599, 7743, 15935, 32383, 65151, 131071, 262143])
 (.seq (.regd [⟨(some 53), (.load 15 true), [.t 2], none⟩,
  ⟨(some 54), (.load 15 true), [.t 2], none⟩,
  ⟨(some 55), (.load 10 true), [.t 3], none⟩,
  ⟨(some 56), (.fld 4), [.t 3], none⟩,
  ⟨(some 57), (.load 1 false), [.t 56], none⟩,
  ⟨(some 58), (.call 106), [.t 54, .t 55, .c (.bool true), .t 57], none⟩,
  ⟨none, (.store 15), [.t 4, .t 53], none⟩,
  ⟨(some 5), .mv, [.t 58], none⟩] [0, 0, 0, 0, 8, 22, 33, 127])
 .ret))))))
theorem comp107 : compC Go.Proofs.Try.prog ttL 59 [] (match Go.Proofs.Try.f107.body with | some b => b | none => .skip) = some (c107) := by kernel_rfl
end Go.AM
set_option maxRecDepth 100000
set_option maxHeartbeats 8000000
set_option linter.unusedSimpArgs false
namespace Go.AM
open Go.Proofs
attribute [local congr] vc_congr evOps_congr evTab_congr bind_congr condK_congr tabK_congr
def keepLog (n : Node) (m : Msg) : List E := if termOk n (mIndex m) = true ∧ termV n (mIndex m) = mAt m then behindN n (mIndex m) else []
def inst1 (n : Node) (m : Msg) : Node := if mIndex m ≤ nCommit n then n else
  mkN (nId n) (nNodes n) (nTerm n) (nVote n) (mIndex m) (mAt m) (mSnap m) (keepLog n m) (nRole n) (nLead n) (mIndex m) (nVotes n) (nNext n) (nMatch n) (nClock n)
def inst2 (n : Node) (m : Msg) : List Msg := takenM n m true (max (mIndex m) (nCommit n))
def okIdx (i : Int) : Prop := -4398046511104 ≤ i ∧ i ≤ 4398046511104
def fn107 : Fn := { a := .pair tNode (.pair tMsg .unit), r := .pair tNode (.pair (.list tMsg) .unit), pre := fun x => rgN x.1 ∧ okIdx (mIndex x.2.1), f := fun x => (inst1 x.1 x.2.1, inst2 x.1 x.2.1, ()) }
theorem h107  : Holds Try.prog 107 (fn107) := by
  refine Holds.of_vc (T := [(106, fn106), (48, fn48), (53, fn53), (105, fn105)]) (TT := ttL) (rowAt := []) (c := c107) (ros := [.c 4 15, .t 5]) (.cons _ h106 (.cons _ h48 (.cons _ h53 (.cons _ h105 (.nil _))))) mixed Try.func107 (by decide +kernel) (by rfl) comp107 (by kernel_rfl) rfl rfl (fun h => by cases h) ?_
  rintro ⟨(n : Node), (m : Msg), _⟩ hpre
  simp only [fn107] at hpre ⊢
  simp only [c107, fn106, fn48, fn53, fn105, go_sem, reduceIte, Nat.reduceBEq, Nat.reduceMul, reduceCtorEq, Nat.reduceAdd, Nat.reduceEqDiff, decide_eq_true_eq, decide_eq_false_iff_not, Bool.not_eq_true', Bool.not_eq_false', Bool.and_eq_true, Bool.or_eq_true, Bool.and_eq_false_iff, Bool.or_eq_false_iff, Bool.cond_true_left, Bool.cond_false_right, Bool.cond_true_right, Bool.cond_false_left, Bool.or_false, Bool.and_true, inR, fn48]
  simp only [mkPr]
  simp only [rgN, okIdx, sm] at hpre
  have hl : last n = nBase n + (nLog n).length := rfl
  have hB : (behindN n (mIndex m)).length ≤ (nLog n).length := by unfold behindN; rw [List.length_drop]; omega
  have hC : nCommit n = n.2.2.2.2.2.2.2.2.2.2.1 := rfl
  have hI : mIndex m = m.2.2.2.2.1 := rfl
  refine ⟨fun h => ⟨by rfl, (if_pos h).symm, ?_⟩, fun h => ⟨⟨by omega, by omega, by omega⟩, fun hk => ⟨by omega, ?_, by rfl, by rfl, ?_, ?_⟩, fun hk => ⟨by rfl, by rfl, ?_, ?_⟩⟩⟩
  · unfold inst2; rw [show max (mIndex m) (nCommit n) = nCommit n by omega]
  · rw [sm]; have : (behindN n m.2.2.2.2.1).length ≤ _ := hB; omega
  · have e : keepLog n m = behindN n (mIndex m) := if_pos hk
    unfold inst1; rw [if_neg h, e]
  · show takenM n m true (mIndex m) = _
    unfold inst2; rw [show max (mIndex m) (nCommit n) = mIndex m by omega]
  · have e : keepLog n m = [] := if_neg fun hc => by
      rcases hk with hk | hk
      · rw [show termOk n m.2.2.2.2.1 = true from hc.1] at hk; cases hk
      · exact hk hc.2
    unfold inst1; rw [if_neg h, e]
  · show takenM n m true (mIndex m) = _
    unfold inst2; rw [show max (mIndex m) (nCommit n) = mIndex m by omega]
def foll (n : Node) (m : Msg) : Node := mkN (nId n) (nNodes n) (nTerm n) (nVote n) (nBase n) (nBT n) (nSnap n) (nLog n) 0 (mFrom m) (nCommit n) (nVotes n) (nNext n) (nMatch n) 0
def putC (e : Node) (m : Msg) : Node := setCommit (put e (mIndex m) (mEntries m)) (max (nCommit (put e (mIndex m) (mEntries m))) (min (mCommit m) (mIndex m + (mEntries m).length)))
def take1' (d : Node) (m : Msg) : Node :=
  if mTerm m < nTerm d then d
  else if mKind m = 5 then inst1 (foll d m) m
  else if mIndex m < nBase d ∨ last d < mIndex m ∨ termV d (mIndex m) ≠ mAt m then foll d m
  else putC (foll d m) m
def take2' (d : Node) (m : Msg) : List Msg :=
  if mTerm m < nTerm d then takenM d m false (last d)
  else if mKind m = 5 then inst2 (foll d m) m
  else if mIndex m < nBase d then takenM (foll d m) m true (nBase d)
  else if last d < mIndex m ∨ termV d (mIndex m) ≠ mAt m then takenM (foll d m) m false (max 0 (min (last d) (mIndex m - 1)))
  else takenM (putC (foll d m) m) m true (mIndex m + (mEntries m).length)
def take1 (n : Node) (m : Msg) : Node := take1' (down n (mTerm m)) m
def take2 (n : Node) (m : Msg) : List Msg := take2' (down n (mTerm m)) m
theorem rgN_down {n : Node} {t : Int} (h : rgN n) : rgN (down n t) := by
  unfold down; split
  · exact h
  · exact h
def fn65 : Fn := { a := .pair tNode (.pair tMsg .unit), r := .pair tNode (.pair (.list tMsg) .unit), pre := fun x => rgN x.1 ∧ okIdx (mIndex x.2.1) ∧ smallL (mEntries x.2.1), f := fun x => (take1 x.1 x.2.1, take2 x.1 x.2.1, ()) }
theorem h65  : Holds Try.prog 65 (fn65) := by
  refine Holds.of_vc (T := [(32, fn32), (52, fn52), (106, fn106), (107, fn107), (48, fn48), (34, fn34)]) (TT := ttL) (rowAt := []) (c := c65) (ros := [.c 4 15, .t 5]) (.cons _ h32 (.cons _ h52 (.cons _ h106 (.cons _ h107 (.cons _ h48 (.cons _ h34 (.nil _))))))) mixed Try.func65 (by decide +kernel) (by rfl) comp65 (by kernel_rfl) rfl rfl (fun h => by cases h) ?_
  rintro ⟨(n : Node), (m : Msg), _⟩ hpre
  simp only [fn65] at hpre ⊢
  simp only [c65, fn32, fn52, fn106, fn107, fn48, fn34, go_sem, reduceIte, Nat.reduceBEq, Nat.reduceMul, reduceCtorEq, Nat.reduceAdd, Nat.reduceEqDiff, decide_eq_true_eq, decide_eq_false_iff_not, Bool.not_eq_true', Bool.not_eq_false', Bool.and_eq_true, Bool.or_eq_true, Bool.and_eq_false_iff, Bool.or_eq_false_iff, Bool.cond_true_left, Bool.cond_false_right, Bool.cond_true_right, Bool.cond_false_left, Bool.or_false, Bool.and_true, inR, fn48]
  simp only [mkPr]
  have hrd := rgN_down (t := mTerm m) hpre.1
  simp only [take1, take2]
  generalize hd : down n m.2.2.2.1 = d at *
  have hd2 : down n (mTerm m) = d := hd
  rw [hd2] at *
  have ef : mkN d.1 d.2.1 d.2.2.1 d.2.2.2.1 d.2.2.2.2.1 d.2.2.2.2.2.1 d.2.2.2.2.2.2.1 d.2.2.2.2.2.2.2.1 0 m.2.1 d.2.2.2.2.2.2.2.2.2.2.1 d.2.2.2.2.2.2.2.2.2.2.2.1 d.2.2.2.2.2.2.2.2.2.2.2.2.1 d.2.2.2.2.2.2.2.2.2.2.2.2.2.1 0 = foll d m := rfl
  simp only [ef]
  have hrf : rgN (foll d m) := hrd
  have hL : last (foll d m) = last d := rfl
  have hBf : nBase (foll d m) = nBase d := rfl
  have hTV : ∀ i, termV (foll d m) i = termV d i := fun _ => rfl
  have hTO : ∀ i, termOk (foll d m) i = decide (nBase d ≤ i ∧ i ≤ last d) := fun _ => rfl
  have hI : mIndex m = m.2.2.2.2.1 := rfl
  have hT : mTerm m = m.2.2.2.1 := rfl
  simp only [hL, hBf, hTV, hTO]
  have hR := hrd
  simp only [rgN, okIdx, sm] at hR hpre
  have hl : last d = nBase d + (nLog d).length := rfl
  have hBd : nBase d = d.2.2.2.2.1 := rfl
  have hEn : (mEntries m).length = m.2.2.2.2.2.2.2.2.1.length := rfl
  refine ⟨by omega, fun h => ⟨by rfl, (if_pos h).symm, (if_pos h).symm⟩, fun h => ⟨by rfl, fun h5 => ⟨⟨hrf, hpre.2.1⟩, ?_, ?_⟩, fun h5 => ⟨⟨by omega, by omega, by omega⟩, fun hb => ⟨by rfl, ?_, ?_⟩, fun hb => ⟨fun hc => ⟨by omega, by rfl, ?_, ?_⟩, fun hc => ⟨⟨hR.2.2.2.2.1, hpre.2.2, by omega, by omega⟩, by omega, by rfl, ?_, ?_⟩⟩⟩⟩⟩
  · unfold take1'; rw [if_neg h, if_pos h5]
  · unfold take2'; rw [if_neg h, if_pos h5]
  · unfold take1'; rw [if_neg h, if_neg h5, if_pos (.inl hb)]
  · unfold take2'; rw [if_neg h, if_neg h5, if_pos hb]
  · have hc' : last d < mIndex m ∨ termV d (mIndex m) ≠ mAt m := by
      rcases hc with (hc | hc) | hc
      · exact .inl hc
      · rw [decide_eq_false_iff_not] at hc; left; omega
      · exact .inr hc
    unfold take1'; rw [if_neg h, if_neg h5, if_pos (.inr hc')]
  · have hc' : last d < mIndex m ∨ termV d (mIndex m) ≠ mAt m := by
      rcases hc with (hc | hc) | hc
      · exact .inl hc
      · rw [decide_eq_false_iff_not] at hc; left; omega
      · exact .inr hc
    unfold take2'; rw [if_neg h, if_neg h5, if_neg hb, if_pos hc']
  · have hc' : ¬ (mIndex m < nBase d ∨ last d < mIndex m ∨ termV d (mIndex m) ≠ mAt m) := by
      rintro (hx | hx | hx)
      · exact hb hx
      · exact hc.1.1 hx
      · exact hx hc.2
    unfold take1'; rw [if_neg h, if_neg h5, if_neg hc']; rfl
  · have hc' : ¬ (last d < mIndex m ∨ termV d (mIndex m) ≠ mAt m) := by
      rintro (hx | hx)
      · exact hc.1.1 hx
      · exact hx hc.2
    unfold take2'; rw [if_neg h, if_neg h5, if_neg hb, if_neg hc']; rfl
end Go.AM
