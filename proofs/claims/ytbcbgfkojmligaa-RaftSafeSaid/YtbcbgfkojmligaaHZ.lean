import Derived.Test.YtbcbgfkojmligaaHW
import Derived.KernelRfl
import Derived.Test.YtbcbgfkojmligaaProg
/- What functions of the program answer, each under the conditions that its contract names. -/
set_option linter.unusedVariables false
set_option linter.unusedSimpArgs false
set_option maxRecDepth 100000
namespace Go.AM
def c84 : C := (.seq (.reg [⟨(some 2), .box, [.t 0], none⟩,
  ⟨(some 4), .mv, [.c (.bool false)], none⟩])
 (.seq (.reg [⟨(some 6), (.clo 121), [.t 2], none⟩,
  ⟨(some 5), .mv, [.t 6], none⟩])
 (.seq (.reg [⟨(some 7), (.fld 0), [.t 2], none⟩,
  ⟨(some 8), (.load 1 false), [.t 7], none⟩,
  ⟨(some 9), (.call 122), [.t 8, .c (.int .i64 1), .c (.int .i64 5)], none⟩,
  ⟨(some 10), .mv, [.t 9], none⟩,
  ⟨(some 11), (.fld 1), [.t 2], (some (10, true))⟩,
  ⟨(some 12), (.load 1 false), [.t 11], (some (10, true))⟩,
  ⟨(some 13), (.fld 2), [.t 2], (some (10, true))⟩,
  ⟨(some 14), (.load 1 false), [.t 13], (some (10, true))⟩,
  ⟨(some 15), (.bin .neq), [.t 12, .t 14], (some (10, true))⟩,
  ⟨(some 16), .pick, [.t 10, .t 15, .c (.bool false)], none⟩,
  ⟨(some 17), .mv, [.t 16], none⟩,
  ⟨(some 18), (.fld 1), [.t 2], (some (17, true))⟩,
  ⟨(some 19), (.load 1 false), [.t 18], (some (17, true))⟩,
  ⟨(some 20), .mv, [.t 1], (some (17, true))⟩,
  ⟨(some 21), (.bin .sub), [.t 20, .c (.int .i64 1)], (some (17, true))⟩,
  ⟨(some 22), (.call 122), [.t 19, .c (.int .i64 0), .t 21], (some (17, true))⟩,
  ⟨(some 23), .pick, [.t 17, .t 22, .c (.bool false)], none⟩,
  ⟨(some 24), .mv, [.t 23], none⟩,
  ⟨(some 25), (.fld 2), [.t 2], (some (24, true))⟩,
  ⟨(some 26), (.load 1 false), [.t 25], (some (24, true))⟩,
  ⟨(some 27), .mv, [.t 1], (some (24, true))⟩,
  ⟨(some 28), (.bin .sub), [.t 27, .c (.int .i64 1)], (some (24, true))⟩,
  ⟨(some 29), (.call 122), [.t 26, .c (.int .i64 0), .t 28], (some (24, true))⟩,
  ⟨(some 30), .pick, [.t 24, .t 29, .c (.bool false)], none⟩,
  ⟨(some 31), .mv, [.t 30], none⟩,
  ⟨(some 32), (.fld 3), [.t 2], (some (31, true))⟩,
  ⟨(some 33), (.load 1 false), [.t 32], (some (31, true))⟩,
  ⟨(some 34), (.call 122), [.t 33, .c (.int .i64 1), .c (.int .i64 1099511627776)], (some (31, true))⟩,
  ⟨(some 35), .pick, [.t 31, .t 34, .c (.bool false)], none⟩,
  ⟨(some 36), .mv, [.t 35], none⟩,
  ⟨(some 37), (.fld 4), [.t 2], (some (36, true))⟩,
  ⟨(some 38), (.load 1 false), [.t 37], (some (36, true))⟩,
  ⟨(some 39), (.call 122), [.t 38, .c (.int .i64 0), .c (.int .i64 1099511627776)], (some (36, true))⟩,
  ⟨(some 40), .pick, [.t 36, .t 39, .c (.bool false)], none⟩,
  ⟨(some 41), .mv, [.t 40], none⟩,
  ⟨(some 42), (.fld 5), [.t 2], (some (41, true))⟩,
  ⟨(some 43), (.load 1 false), [.t 42], (some (41, true))⟩,
  ⟨(some 44), (.call 122), [.t 43, .c (.int .i64 0), .c (.int .i64 1099511627776)], (some (41, true))⟩,
  ⟨(some 45), .pick, [.t 41, .t 44, .c (.bool false)], none⟩,
  ⟨(some 46), .mv, [.t 45], none⟩,
  ⟨(some 47), (.fld 7), [.t 2], (some (46, true))⟩,
  ⟨(some 48), (.load 1 false), [.t 47], (some (46, true))⟩,
  ⟨(some 49), (.call 122), [.t 48, .c (.int .i64 0), .c (.int .i64 1099511627776)], (some (46, true))⟩,
  ⟨(some 50), .pick, [.t 46, .t 49, .c (.bool false)], none⟩,
  ⟨(some 51), .mv, [.t 50], none⟩,
  ⟨(some 52), (.fld 8), [.t 2], (some (51, true))⟩,
  ⟨(some 53), (.load 1 false), [.t 52], (some (51, true))⟩,
  ⟨(some 54), .len, [.t 53], (some (51, true))⟩,
  ⟨(some 55), (.bin .leq), [.t 54, .c (.int .i64 20)], (some (51, true))⟩,
  ⟨(some 56), .pick, [.t 51, .t 55, .c (.bool false)], none⟩,
  ⟨(some 57), .mv, [.t 56], none⟩,
  ⟨(some 58), (.fld 8), [.t 2], (some (57, true))⟩,
  ⟨(some 59), (.load 1 false), [.t 58], (some (57, true))⟩,
  ⟨(some 60), .mv, [.t 5], (some (57, true))⟩,
  ⟨(some 61), (.call 100), [.t 59, .t 60], (some (57, true))⟩,
  ⟨(some 62), .not, [.t 61], (some (57, true))⟩,
  ⟨(some 63), .pick, [.t 57, .t 62, .c (.bool false)], none⟩,
  ⟨(some 4), .mv, [.t 63], none⟩])
 .ret)))
theorem comp84 : compC Go.Proofs.Try.prog ttL 64 [] (match Go.Proofs.Try.f84.body with | some b => b | none => .skip) = some (c84) := by kernel_rfl
def c117 : C := (.seq (.reg [⟨(some 1), .box, [.t 0], none⟩,
  ⟨(some 2), .mv, [.c (.sl tMsg [] true)], none⟩])
 (.seq (.reg [⟨(some 3), .mv, [.c (.sl tMsg [] true)], none⟩])
 (.seq (.seq (.reg [⟨(some 5), (.fld 1), [.t 1], none⟩,
  ⟨(some 6), (.load 1 false), [.t 5], none⟩,
  ⟨(some 7), .mn, [.t 6, .c (.int .i64 5)], none⟩,
  ⟨(some 8), .mx, [.c (.int .i64 0), .t 7], none⟩,
  ⟨(some 9), .mv, [.c (.int .i64 0)], none⟩])
 (.block 0 (.loop (.seq (.reg [⟨(some 10), (.bin .lss), [.t 9, .t 8], none⟩])
 (.seq (.cond (.t 10) .skip (.exit 0))
 (.seq (.block 1 (.seq (.reg [⟨(some 11), .mv, [.t 9], none⟩,
  ⟨(some 4), .mv, [.t 11], none⟩])
 (.seq (.reg [⟨(some 12), .mv, [.t 4], none⟩,
  ⟨(some 13), (.fld 0), [.t 1], none⟩,
  ⟨(some 14), (.load 1 false), [.t 13], none⟩,
  ⟨(some 15), (.bin .neq), [.t 12, .t 14], none⟩])
 (.cond (.t 15) (.reg [⟨(some 16), .mv, [.t 3], none⟩,
  ⟨(some 17), (.load 15 true), [.t 1], none⟩,
  ⟨(some 18), .mv, [.t 4], none⟩,
  ⟨(some 19), (.call 70), [.t 17, .t 18], none⟩,
  ⟨(some 20), (.bslice tMsg 1), [.t 19], none⟩,
  ⟨(some 21), (.app 10 104), [.t 16, .t 20], none⟩,
  ⟨(some 3), .mv, [.t 21], none⟩]) .skip))))
 (.reg [⟨(some 22), (.bin .add), [.t 9, .c (.int .i64 1)], none⟩,
  ⟨(some 9), .mv, [.t 22], none⟩])))))))
 (.seq (.reg [⟨(some 23), .mv, [.t 3], none⟩,
  ⟨(some 2), .mv, [.t 23], none⟩])
 .ret))))
theorem comp117 : compC Go.Proofs.Try.prog ttL 24 [] (match Go.Proofs.Try.f117.body with | some b => b | none => .skip) = some (c117) := by kernel_rfl
def c121 : C := (.seq (.reg [⟨(some 2), .box, [.t 0], none⟩,
  ⟨(some 3), .mv, [.c (.bool false)], none⟩])
 (.seq (.reg [⟨(some 4), (.fld 0), [.t 2], none⟩,
  ⟨(some 5), (.load 1 false), [.t 4], none⟩,
  ⟨(some 6), (.fld 3), [.t 1], none⟩,
  ⟨(some 7), (.load 1 false), [.t 6], none⟩,
  ⟨(some 8), (.call 122), [.t 5, .c (.int .i64 0), .t 7], none⟩,
  ⟨(some 9), .not, [.t 8], none⟩,
  ⟨(some 3), .mv, [.t 9], none⟩])
 .ret))
theorem comp121 : compC Go.Proofs.Try.prog ttL 10 [] (match Go.Proofs.Try.f121.body with | some b => b | none => .skip) = some (c121) := by kernel_rfl
def c122 : C := (.seq (.reg [⟨(some 6), .mv, [.c (.bool false)], none⟩])
 (.seq (.reg [⟨(some 7), .mv, [.t 0], none⟩,
  ⟨(some 8), .mv, [.t 1], none⟩,
  ⟨(some 9), (.bin .geq), [.t 7, .t 8], none⟩,
  ⟨(some 10), .mv, [.t 9], none⟩,
  ⟨(some 11), .mv, [.t 0], (some (10, true))⟩,
  ⟨(some 12), .mv, [.t 2], (some (10, true))⟩,
  ⟨(some 13), (.bin .leq), [.t 11, .t 12], (some (10, true))⟩,
  ⟨(some 14), .pick, [.t 10, .t 13, .c (.bool false)], none⟩,
  ⟨(some 6), .mv, [.t 14], none⟩])
 .ret))
theorem comp122 : compC Go.Proofs.Try.prog ttL 15 [] (match Go.Proofs.Try.f122.body with | some b => b | none => .skip) = some (c122) := by kernel_rfl
end Go.AM
set_option maxRecDepth 100000
set_option maxHeartbeats 40000000
set_option linter.unusedSimpArgs false
namespace Go.AM
open Go.Proofs
attribute [local congr] vc_congr evOps_congr evTab_congr bind_congr condK_congr tabK_congr
def fn122 : Fn := { a := .pair tI (.pair tI (.pair tI .unit)), r := .pair .bool .unit, pre := fun _ => True, f := fun x => (inB x.1 x.2.1 x.2.2.1, ()) }
theorem h122  : Holds Try.prog 122 (fn122) := by
  refine Holds.of_vc (T := []) (TT := ttL) (rowAt := []) (c := c122) (ros := [.t 6]) (.nil _) mixed Try.func122 (by decide +kernel) (by rfl) comp122 (by kernel_rfl) rfl rfl (fun h => by cases h) ?_
  rintro ⟨(v : Int), (a : Int), (b : Int), _⟩ hpre
  simp only [fn122] at hpre ⊢
  simp only [c122, go_sem, reduceIte, Nat.reduceBEq, Nat.reduceMul, reduceCtorEq, Nat.reduceAdd, Nat.reduceEqDiff, decide_eq_true_eq, decide_eq_false_iff_not, Bool.not_eq_true', Bool.not_eq_false', Bool.and_eq_true, Bool.or_eq_true, Bool.and_eq_false_iff, Bool.or_eq_false_iff, Bool.cond_true_left, Bool.cond_false_right, Bool.cond_true_right, Bool.cond_false_left, Bool.or_false, Bool.and_true, inR, inB]
def fn121 : Fn := { a := .pair tEntry (.pair (.ref tMsg) .unit), r := .pair .bool .unit, pre := fun _ => True, f := fun x => (!inB x.1.1 0 (mTerm x.2.1), ()), tot := true }
theorem h121 : Holds Try.prog 121 fn121 := by
  refine Holds.of_vc (T := [(122, fn122)]) (TT := ttL) (rowAt := []) (c := c121) (ros := [.t 3]) (.cons _ h122 (.nil _)) mixed Try.func121 (by decide +kernel) (by rfl) comp121 (by kernel_rfl) rfl rfl (fun _ _ => trivial) ?_
  rintro ⟨(e : E), (m : Msg), _⟩ hpre
  simp only [fn121] at hpre ⊢
  simp only [c121, fn122, go_sem, reduceIte, Nat.reduceBEq, Nat.reduceMul, reduceCtorEq, Nat.reduceAdd, Nat.reduceEqDiff, decide_eq_true_eq, decide_eq_false_iff_not, Bool.not_eq_true', Bool.not_eq_false', Bool.and_eq_true, Bool.or_eq_true, Bool.and_eq_false_iff, Bool.or_eq_false_iff, Bool.cond_true_left, Bool.cond_false_right, Bool.cond_true_right, Bool.cond_false_left, Bool.or_false, Bool.and_true]
def rightB (m : Msg) (nodes : Int) : Bool :=
  ((((((((inB (mKind m) 1 5 && !decide (mFrom m = mTo m)) && inB (mFrom m) 0 (nodes - 1)) && inB (mTo m) 0 (nodes - 1)) && inB (mTerm m) 1 1099511627776) && inB (mIndex m) 0 1099511627776) && inB (mAt m) 0 1099511627776) && inB (mCommit m) 0 1099511627776) && decide (((mEntries m).length : Int) ≤ 20)) && !((mEntries m).any fun e => !inB e.1 0 (mTerm m))
def fn84 : Fn := { a := .pair tMsg (.pair tI .unit), r := .pair .bool .unit, pre := fun x => InR .i64 (x.2.1 - 1), f := fun x => (rightB x.1 x.2.1, ()) }
theorem h84  : Holds Try.prog 84 (fn84) := by
  refine Holds.of_vc (T := [(122, fn122), (121, fn121), (100, fn100)]) (TT := ttL) (rowAt := []) (c := c84) (ros := [.t 4]) (.cons _ h122 (.cons _ h121 (.cons _ h100 (.nil _)))) mixed Try.func84 (by decide +kernel) (by rfl) comp84 (by kernel_rfl) rfl rfl (fun h => by cases h) ?_
  rintro ⟨(m : Msg), (nodes : Int), _⟩ hpre
  simp only [fn84] at hpre ⊢
  simp (maxSteps := 10000000) only [c84, fn122, fn121, fn100, go_sem, reduceIte, Nat.reduceBEq, Nat.reduceMul, reduceCtorEq, Nat.reduceAdd, Nat.reduceEqDiff, decide_eq_true_eq, decide_eq_false_iff_not, Bool.not_eq_true', Bool.not_eq_false', Bool.and_eq_true, Bool.or_eq_true, Bool.and_eq_false_iff, Bool.or_eq_false_iff, Bool.cond_true_left, Bool.cond_false_right, Bool.cond_true_right, Bool.cond_false_left, Bool.or_false, Bool.and_true, inR]
  exact ⟨fun _ => hpre, fun _ => hpre, fun h => by rw [sm]; have := h.2; omega, rfl⟩
def fn117 : Fn := fn111
theorem h117  : Holds Try.prog 117 (fn117) := by
  refine Holds.of_vc (T := [(70, fn70)]) (TT := ttL) (rowAt := []) (c := c117) (ros := [.t 2]) (.cons _ h70 (.nil _)) mixed Try.func117 (by decide +kernel) (by rfl) comp117 (by kernel_rfl) rfl rfl (fun h => by cases h) ?_
  rintro ⟨(n : Node), _⟩ hpre
  simp only [fn117, fn111] at hpre ⊢
  simp only [c117, fn70, go_sem, reduceIte, Nat.reduceBEq, Nat.reduceMul, reduceCtorEq, Nat.reduceAdd, Nat.reduceEqDiff, decide_eq_true_eq, decide_eq_false_iff_not, Bool.not_eq_true', Bool.not_eq_false', Bool.and_eq_true, Bool.or_eq_true, Bool.and_eq_false_iff, Bool.or_eq_false_iff, Bool.cond_true_left, Bool.cond_false_right, Bool.cond_true_right, Bool.cond_false_left, Bool.or_false, Bool.and_true, inR]
  have hn : 0 ≤ nodesN n ∧ nodesN n ≤ 5 := by unfold nodesN; omega
  have hqe : nodesN n = max 0 (min n.2.1 5) := rfl
  generalize hq : nodesN n = q at *
  simp only [← hqe]
  refine loop_rule (β := Nat) (fun i => ⟨[(1, .ptr 1 0), (3, .own 21 0 (sendsN n i).length), (8, .int .i64 q), (9, .int .i64 i)], [(1, .box (cellsA tNode n [])), (21, .row tMsg (sendsN n i) false)]⟩) (fun i => i ≤ q.toNat) (fun i => q.toNat - i) 0 ?_ ?_ ?_
  · refine Ent_of [(1, 1)] rfl ?_ ?_
    · simp only [go_sem, reduceIte, Nat.reduceBEq, Nat.reduceMul, reduceCtorEq, Nat.reduceAdd, Nat.reduceEqDiff, decide_eq_true_eq, decide_eq_false_iff_not, Bool.not_eq_true', Bool.not_eq_false', Bool.and_eq_true, Bool.or_eq_true, Bool.and_eq_false_iff, Bool.or_eq_false_iff, Bool.cond_true_left, Bool.cond_false_right, Bool.cond_true_right, Bool.cond_false_left, Bool.or_false, Bool.and_true]
      exact ⟨rfl, by decide⟩
    · simp only [go_sem, reduceIte, Nat.reduceBEq, Nat.reduceMul, reduceCtorEq, Nat.reduceAdd, Nat.reduceEqDiff, decide_eq_true_eq, decide_eq_false_iff_not, Bool.not_eq_true', Bool.not_eq_false', Bool.and_eq_true, Bool.or_eq_true, Bool.and_eq_false_iff, Bool.or_eq_false_iff, Bool.cond_true_left, Bool.cond_false_right, Bool.cond_true_right, Bool.cond_false_left, Bool.or_false, Bool.and_true]
      exact ⟨rfl, rfl⟩
  · exact Nat.zero_le _
  intro i hi
  have hl := sendsN_len n i
  simp only [go_sem, reduceIte, Nat.reduceBEq, Nat.reduceMul, reduceCtorEq, Nat.reduceAdd, Nat.reduceEqDiff, decide_eq_true_eq, decide_eq_false_iff_not, Bool.not_eq_true', Bool.not_eq_false', Bool.and_eq_true, Bool.or_eq_true, Bool.and_eq_false_iff, Bool.or_eq_false_iff, Bool.cond_true_left, Bool.cond_false_right, Bool.cond_true_right, Bool.cond_false_left, Bool.or_false, Bool.and_true, inR]
  refine ⟨fun h => ⟨fun hne => ⟨⟨hpre.1, hpre.2.at _⟩, by omega, by omega, Again.intro (i + 1) (Ent_of [(1, 1), (21, 21)] rfl ?_ ?_) ?_ (show q.toNat - (i + 1) < q.toNat - i by omega)⟩, fun he => ⟨by omega, Again.intro (i + 1) (Ent_of [(1, 1), (21, 21)] rfl ?_ ?_) ?_ (show q.toNat - (i + 1) < q.toNat - i by omega)⟩⟩, fun h => ?_⟩
  · simp only [go_sem, reduceIte, Nat.reduceBEq, Nat.reduceMul, reduceCtorEq, Nat.reduceAdd, Nat.reduceEqDiff, decide_eq_true_eq, decide_eq_false_iff_not, Bool.not_eq_true', Bool.not_eq_false', Bool.and_eq_true, Bool.or_eq_true, Bool.and_eq_false_iff, Bool.or_eq_false_iff, Bool.cond_true_left, Bool.cond_false_right, Bool.cond_true_right, Bool.cond_false_left, Bool.or_false, Bool.and_true]
    exact sendsN_yes n i hne
  · simp only [go_sem, reduceIte, Nat.reduceBEq, Nat.reduceMul, reduceCtorEq, Nat.reduceAdd, Nat.reduceEqDiff, decide_eq_true_eq, decide_eq_false_iff_not, Bool.not_eq_true', Bool.not_eq_false', Bool.and_eq_true, Bool.or_eq_true, Bool.and_eq_false_iff, Bool.or_eq_false_iff, Bool.cond_true_left, Bool.cond_false_right, Bool.cond_true_right, Bool.cond_false_left, Bool.or_false, Bool.and_true]
    rw [sendsN_yes n i hne, List.length_append]
    exact ⟨rfl, by omega⟩
  · show i + 1 ≤ q.toNat; omega
  · simp only [go_sem, reduceIte, Nat.reduceBEq, Nat.reduceMul, reduceCtorEq, Nat.reduceAdd, Nat.reduceEqDiff, decide_eq_true_eq, decide_eq_false_iff_not, Bool.not_eq_true', Bool.not_eq_false', Bool.and_eq_true, Bool.or_eq_true, Bool.and_eq_false_iff, Bool.or_eq_false_iff, Bool.cond_true_left, Bool.cond_false_right, Bool.cond_true_right, Bool.cond_false_left, Bool.or_false, Bool.and_true]
    exact sendsN_no n i he
  · simp only [go_sem, reduceIte, Nat.reduceBEq, Nat.reduceMul, reduceCtorEq, Nat.reduceAdd, Nat.reduceEqDiff, decide_eq_true_eq, decide_eq_false_iff_not, Bool.not_eq_true', Bool.not_eq_false', Bool.and_eq_true, Bool.or_eq_true, Bool.and_eq_false_iff, Bool.or_eq_false_iff, Bool.cond_true_left, Bool.cond_false_right, Bool.cond_true_right, Bool.cond_false_left, Bool.or_false, Bool.and_true]
    rw [sendsN_no n i he]
    exact ⟨rfl, by omega⟩
  · show i + 1 ≤ q.toNat; omega
  · unfold othersN; rw [hq, show i = q.toNat by omega]
end Go.AM
