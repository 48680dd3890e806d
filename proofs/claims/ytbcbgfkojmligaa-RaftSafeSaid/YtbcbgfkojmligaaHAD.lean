import Derived.Test.YtbcbgfkojmligaaHAC
import Derived.KernelRfl
import Derived.Test.YtbcbgfkojmligaaProg
/- What functions of the program answer, each under the conditions that its contract names. -/
set_option linter.unusedVariables false
set_option linter.unusedSimpArgs false
set_option maxRecDepth 100000
namespace Go.AM
def c80_26 : C := (.seq (.regd [⟨(some 26), (.fld 0), [.t 3], none⟩,
  ⟨(some 27), (.load 1 false), [.t 26], none⟩,
  ⟨(some 28), (.aidx 1 6), [.t 6, .t 27], none⟩,
  ⟨(some 29), (.fld 0), [.t 28], none⟩,
  ⟨(some 30), (.load 1 false), [.t 29], none⟩,
  ⟨(some 31), (.load 15 true), [.t 2], none⟩,
  ⟨(some 32), (.load 10 true), [.t 3], none⟩,
  ⟨(some 33), .callv, [.t 30, .t 31, .t 32], none⟩,
  ⟨(some 34), (.ext 0), [.t 33], none⟩,
  ⟨(some 35), (.ext 1), [.t 33], none⟩,
  ⟨none, (.store 15), [.t 4, .t 34], none⟩,
  ⟨(some 5), .mv, [.t 35], none⟩] [0, 1, 2, 4, 8, 0, 0, 112, 128, 128, 1023, 2047])
 .ret)
def c80 : C := (.seq (.reg [⟨(some 2), .box, [.t 0], none⟩,
  ⟨(some 3), .box, [.t 1], none⟩,
  ⟨(some 4), (.alloc [.int .i64 0, .int .i64 0, .int .i64 0, .int .i64 0, .int .i64 0, .int .i64 0, .str ⟨#[]⟩, .sl tEntry [] true, .int .i64 0, .int .i64 0, .int .i64 0, .sl .bool [] true, .sl tI [] true, .sl tI [] true, .int .i64 0]), [], none⟩,
  ⟨(some 5), .mv, [.c (.sl tMsg [] true)], none⟩])
 (.seq (.reg [⟨(some 7), (.build [.nilf] [(0, 1)]), [.c (.clo 25 [])], none⟩,
  ⟨(some 8), (.build [.nilf] [(0, 1)]), [.c (.clo 119 [])], none⟩,
  ⟨(some 9), (.build [.nilf] [(0, 1)]), [.c (.clo 65 [])], none⟩,
  ⟨(some 10), (.build [.nilf] [(0, 1)]), [.c (.clo 74 [])], none⟩,
  ⟨(some 11), (.build [.nilf] [(0, 1)]), [.c (.clo 65 [])], none⟩,
  ⟨(some 12), (.build [.nilf, .nilf, .nilf, .nilf, .nilf, .nilf] [(1, 1), (2, 1), (3, 1), (4, 1), (5, 1)]), [.t 7, .t 8, .t 9, .t 10, .t 11], none⟩,
  ⟨(some 6), (.alloc [.nilf, .nilf, .nilf, .nilf, .nilf, .nilf]), [], none⟩,
  ⟨none, (.store 6), [.t 6, .t 12], none⟩])
 (.seq (.seq (.reg [⟨(some 13), (.load 10 true), [.t 3], none⟩,
  ⟨(some 14), (.fld 1), [.t 2], none⟩,
  ⟨(some 15), (.load 1 false), [.t 14], none⟩,
  ⟨(some 16), (.call 84), [.t 13, .t 15], none⟩,
  ⟨(some 17), .not, [.t 16], none⟩,
  ⟨(some 18), .mv, [.t 17], none⟩,
  ⟨(some 19), (.fld 2), [.t 3], (some (18, false))⟩,
  ⟨(some 20), (.load 1 false), [.t 19], (some (18, false))⟩,
  ⟨(some 21), (.fld 0), [.t 2], (some (18, false))⟩,
  ⟨(some 22), (.load 1 false), [.t 21], (some (18, false))⟩,
  ⟨(some 23), (.bin .neq), [.t 20, .t 22], (some (18, false))⟩,
  ⟨(some 24), .pick, [.t 18, .c (.bool true), .t 23], none⟩])
 (.cond (.t 24) (.seq (.reg [⟨(some 25), (.load 15 true), [.t 2], none⟩,
  ⟨none, (.store 15), [.t 4, .t 25], none⟩,
  ⟨(some 5), .mv, [.c (.sl tMsg [] true)], none⟩])
 .ret) .skip))
 (.cut c80_26))))
theorem comp80 : compC Go.Proofs.Try.prog ttL 36 [] (match Go.Proofs.Try.f80.body with | some b => b | none => .skip) = some (erase c80) := by kernel_rfl
def c119 : C := (.seq (.reg [⟨(some 2), .box, [.t 0], none⟩,
  ⟨(some 3), .box, [.t 1], none⟩,
  ⟨(some 4), (.alloc [.int .i64 0, .int .i64 0, .int .i64 0, .int .i64 0, .int .i64 0, .int .i64 0, .str ⟨#[]⟩, .sl tEntry [] true, .int .i64 0, .int .i64 0, .int .i64 0, .sl .bool [] true, .sl tI [] true, .sl tI [] true, .int .i64 0]), [], none⟩,
  ⟨(some 5), .mv, [.c (.sl tMsg [] true)], none⟩])
 (.seq (.reg [⟨(some 8), (.load 15 true), [.t 2], none⟩,
  ⟨(some 9), (.load 10 true), [.t 3], none⟩,
  ⟨(some 10), (.call 40), [.t 8, .t 9], none⟩,
  ⟨(some 7), .mv, [.t 10], none⟩,
  ⟨(some 11), (.ext 0), [.t 7], none⟩,
  ⟨(some 12), (.ext 1), [.t 7], none⟩,
  ⟨none, (.store 15), [.t 2, .t 11], none⟩,
  ⟨(some 6), .mv, [.t 12], none⟩])
 (.seq (.seq (.reg [⟨(some 13), .mv, [.t 6], none⟩,
  ⟨(some 14), .not, [.t 13], none⟩,
  ⟨(some 15), .mv, [.t 14], none⟩,
  ⟨(some 16), (.fld 8), [.t 2], (some (15, false))⟩,
  ⟨(some 17), (.load 1 false), [.t 16], (some (15, false))⟩,
  ⟨(some 18), (.bin .neq), [.t 17, .c (.int .i64 1)], (some (15, false))⟩,
  ⟨(some 19), .pick, [.t 15, .c (.bool true), .t 18], none⟩])
 (.cond (.t 19) (.seq (.reg [⟨(some 20), (.load 15 true), [.t 2], none⟩,
  ⟨none, (.store 15), [.t 4, .t 20], none⟩,
  ⟨(some 5), .mv, [.c (.sl tMsg [] true)], none⟩])
 .ret) .skip))
 (.seq (.reg [⟨(some 21), (.load 15 true), [.t 2], none⟩,
  ⟨(some 22), (.call 67), [.t 21], none⟩,
  ⟨(some 23), (.ext 0), [.t 22], none⟩,
  ⟨(some 24), (.ext 1), [.t 22], none⟩,
  ⟨none, (.store 15), [.t 4, .t 23], none⟩,
  ⟨(some 5), .mv, [.t 24], none⟩])
 .ret))))
theorem comp119 : compC Go.Proofs.Try.prog ttL 25 [] (match Go.Proofs.Try.f119.body with | some b => b | none => .skip) = some (c119) := by kernel_rfl
end Go.AM
set_option maxRecDepth 100000
set_option maxHeartbeats 40000000
set_option linter.unusedSimpArgs false
namespace Go.AM
open Go.Proofs
attribute [local congr] vc_congr evOps_congr evTab_congr bind_congr condK_congr tabK_congr
def gv1 (n : Node) (m : Msg) : Node := if given2 n m = true ∧ nRole (given1 n m) = 1 then lead1 (given1 n m) else given1 n m
def gv2 (n : Node) (m : Msg) : List Msg := if given2 n m = true ∧ nRole (given1 n m) = 1 then lead2 (given1 n m) else []
theorem rgN_given {n : Node} {m : Msg} (h : rgN n) : rgN (given1 n m) := by
  have hd := rgN_down (t := mTerm m) h
  unfold given1
  generalize down n (mTerm m) = d at *
  unfold given1'
  split
  · exact hd
  · exact hd
theorem given_last (n : Node) (m : Msg) : last (given1 n m) = last n ∧ nLog (given1 n m) = nLog n := by
  have h1 := last_down n (mTerm m)
  have h2 : nLog (down n (mTerm m)) = nLog n := by unfold down; split <;> rfl
  unfold given1
  generalize down n (mTerm m) = d at *
  unfold given1'
  split
  · exact ⟨h1, h2⟩
  · exact ⟨h1, h2⟩
theorem rgL_given {n : Node} {m : Msg} (h : rgL n) : rgL (given1 n m) := ⟨rgN_given h.1, by rw [(given_last n m).1]; exact h.2.1, by rw [(given_last n m).2]; exact h.2.2⟩
def fn119 : Fn := { a := .pair tNode (.pair tMsg .unit), r := .pair tNode (.pair (.olist tMsg) .unit), pre := fun x => rgL x.1 ∧ smallL (nVotes x.1), f := fun x => (gv1 x.1 x.2.1, gv2 x.1 x.2.1, ()) }
theorem h119  : Holds Try.prog 119 (fn119) := by
  refine Holds.of_vc (T := [(40, fn40), (67, fn67)]) (TT := ttL) (rowAt := []) (c := c119) (ros := [.c 4 15, .t 5]) (.cons _ h40 (.cons _ h67 (.nil _))) mixed Try.func119 (by decide +kernel) (by rfl) comp119 (by kernel_rfl) rfl rfl (fun h => by cases h) ?_
  rintro ⟨(n : Node), (m : Msg), _⟩ hpre
  simp only [fn119] at hpre ⊢
  simp only [c119, fn40, fn67, go_sem, reduceIte, Nat.reduceBEq, Nat.reduceMul, reduceCtorEq, Nat.reduceAdd, Nat.reduceEqDiff, decide_eq_true_eq, decide_eq_false_iff_not, Bool.not_eq_true', Bool.not_eq_false', Bool.and_eq_true, Bool.or_eq_true, Bool.and_eq_false_iff, Bool.or_eq_false_iff, Bool.cond_true_left, Bool.cond_false_right, Bool.cond_true_right, Bool.cond_false_left, Bool.or_false, Bool.and_true, inR]
  have hg := rgL_given (m := m) hpre.1
  refine ⟨⟨hpre.1.1.2.2.2.2.2.1, hpre.1.1.2.2.2.2.2.2.1, hpre.2⟩, fun h => ?_, fun h => ⟨hg, ?_⟩⟩
  · have hn : ¬ (given2 n m = true ∧ nRole (given1 n m) = 1) := fun hc => by
      rcases h with h | h
      · rw [hc.1] at h; cases h
      · exact h hc.2
    exact ⟨(if_neg hn).symm, (if_neg hn).symm⟩
  · exact ⟨(if_pos h).symm, (if_pos h).symm⟩
def step1 (n : Node) (m : Msg) : Node :=
  if rightB m (nNodes n) = true ∧ mTo m = nId n then (if mKind m = 1 then asked1 n m else if mKind m = 2 then gv1 n m else if mKind m = 4 then heard1 n m else take1 n m) else n
def step2 (n : Node) (m : Msg) : List Msg :=
  if rightB m (nNodes n) = true ∧ mTo m = nId n then (if mKind m = 1 then asked2 n m else if mKind m = 2 then gv2 n m else if mKind m = 4 then heard2 n m else take2 n m) else []
def stepOk (n : Node) : Prop := rgL n ∧ smallL (nVotes n) ∧ ∀ i, okAt n i
def fn80 : Fn := { a := .pair tNode (.pair tMsg .unit), r := .pair tNode (.pair (.list tMsg) .unit), pre := fun x => stepOk x.1, f := fun x => (step1 x.1 x.2.1, step2 x.1 x.2.1, ()) }
theorem right_bd {m : Msg} {nodes : Int} (h : rightB m nodes = true) : (1 ≤ mKind m ∧ mKind m ≤ 5) ∧ 0 ≤ mIndex m ∧ mIndex m ≤ 1099511627776 ∧ (mEntries m).length ≤ 20 := by
  unfold rightB inB at h
  simp only [Bool.and_eq_true, decide_eq_true_eq, Bool.not_eq_true', decide_eq_false_iff_not] at h
  obtain ⟨⟨⟨⟨⟨⟨⟨⟨⟨h1, h2⟩, h3⟩, h4⟩, h5⟩, h6⟩, h7⟩, h8⟩, h9⟩, h10⟩ := h
  exact ⟨h1, h6.1, h6.2, by omega⟩
theorem h80  : Holds Try.prog 80 (fn80) := by
  refine Holds.of_vcc (T := [(84, fn84), (25, fn25), (119, fn119), (65, fn65), (74, fn74)]) (TT := ttL) (rowAt := []) (c := c80) (ros := [.c 4 15, .t 5]) (.cons _ h84 (.cons _ h25 (.cons _ h119 (.cons _ h65 (.cons _ h74 (.nil _)))))) mixed Try.func80 (by decide +kernel) (by rfl) comp80 (by kernel_rfl) rfl rfl (fun h => by cases h) ?_
  rintro ⟨(n : Node), (m : Msg), _⟩ hpre
  simp only [fn80] at hpre ⊢
  simp only [c80, fn84, fn25, fn119, fn65, fn74, go_sem, reduceIte, Nat.reduceBEq, Nat.reduceMul, reduceCtorEq, Nat.reduceAdd, Nat.reduceEqDiff, decide_eq_true_eq, decide_eq_false_iff_not, Bool.not_eq_true', Bool.not_eq_false', Bool.and_eq_true, Bool.or_eq_true, Bool.and_eq_false_iff, Bool.or_eq_false_iff, Bool.cond_true_left, Bool.cond_false_right, Bool.cond_true_right, Bool.cond_false_left, Bool.or_false, Bool.and_true, inR]
  generalize hV : vc _ (C.cut c80_26) _ = V
  have hL := hpre.1
  have hR := hL
  simp only [rgL, rgN, sm] at hR
  have hl : last n = nBase n + (nLog n).length := rfl
  have hN : nNodes n = n.2.1 := rfl
  refine ⟨by omega, fun h => ?_, fun h => ?_⟩
  · have hn : ¬ (rightB m (nNodes n) = true ∧ mTo m = nId n) := fun hc => by
      rcases h with h | h
      · rw [show rightB m n.2.1 = true from hc.1] at h; cases h
      · exact h hc.2
    exact ⟨(if_neg hn).symm, (if_neg hn).symm⟩
  have e1 : step1 n m = (if mKind m = 1 then asked1 n m else if mKind m = 2 then gv1 n m else if mKind m = 4 then heard1 n m else take1 n m) := if_pos h
  have e2 : step2 n m = (if mKind m = 1 then asked2 n m else if mKind m = 2 then gv2 n m else if mKind m = 4 then heard2 n m else take2 n m) := if_pos h
  rw [e1, e2] at hV
  obtain ⟨hk, hi0, hi1, he⟩ := right_bd h.1
  have hes : smallL (mEntries m) := by rw [sm]; omega
  clear e1 e2 h
  have hk5 : mKind m = 1 ∨ mKind m = 2 ∨ mKind m = 3 ∨ mKind m = 4 ∨ mKind m = 5 := by omega
  rcases hk5 with hk | hk | hk | hk | hk
  · rw [if_pos hk, if_pos hk] at hV
    refine cut_at hV ⟨[(2, .ptr 2 0), (3, .ptr 3 0), (4, .ptr 4 0), (6, .ptr 6 0)], [(2, .box (cellsA tNode n [])), (3, .box [.int .i64 1, .int .i64 (mFrom m), .int .i64 (mTo m), .int .i64 (mTerm m), .int .i64 (mIndex m), .int .i64 (mAt m), .bool (mYes m), .int .i64 (mCommit m), .sl tEntry (mEntries m) false, .str (mSnap m)]), (4, .box zN), (6, .box [.nilf, .clo 25 [], .clo 119 [], .clo 65 [], .clo 74 [], .clo 65 []])]⟩ ?_ (Ent_of [(2, 2), (3, 3), (4, 4), (6, 6)] rfl ?_ ?_)
    rotate_left
    · simp only [go_sem, reduceIte, Nat.reduceBEq, Nat.reduceMul, reduceCtorEq, Nat.reduceAdd, Nat.reduceEqDiff, decide_eq_true_eq, decide_eq_false_iff_not, Bool.not_eq_true', Bool.not_eq_false', Bool.and_eq_true, Bool.or_eq_true, Bool.and_eq_false_iff, Bool.or_eq_false_iff, Bool.cond_true_left, Bool.cond_false_right, Bool.cond_true_right, Bool.cond_false_left, Bool.or_false, Bool.and_true]
      exact hk.symm
    · simp only [go_sem, reduceIte, Nat.reduceBEq, Nat.reduceMul, reduceCtorEq, Nat.reduceAdd, Nat.reduceEqDiff, decide_eq_true_eq, decide_eq_false_iff_not, Bool.not_eq_true', Bool.not_eq_false', Bool.and_eq_true, Bool.or_eq_true, Bool.and_eq_false_iff, Bool.or_eq_false_iff, Bool.cond_true_left, Bool.cond_false_right, Bool.cond_true_right, Bool.cond_false_left, Bool.or_false, Bool.and_true]
    clear hV V
    have hm : mkM 1 (mFrom m) (mTo m) (mTerm m) (mIndex m) (mAt m) (mYes m) (mCommit m) (mEntries m) (mSnap m) = m := by rw [← hk]
    simp (maxSteps := 10000000) only [c80_26, go_sem, reduceIte, Nat.reduceBEq, Nat.reduceMul, reduceCtorEq, Nat.reduceAdd, Nat.reduceEqDiff, decide_eq_true_eq, decide_eq_false_iff_not, Bool.not_eq_true', Bool.not_eq_false', Bool.and_eq_true, Bool.or_eq_true, Bool.and_eq_false_iff, Bool.or_eq_false_iff, Bool.cond_true_left, Bool.cond_false_right, Bool.cond_true_right, Bool.cond_false_left, Bool.or_false, Bool.and_true, inR, Int.reduceToNat, Nat.mul_one]
    try simp only [mkPrM, hm]
    exact ⟨by decide, ⟨by omega, by omega⟩, by decide +kernel, trivial, trivial⟩
  · rw [if_neg (show ¬ mKind m = 1 by omega), if_pos hk, if_neg (show ¬ mKind m = 1 by omega), if_pos hk] at hV
    refine cut_at hV ⟨[(2, .ptr 2 0), (3, .ptr 3 0), (4, .ptr 4 0), (6, .ptr 6 0)], [(2, .box (cellsA tNode n [])), (3, .box [.int .i64 2, .int .i64 (mFrom m), .int .i64 (mTo m), .int .i64 (mTerm m), .int .i64 (mIndex m), .int .i64 (mAt m), .bool (mYes m), .int .i64 (mCommit m), .sl tEntry (mEntries m) false, .str (mSnap m)]), (4, .box zN), (6, .box [.nilf, .clo 25 [], .clo 119 [], .clo 65 [], .clo 74 [], .clo 65 []])]⟩ ?_ (Ent_of [(2, 2), (3, 3), (4, 4), (6, 6)] rfl ?_ ?_)
    rotate_left
    · simp only [go_sem, reduceIte, Nat.reduceBEq, Nat.reduceMul, reduceCtorEq, Nat.reduceAdd, Nat.reduceEqDiff, decide_eq_true_eq, decide_eq_false_iff_not, Bool.not_eq_true', Bool.not_eq_false', Bool.and_eq_true, Bool.or_eq_true, Bool.and_eq_false_iff, Bool.or_eq_false_iff, Bool.cond_true_left, Bool.cond_false_right, Bool.cond_true_right, Bool.cond_false_left, Bool.or_false, Bool.and_true]
      exact hk.symm
    · simp only [go_sem, reduceIte, Nat.reduceBEq, Nat.reduceMul, reduceCtorEq, Nat.reduceAdd, Nat.reduceEqDiff, decide_eq_true_eq, decide_eq_false_iff_not, Bool.not_eq_true', Bool.not_eq_false', Bool.and_eq_true, Bool.or_eq_true, Bool.and_eq_false_iff, Bool.or_eq_false_iff, Bool.cond_true_left, Bool.cond_false_right, Bool.cond_true_right, Bool.cond_false_left, Bool.or_false, Bool.and_true]
    clear hV V
    have hm : mkM 2 (mFrom m) (mTo m) (mTerm m) (mIndex m) (mAt m) (mYes m) (mCommit m) (mEntries m) (mSnap m) = m := by rw [← hk]
    simp (maxSteps := 10000000) only [c80_26, go_sem, reduceIte, Nat.reduceBEq, Nat.reduceMul, reduceCtorEq, Nat.reduceAdd, Nat.reduceEqDiff, decide_eq_true_eq, decide_eq_false_iff_not, Bool.not_eq_true', Bool.not_eq_false', Bool.and_eq_true, Bool.or_eq_true, Bool.and_eq_false_iff, Bool.or_eq_false_iff, Bool.cond_true_left, Bool.cond_false_right, Bool.cond_true_right, Bool.cond_false_left, Bool.or_false, Bool.and_true, inR, Int.reduceToNat, Nat.mul_one]
    try simp only [mkPrM, hm]
    exact ⟨by decide, ⟨hL, hpre.2.1⟩, by decide +kernel, trivial, trivial⟩
  · rw [if_neg (show ¬ mKind m = 1 by omega), if_neg (show ¬ mKind m = 2 by omega), if_neg (show ¬ mKind m = 4 by omega), if_neg (show ¬ mKind m = 1 by omega), if_neg (show ¬ mKind m = 2 by omega), if_neg (show ¬ mKind m = 4 by omega)] at hV
    refine cut_at hV ⟨[(2, .ptr 2 0), (3, .ptr 3 0), (4, .ptr 4 0), (6, .ptr 6 0)], [(2, .box (cellsA tNode n [])), (3, .box [.int .i64 3, .int .i64 (mFrom m), .int .i64 (mTo m), .int .i64 (mTerm m), .int .i64 (mIndex m), .int .i64 (mAt m), .bool (mYes m), .int .i64 (mCommit m), .sl tEntry (mEntries m) false, .str (mSnap m)]), (4, .box zN), (6, .box [.nilf, .clo 25 [], .clo 119 [], .clo 65 [], .clo 74 [], .clo 65 []])]⟩ ?_ (Ent_of [(2, 2), (3, 3), (4, 4), (6, 6)] rfl ?_ ?_)
    rotate_left
    · simp only [go_sem, reduceIte, Nat.reduceBEq, Nat.reduceMul, reduceCtorEq, Nat.reduceAdd, Nat.reduceEqDiff, decide_eq_true_eq, decide_eq_false_iff_not, Bool.not_eq_true', Bool.not_eq_false', Bool.and_eq_true, Bool.or_eq_true, Bool.and_eq_false_iff, Bool.or_eq_false_iff, Bool.cond_true_left, Bool.cond_false_right, Bool.cond_true_right, Bool.cond_false_left, Bool.or_false, Bool.and_true]
      exact hk.symm
    · simp only [go_sem, reduceIte, Nat.reduceBEq, Nat.reduceMul, reduceCtorEq, Nat.reduceAdd, Nat.reduceEqDiff, decide_eq_true_eq, decide_eq_false_iff_not, Bool.not_eq_true', Bool.not_eq_false', Bool.and_eq_true, Bool.or_eq_true, Bool.and_eq_false_iff, Bool.or_eq_false_iff, Bool.cond_true_left, Bool.cond_false_right, Bool.cond_true_right, Bool.cond_false_left, Bool.or_false, Bool.and_true]
    clear hV V
    have hm : mkM 3 (mFrom m) (mTo m) (mTerm m) (mIndex m) (mAt m) (mYes m) (mCommit m) (mEntries m) (mSnap m) = m := by rw [← hk]
    simp (maxSteps := 10000000) only [c80_26, go_sem, reduceIte, Nat.reduceBEq, Nat.reduceMul, reduceCtorEq, Nat.reduceAdd, Nat.reduceEqDiff, decide_eq_true_eq, decide_eq_false_iff_not, Bool.not_eq_true', Bool.not_eq_false', Bool.and_eq_true, Bool.or_eq_true, Bool.and_eq_false_iff, Bool.or_eq_false_iff, Bool.cond_true_left, Bool.cond_false_right, Bool.cond_true_right, Bool.cond_false_left, Bool.or_false, Bool.and_true, inR, Int.reduceToNat, Nat.mul_one]
    try simp only [mkPrM, hm]
    exact ⟨by decide, ⟨hL.1, by unfold okIdx; omega, hes⟩, by decide +kernel, trivial, trivial⟩
  · rw [if_neg (show ¬ mKind m = 1 by omega), if_neg (show ¬ mKind m = 2 by omega), if_pos hk, if_neg (show ¬ mKind m = 1 by omega), if_neg (show ¬ mKind m = 2 by omega), if_pos hk] at hV
    refine cut_at hV ⟨[(2, .ptr 2 0), (3, .ptr 3 0), (4, .ptr 4 0), (6, .ptr 6 0)], [(2, .box (cellsA tNode n [])), (3, .box [.int .i64 4, .int .i64 (mFrom m), .int .i64 (mTo m), .int .i64 (mTerm m), .int .i64 (mIndex m), .int .i64 (mAt m), .bool (mYes m), .int .i64 (mCommit m), .sl tEntry (mEntries m) false, .str (mSnap m)]), (4, .box zN), (6, .box [.nilf, .clo 25 [], .clo 119 [], .clo 65 [], .clo 74 [], .clo 65 []])]⟩ ?_ (Ent_of [(2, 2), (3, 3), (4, 4), (6, 6)] rfl ?_ ?_)
    rotate_left
    · simp only [go_sem, reduceIte, Nat.reduceBEq, Nat.reduceMul, reduceCtorEq, Nat.reduceAdd, Nat.reduceEqDiff, decide_eq_true_eq, decide_eq_false_iff_not, Bool.not_eq_true', Bool.not_eq_false', Bool.and_eq_true, Bool.or_eq_true, Bool.and_eq_false_iff, Bool.or_eq_false_iff, Bool.cond_true_left, Bool.cond_false_right, Bool.cond_true_right, Bool.cond_false_left, Bool.or_false, Bool.and_true]
      exact hk.symm
    · simp only [go_sem, reduceIte, Nat.reduceBEq, Nat.reduceMul, reduceCtorEq, Nat.reduceAdd, Nat.reduceEqDiff, decide_eq_true_eq, decide_eq_false_iff_not, Bool.not_eq_true', Bool.not_eq_false', Bool.and_eq_true, Bool.or_eq_true, Bool.and_eq_false_iff, Bool.or_eq_false_iff, Bool.cond_true_left, Bool.cond_false_right, Bool.cond_true_right, Bool.cond_false_left, Bool.or_false, Bool.and_true]
    clear hV V
    have hm : mkM 4 (mFrom m) (mTo m) (mTerm m) (mIndex m) (mAt m) (mYes m) (mCommit m) (mEntries m) (mSnap m) = m := by rw [← hk]
    simp (maxSteps := 10000000) only [c80_26, go_sem, reduceIte, Nat.reduceBEq, Nat.reduceMul, reduceCtorEq, Nat.reduceAdd, Nat.reduceEqDiff, decide_eq_true_eq, decide_eq_false_iff_not, Bool.not_eq_true', Bool.not_eq_false', Bool.and_eq_true, Bool.or_eq_true, Bool.and_eq_false_iff, Bool.or_eq_false_iff, Bool.cond_true_left, Bool.cond_false_right, Bool.cond_true_right, Bool.cond_false_left, Bool.or_false, Bool.and_true, inR, Int.reduceToNat, Nat.mul_one]
    try simp only [mkPrM, hm]
    exact ⟨by decide, ⟨hL.1, hpre.2.2 _, by omega, by omega, hL.2.1⟩, by decide +kernel, trivial, trivial⟩
  · rw [if_neg (show ¬ mKind m = 1 by omega), if_neg (show ¬ mKind m = 2 by omega), if_neg (show ¬ mKind m = 4 by omega), if_neg (show ¬ mKind m = 1 by omega), if_neg (show ¬ mKind m = 2 by omega), if_neg (show ¬ mKind m = 4 by omega)] at hV
    refine cut_at hV ⟨[(2, .ptr 2 0), (3, .ptr 3 0), (4, .ptr 4 0), (6, .ptr 6 0)], [(2, .box (cellsA tNode n [])), (3, .box [.int .i64 5, .int .i64 (mFrom m), .int .i64 (mTo m), .int .i64 (mTerm m), .int .i64 (mIndex m), .int .i64 (mAt m), .bool (mYes m), .int .i64 (mCommit m), .sl tEntry (mEntries m) false, .str (mSnap m)]), (4, .box zN), (6, .box [.nilf, .clo 25 [], .clo 119 [], .clo 65 [], .clo 74 [], .clo 65 []])]⟩ ?_ (Ent_of [(2, 2), (3, 3), (4, 4), (6, 6)] rfl ?_ ?_)
    rotate_left
    · simp only [go_sem, reduceIte, Nat.reduceBEq, Nat.reduceMul, reduceCtorEq, Nat.reduceAdd, Nat.reduceEqDiff, decide_eq_true_eq, decide_eq_false_iff_not, Bool.not_eq_true', Bool.not_eq_false', Bool.and_eq_true, Bool.or_eq_true, Bool.and_eq_false_iff, Bool.or_eq_false_iff, Bool.cond_true_left, Bool.cond_false_right, Bool.cond_true_right, Bool.cond_false_left, Bool.or_false, Bool.and_true]
      exact hk.symm
    · simp only [go_sem, reduceIte, Nat.reduceBEq, Nat.reduceMul, reduceCtorEq, Nat.reduceAdd, Nat.reduceEqDiff, decide_eq_true_eq, decide_eq_false_iff_not, Bool.not_eq_true', Bool.not_eq_false', Bool.and_eq_true, Bool.or_eq_true, Bool.and_eq_false_iff, Bool.or_eq_false_iff, Bool.cond_true_left, Bool.cond_false_right, Bool.cond_true_right, Bool.cond_false_left, Bool.or_false, Bool.and_true]
    clear hV V
    have hm : mkM 5 (mFrom m) (mTo m) (mTerm m) (mIndex m) (mAt m) (mYes m) (mCommit m) (mEntries m) (mSnap m) = m := by rw [← hk]
    simp (maxSteps := 10000000) only [c80_26, go_sem, reduceIte, Nat.reduceBEq, Nat.reduceMul, reduceCtorEq, Nat.reduceAdd, Nat.reduceEqDiff, decide_eq_true_eq, decide_eq_false_iff_not, Bool.not_eq_true', Bool.not_eq_false', Bool.and_eq_true, Bool.or_eq_true, Bool.and_eq_false_iff, Bool.or_eq_false_iff, Bool.cond_true_left, Bool.cond_false_right, Bool.cond_true_right, Bool.cond_false_left, Bool.or_false, Bool.and_true, inR, Int.reduceToNat, Nat.mul_one]
    try simp only [mkPrM, hm]
    exact ⟨by decide, ⟨hL.1, by unfold okIdx; omega, hes⟩, by decide +kernel, trivial, trivial⟩
end Go.AM
