import Derived.Test.YtbcbgfkojmligaaHAW
import Derived.KernelRfl
import Derived.Test.YtbcbgfkojmligaaProg
/- What functions of the program answer, each under the conditions that its contract names. -/
set_option linter.unusedVariables false
set_option linter.unusedSimpArgs false
set_option maxRecDepth 100000
namespace Go.AM
def c87 : C := (.seq (.reg [⟨(some 2), .box, [.t 0], none⟩,
  ⟨(some 3), .box, [.t 1], none⟩,
  ⟨(some 4), .mv, [.c (.bool false)], none⟩])
 (.seq (.reg [⟨(some 5), .mv, [.c (.int .i64 (-1))], none⟩])
 (.seq (.seq (.reg [⟨(some 6), .mv, [.c (.int .i64 0)], none⟩])
 (.block 0 (.loop (.seq (.seq (.reg [⟨(some 9), .mv, [.t 6], none⟩,
  ⟨(some 10), (.fld 7), [.t 2], none⟩,
  ⟨(some 11), (.load 1 false), [.t 10], none⟩,
  ⟨(some 12), .len, [.t 11], none⟩,
  ⟨(some 13), (.bin .lss), [.t 9, .t 12], none⟩,
  ⟨(some 14), .mv, [.t 13], none⟩,
  ⟨(some 15), .mv, [.t 6], (some (14, true))⟩,
  ⟨(some 16), (.fld 7), [.t 3], (some (14, true))⟩,
  ⟨(some 17), (.load 1 false), [.t 16], (some (14, true))⟩,
  ⟨(some 18), .len, [.t 17], (some (14, true))⟩,
  ⟨(some 19), (.bin .lss), [.t 15, .t 18], (some (14, true))⟩,
  ⟨(some 20), .pick, [.t 14, .t 19, .c (.bool false)], none⟩])
 (.cond (.t 20) .skip (.exit 0)))
 (.seq (.block 1 (.seq (.regd [⟨(some 23), (.fld 7), [.t 2], none⟩,
  ⟨(some 24), (.load 1 false), [.t 23], none⟩,
  ⟨(some 25), .mv, [.t 6], none⟩,
  ⟨(some 26), (.idx 2), [.t 24, .t 25], none⟩,
  ⟨(some 27), (.fld 0), [.t 26], none⟩,
  ⟨(some 28), (.load 1 false), [.t 27], none⟩,
  ⟨(some 29), (.fld 7), [.t 3], none⟩,
  ⟨(some 30), (.load 1 false), [.t 29], none⟩,
  ⟨(some 31), .mv, [.t 6], none⟩,
  ⟨(some 32), (.idx 2), [.t 30, .t 31], none⟩,
  ⟨(some 33), (.fld 0), [.t 32], none⟩,
  ⟨(some 34), (.load 1 false), [.t 33], none⟩,
  ⟨(some 35), (.bin .eql), [.t 28, .t 34], none⟩] [0, 1, 0, 6, 8, 16, 0, 64, 0, 384, 512, 1024, 2080])
 (.cond (.t 35) (.reg [⟨(some 36), .mv, [.t 6], none⟩,
  ⟨(some 5), .mv, [.t 36], none⟩]) .skip)))
 (.reg [⟨(some 21), .mv, [.t 6], none⟩,
  ⟨(some 22), (.bin .add), [.t 21, .c (.int .i64 1)], none⟩,
  ⟨(some 6), .mv, [.t 22], none⟩]))))))
 (.seq (.seq (.reg [⟨(some 7), .mv, [.c (.int .i64 0)], none⟩])
 (.block 2 (.loop (.seq (.seq (.reg [⟨(some 37), .mv, [.t 7], none⟩,
  ⟨(some 38), .mv, [.t 5], none⟩,
  ⟨(some 39), (.bin .leq), [.t 37, .t 38], none⟩])
 (.cond (.t 39) .skip (.exit 2)))
 (.seq (.block 3 (.seq (.regd [⟨(some 42), (.fld 7), [.t 2], none⟩,
  ⟨(some 43), (.load 1 false), [.t 42], none⟩,
  ⟨(some 44), .mv, [.t 7], none⟩,
  ⟨(some 45), (.idx 2), [.t 43, .t 44], none⟩,
  ⟨(some 46), (.fld 0), [.t 45], none⟩,
  ⟨(some 47), (.load 1 false), [.t 46], none⟩,
  ⟨(some 48), (.fld 7), [.t 3], none⟩,
  ⟨(some 49), (.load 1 false), [.t 48], none⟩,
  ⟨(some 50), .mv, [.t 7], none⟩,
  ⟨(some 51), (.idx 2), [.t 49, .t 50], none⟩,
  ⟨(some 52), (.fld 0), [.t 51], none⟩,
  ⟨(some 53), (.load 1 false), [.t 52], none⟩,
  ⟨(some 54), (.bin .neq), [.t 47, .t 53], none⟩,
  ⟨(some 55), .mv, [.t 54], none⟩,
  ⟨(some 56), (.fld 7), [.t 2], (some (55, false))⟩,
  ⟨(some 57), (.load 1 false), [.t 56], (some (55, false))⟩,
  ⟨(some 58), .mv, [.t 7], (some (55, false))⟩,
  ⟨(some 59), (.idx 2), [.t 57, .t 58], (some (55, false))⟩,
  ⟨(some 60), (.fld 1), [.t 59], (some (55, false))⟩,
  ⟨(some 61), (.load 1 false), [.t 60], (some (55, false))⟩,
  ⟨(some 62), (.fld 7), [.t 3], (some (55, false))⟩,
  ⟨(some 63), (.load 1 false), [.t 62], (some (55, false))⟩,
  ⟨(some 64), .mv, [.t 7], (some (55, false))⟩,
  ⟨(some 65), (.idx 2), [.t 63, .t 64], (some (55, false))⟩,
  ⟨(some 66), (.fld 1), [.t 65], (some (55, false))⟩,
  ⟨(some 67), (.load 1 false), [.t 66], (some (55, false))⟩,
  ⟨(some 68), (.bin .neq), [.t 61, .t 67], (some (55, false))⟩,
  ⟨(some 69), .pick, [.t 55, .c (.bool true), .t 68], none⟩] [0, 1, 0, 6, 8, 16, 0, 64, 0, 384, 512, 1024, 2080, 4096, 8192, 24576, 8192, 106496, 139264, 270336, 8192, 1056768, 8192, 6299648, 8396800, 16785408, 34086912, 67117056])
 (.cond (.t 69) (.seq (.reg [⟨(some 4), .mv, [.c (.bool false)], none⟩])
 .ret) .skip)))
 (.reg [⟨(some 40), .mv, [.t 7], none⟩,
  ⟨(some 41), (.bin .add), [.t 40, .c (.int .i64 1)], none⟩,
  ⟨(some 7), .mv, [.t 41], none⟩]))))))
 (.seq (.reg [⟨(some 70), (.fld 10), [.t 2], none⟩,
  ⟨(some 71), (.load 1 false), [.t 70], none⟩,
  ⟨(some 72), (.fld 10), [.t 3], none⟩,
  ⟨(some 73), (.load 1 false), [.t 72], none⟩,
  ⟨(some 74), .mn, [.t 71, .t 73], none⟩,
  ⟨(some 8), .mv, [.t 74], none⟩])
 (.seq (.regd [⟨(some 75), .mv, [.t 8], none⟩,
  ⟨(some 76), (.fld 7), [.t 2], none⟩,
  ⟨(some 77), (.load 1 false), [.t 76], none⟩,
  ⟨(some 78), .len, [.t 77], none⟩,
  ⟨(some 79), (.bin .leq), [.t 75, .t 78], none⟩,
  ⟨(some 80), .mv, [.t 79], none⟩,
  ⟨(some 81), .mv, [.t 8], (some (80, true))⟩,
  ⟨(some 82), (.fld 7), [.t 3], (some (80, true))⟩,
  ⟨(some 83), (.load 1 false), [.t 82], (some (80, true))⟩,
  ⟨(some 84), .len, [.t 83], (some (80, true))⟩,
  ⟨(some 85), (.bin .leq), [.t 81, .t 84], (some (80, true))⟩,
  ⟨(some 86), .pick, [.t 80, .t 85, .c (.bool false)], none⟩,
  ⟨(some 87), .mv, [.t 86], none⟩,
  ⟨(some 88), (.fld 7), [.t 2], (some (87, true))⟩,
  ⟨(some 89), (.load 1 false), [.t 88], (some (87, true))⟩,
  ⟨(some 90), .mv, [.t 8], (some (87, true))⟩,
  ⟨(some 91), (.slc 2 false true false), [.t 89, .t 90], (some (87, true))⟩,
  ⟨(some 92), (.fld 7), [.t 3], (some (87, true))⟩,
  ⟨(some 93), (.load 1 false), [.t 92], (some (87, true))⟩,
  ⟨(some 94), .mv, [.t 8], (some (87, true))⟩,
  ⟨(some 95), (.slc 2 false true false), [.t 93, .t 94], (some (87, true))⟩,
  ⟨(some 96), (.call 37), [.t 91, .t 95], (some (87, true))⟩,
  ⟨(some 97), .pick, [.t 87, .t 96, .c (.bool false)], none⟩,
  ⟨(some 4), .mv, [.t 97], none⟩] [0, 0, 2, 4, 9, 16, 32, 32, 160, 288, 608, 1056, 2080, 4096, 12288, 4096, 53248, 4096, 135168, 4096, 790528, 1118208, 2101248, 8388607])
 .ret))))))
theorem comp87 : compC Go.Proofs.Try.prog ttL 98 [] (match Go.Proofs.Try.f87.body with | some b => b | none => .skip) = some (c87) := by kernel_rfl
end Go.AM
set_option maxRecDepth 100000
set_option maxHeartbeats 40000000
set_option linter.unusedSimpArgs false
namespace Go.AM
open Go.Proofs
attribute [local congr] vc_congr evOps_congr evTab_congr bind_congr condK_congr tabK_congr
/-- what two nodes have in common -/
def agrOk (a b : Node) : Prop := Agr (nLog a) (nLog b) ∧ (smallL (nLog a) ∧ smallL (nLog b)) ∧ (0 ≤ nCommit a ∧ 0 ≤ nCommit b) ∧ (nCommit a ≤ (nLog a).length ∧ nCommit b ≤ (nLog b).length) ∧ (nLog a).take (min (nCommit a) (nCommit b)).toNat = (nLog b).take (min (nCommit a) (nCommit b)).toNat
def fn87 : Fn := { a := .pair tNode (.pair tNode .unit), r := .pair .bool .unit, pre := fun x => agrOk x.1 x.2.1, f := fun _ => (true, ()) }
theorem agr_at {f n : List E} (h : Agr f n) {j i : Nat} (h1 : j < f.length) (h2 : j < n.length) (he : eTerm (f.getD j (dflt tEntry)) = eTerm (n.getD j (dflt tEntry))) (hi : i ≤ j) : f.getD i (dflt tEntry) = n.getD i (dflt tEntry) := by
  have e1 : f.getD j (dflt tEntry) = f[j] := by rw [List.getD_eq_getElem?_getD, List.getElem?_eq_getElem h1]; rfl
  have e2 : n.getD j (dflt tEntry) = n[j] := by rw [List.getD_eq_getElem?_getD, List.getElem?_eq_getElem h2]; rfl
  rw [e1, e2] at he
  have := h j h1 h2 he
  rw [List.getD_eq_getElem?_getD, List.getD_eq_getElem?_getD]
  have h3 : (f.take (j + 1))[i]? = (n.take (j + 1))[i]? := by rw [this]
  rw [List.getElem?_take_of_lt (by omega), List.getElem?_take_of_lt (by omega)] at h3
  rw [h3]
theorem h87  : Holds Try.prog 87 (fn87) := by
  refine Holds.of_vc (T := [(37, fn37)]) (TT := ttL) (rowAt := []) (c := c87) (ros := [.t 4]) (.cons _ h37 (.nil _)) mixed Try.func87 (by decide +kernel) (by rfl) comp87 (by kernel_rfl) rfl rfl (fun h => by cases h) ?_
  rintro ⟨(a : Node), (b : Node), _⟩ hpre
  simp only [fn87] at hpre ⊢
  simp only [c87, fn37, go_sem, reduceIte, Nat.reduceBEq, Nat.reduceMul, reduceCtorEq, Nat.reduceAdd, Nat.reduceEqDiff, decide_eq_true_eq, decide_eq_false_iff_not, Bool.not_eq_true', Bool.not_eq_false', Bool.and_eq_true, Bool.or_eq_true, Bool.and_eq_false_iff, Bool.or_eq_false_iff, Bool.cond_true_left, Bool.cond_false_right, Bool.cond_true_right, Bool.cond_false_left, Bool.or_false, Bool.and_true, inR, fn37]
  obtain ⟨hA, ⟨hs1, hs2⟩, ⟨c1, c2⟩, ⟨d1, d2⟩, hT⟩ := hpre
  refine loop_rule (β := Nat × Int) (fun p => ⟨[(2, .ptr 2 0), (3, .ptr 3 0), (5, .int .i64 p.2), (6, .int .i64 p.1)], [(2, .box (cellsA tNode a [])), (3, .box (cellsA tNode b []))]⟩)
    (fun p => p.1 ≤ (nLog a).length ∧ p.1 ≤ (nLog b).length ∧ (p.2 = -1 ∨ (0 ≤ p.2 ∧ p.2 < p.1 ∧ eTerm ((nLog a).getD p.2.toNat (dflt tEntry)) = eTerm ((nLog b).getD p.2.toNat (dflt tEntry))))) (fun p => (nLog a).length - p.1) (0, -1) ?_ ?_ ?_
  · refine Ent_of [(2, 2), (3, 3)] rfl ?_ ?_
    · simp only [go_sem, reduceIte, Nat.reduceBEq, Nat.reduceMul, reduceCtorEq, Nat.reduceAdd, Nat.reduceEqDiff, decide_eq_true_eq, decide_eq_false_iff_not, Bool.not_eq_true', Bool.not_eq_false', Bool.and_eq_true, Bool.or_eq_true, Bool.and_eq_false_iff, Bool.or_eq_false_iff, Bool.cond_true_left, Bool.cond_false_right, Bool.cond_true_right, Bool.cond_false_left, Bool.or_false, Bool.and_true]
    · simp only [go_sem, reduceIte, Nat.reduceBEq, Nat.reduceMul, reduceCtorEq, Nat.reduceAdd, Nat.reduceEqDiff, decide_eq_true_eq, decide_eq_false_iff_not, Bool.not_eq_true', Bool.not_eq_false', Bool.and_eq_true, Bool.or_eq_true, Bool.and_eq_false_iff, Bool.or_eq_false_iff, Bool.cond_true_left, Bool.cond_false_right, Bool.cond_true_right, Bool.cond_false_left, Bool.or_false, Bool.and_true]
      rfl
  · exact ⟨Nat.zero_le _, Nat.zero_le _, .inl rfl⟩
  rintro ⟨i, l⟩ ⟨hi1, hi2, hl⟩
  have hi1 : i ≤ (nLog a).length := hi1
  have hi2 : i ≤ (nLog b).length := hi2
  have hl : l = -1 ∨ (0 ≤ l ∧ l < (i : Int) ∧ eTerm ((nLog a).getD l.toNat (dflt tEntry)) = eTerm ((nLog b).getD l.toNat (dflt tEntry))) := hl
  simp (maxSteps := 10000000) only [go_sem, reduceIte, Nat.reduceBEq, Nat.reduceMul, reduceCtorEq, Nat.reduceAdd, Nat.reduceEqDiff, decide_eq_true_eq, decide_eq_false_iff_not, Bool.not_eq_true', Bool.not_eq_false', Bool.and_eq_true, Bool.or_eq_true, Bool.and_eq_false_iff, Bool.or_eq_false_iff, Bool.cond_true_left, Bool.cond_false_right, Bool.cond_true_right, Bool.cond_false_left, Bool.or_false, Bool.and_true, inR]
  have sa : (nLog a).length ≤ 1048576 := hs1
  have sb : (nLog b).length ≤ 1048576 := hs2
  refine ⟨fun h => ?_, fun h => ?_⟩
  · have h1 : (i : Int) < ((nLog a).length : Int) := h.1
    have h2 : (i : Int) < ((nLog b).length : Int) := h.2
    refine ⟨⟨by omega, h1⟩, ⟨by omega, h2⟩, by decide +kernel, fun he => ⟨by omega, Again.intro (i + 1, (i : Int)) (Ent_of [(2, 2), (3, 3)] rfl ?_ ?_) ⟨by show i + 1 ≤ _; omega, by show i + 1 ≤ _; omega, .inr ⟨by show (0 : Int) ≤ i; omega, by show (i : Int) < ((i + 1 : Nat) : Int); omega, he⟩⟩ (show (nLog a).length - (i + 1) < (nLog a).length - i by omega)⟩, fun he => ⟨by omega, Again.intro (i + 1, l) (Ent_of [(2, 2), (3, 3)] rfl ?_ ?_) ⟨by show i + 1 ≤ _; omega, by show i + 1 ≤ _; omega, ?_⟩ (show (nLog a).length - (i + 1) < (nLog a).length - i by omega)⟩⟩
    · simp only [go_sem, reduceIte, Nat.reduceBEq, Nat.reduceMul, reduceCtorEq, Nat.reduceAdd, Nat.reduceEqDiff, decide_eq_true_eq, decide_eq_false_iff_not, Bool.not_eq_true', Bool.not_eq_false', Bool.and_eq_true, Bool.or_eq_true, Bool.and_eq_false_iff, Bool.or_eq_false_iff, Bool.cond_true_left, Bool.cond_false_right, Bool.cond_true_right, Bool.cond_false_left, Bool.or_false, Bool.and_true]
    · simp only [go_sem, reduceIte, Nat.reduceBEq, Nat.reduceMul, reduceCtorEq, Nat.reduceAdd, Nat.reduceEqDiff, decide_eq_true_eq, decide_eq_false_iff_not, Bool.not_eq_true', Bool.not_eq_false', Bool.and_eq_true, Bool.or_eq_true, Bool.and_eq_false_iff, Bool.or_eq_false_iff, Bool.cond_true_left, Bool.cond_false_right, Bool.cond_true_right, Bool.cond_false_left, Bool.or_false, Bool.and_true]
      rfl
    · simp only [go_sem, reduceIte, Nat.reduceBEq, Nat.reduceMul, reduceCtorEq, Nat.reduceAdd, Nat.reduceEqDiff, decide_eq_true_eq, decide_eq_false_iff_not, Bool.not_eq_true', Bool.not_eq_false', Bool.and_eq_true, Bool.or_eq_true, Bool.and_eq_false_iff, Bool.or_eq_false_iff, Bool.cond_true_left, Bool.cond_false_right, Bool.cond_true_right, Bool.cond_false_left, Bool.or_false, Bool.and_true]
    · simp only [go_sem, reduceIte, Nat.reduceBEq, Nat.reduceMul, reduceCtorEq, Nat.reduceAdd, Nat.reduceEqDiff, decide_eq_true_eq, decide_eq_false_iff_not, Bool.not_eq_true', Bool.not_eq_false', Bool.and_eq_true, Bool.or_eq_true, Bool.and_eq_false_iff, Bool.or_eq_false_iff, Bool.cond_true_left, Bool.cond_false_right, Bool.cond_true_right, Bool.cond_false_left, Bool.or_false, Bool.and_true]
      rfl
    · rcases hl with hl | ⟨x, y, z⟩
      · exact .inl hl
      · exact .inr ⟨x, by show l < ((i + 1 : Nat) : Int); omega, z⟩
  · clear h
    have hsame : ∀ j : Nat, (j : Int) ≤ l → j < (nLog a).length ∧ j < (nLog b).length ∧ (nLog a).getD j (dflt tEntry) = (nLog b).getD j (dflt tEntry) := by
      intro j hj
      rcases hl with hl | ⟨x, y, z⟩
      · omega
      · exact ⟨by omega, by omega, agr_at hA (j := l.toNat) (by omega) (by omega) z (by omega)⟩
    have hlb : -1 ≤ l ∧ l ≤ 1048576 := by omega
    clear hl hi1 hi2
    refine loop_rule (β := Nat) (fun j => ⟨[(2, .ptr 2 0), (3, .ptr 3 0), (5, .int .i64 l), (7, .int .i64 j)], [(2, .box (cellsA tNode a [])), (3, .box (cellsA tNode b []))]⟩)
      (fun j => (j : Int) ≤ l + 1) (fun j => (l + 1 - j).toNat) 0 ?_ ?_ ?_
    · refine Ent_of [(2, 2), (3, 3)] rfl ?_ ?_
      · simp only [go_sem, reduceIte, Nat.reduceBEq, Nat.reduceMul, reduceCtorEq, Nat.reduceAdd, Nat.reduceEqDiff, decide_eq_true_eq, decide_eq_false_iff_not, Bool.not_eq_true', Bool.not_eq_false', Bool.and_eq_true, Bool.or_eq_true, Bool.and_eq_false_iff, Bool.or_eq_false_iff, Bool.cond_true_left, Bool.cond_false_right, Bool.cond_true_right, Bool.cond_false_left, Bool.or_false, Bool.and_true]
      · simp only [go_sem, reduceIte, Nat.reduceBEq, Nat.reduceMul, reduceCtorEq, Nat.reduceAdd, Nat.reduceEqDiff, decide_eq_true_eq, decide_eq_false_iff_not, Bool.not_eq_true', Bool.not_eq_false', Bool.and_eq_true, Bool.or_eq_true, Bool.and_eq_false_iff, Bool.or_eq_false_iff, Bool.cond_true_left, Bool.cond_false_right, Bool.cond_true_right, Bool.cond_false_left, Bool.or_false, Bool.and_true]
        rfl
    · show (0 : Int) ≤ l + 1
      omega
    intro j hj
    have hj : (j : Int) ≤ l + 1 := hj
    simp (maxSteps := 10000000) only [go_sem, reduceIte, Nat.reduceBEq, Nat.reduceMul, reduceCtorEq, Nat.reduceAdd, Nat.reduceEqDiff, decide_eq_true_eq, decide_eq_false_iff_not, Bool.not_eq_true', Bool.not_eq_false', Bool.and_eq_true, Bool.or_eq_true, Bool.and_eq_false_iff, Bool.or_eq_false_iff, Bool.cond_true_left, Bool.cond_false_right, Bool.cond_true_right, Bool.cond_false_left, Bool.or_false, Bool.and_true, inR]
    refine ⟨fun h => ?_, fun h => ?_⟩
    · obtain ⟨h1, h2, h3⟩ := hsame j h
      have h3 : (a.2.2.2.2.2.2.2.1).getD j (dflt tEntry) = (b.2.2.2.2.2.2.2.1).getD j (dflt tEntry) := h3
      simp only [h3, decide_true, Bool.not_true, Bool.not_false, beq_self_eq_true, Bool.false_or]
      have h1 : (0 : Int) ≤ j ∧ (j : Int) < ((nLog a).length : Int) := by omega
      have h2 : (0 : Int) ≤ j ∧ (j : Int) < ((nLog b).length : Int) := by omega
      refine ⟨h1, h2, fun _ => h1, fun _ => h2, by decide +kernel, fun h => ?_, fun _ => ⟨by omega, Again.intro (j + 1) (Ent_of [(2, 2), (3, 3)] rfl ?_ ?_) (by show ((j + 1 : Nat) : Int) ≤ l + 1; omega) (show (l + 1 - ((j + 1 : Nat) : Int)).toNat < (l + 1 - (j : Int)).toNat by omega)⟩⟩
      · rcases h with h | h
        · exact h trivial
        · cases h
      · simp only [go_sem, reduceIte, Nat.reduceBEq, Nat.reduceMul, reduceCtorEq, Nat.reduceAdd, Nat.reduceEqDiff, decide_eq_true_eq, decide_eq_false_iff_not, Bool.not_eq_true', Bool.not_eq_false', Bool.and_eq_true, Bool.or_eq_true, Bool.and_eq_false_iff, Bool.or_eq_false_iff, Bool.cond_true_left, Bool.cond_false_right, Bool.cond_true_right, Bool.cond_false_left, Bool.or_false, Bool.and_true]
      · simp only [go_sem, reduceIte, Nat.reduceBEq, Nat.reduceMul, reduceCtorEq, Nat.reduceAdd, Nat.reduceEqDiff, decide_eq_true_eq, decide_eq_false_iff_not, Bool.not_eq_true', Bool.not_eq_false', Bool.and_eq_true, Bool.or_eq_true, Bool.and_eq_false_iff, Bool.or_eq_false_iff, Bool.cond_true_left, Bool.cond_false_right, Bool.cond_true_right, Bool.cond_false_left, Bool.or_false, Bool.and_true]
        rfl
    · have hc1 : min (nCommit a) (nCommit b) ≤ ((nLog a).length : Int) := by omega
      have hc2 : min (nCommit a) (nCommit b) ≤ ((nLog b).length : Int) := by omega
      have hc0 : 0 ≤ min (nCommit a) (nCommit b) := by omega
      refine ⟨fun _ => ⟨Int.le_refl _, hc0, hc1, Int.le_refl _⟩, fun _ => ⟨Int.le_refl _, hc0, hc2, Int.le_refl _⟩, fun _ => ?_, by decide +kernel, ⟨hc1, hc2⟩, ?_⟩
      · show ((nLog a).take (min (nCommit a) (nCommit b)).toNat).length ≤ 1048576
        rw [List.length_take]; omega
      · show eqB ((nLog a).take (min (nCommit a) (nCommit b)).toNat) ((nLog b).take (min (nCommit a) (nCommit b)).toNat) = true
        rw [hT]; exact eqB_self _
end Go.AM
