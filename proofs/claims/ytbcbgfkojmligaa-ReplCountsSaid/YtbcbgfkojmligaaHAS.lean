import Derived.Test.YtbcbgfkojmligaaHAR
import Derived.KernelRfl
import Derived.Test.YtbcbgfkojmligaaProg
/- What functions of the program answer, each under the conditions that its contract names. -/
set_option linter.unusedVariables false
set_option linter.unusedSimpArgs false
set_option maxRecDepth 100000
namespace Go.AM
def c11_119 : C := (.seq (.reg [⟨(some 119), (.load 15 true), [.t 7], none⟩,
  ⟨(some 120), (.call 56), [.t 119], none⟩,
  ⟨(some 16), (.alloc [.int .i64 0, .int .i64 0, .int .i64 0, .int .i64 0, .int .i64 0, .int .i64 0, .str ⟨#[]⟩, .sl tEntry [] true, .int .i64 0, .int .i64 0, .int .i64 0, .sl .bool [] true, .sl tI [] true, .sl tI [] true, .int .i64 0]), [], none⟩,
  ⟨none, (.store 15), [.t 16, .t 120], none⟩])
 (.seq (.reg [⟨(some 121), (.fld 8), [.t 7], none⟩,
  ⟨none, (.store 1), [.t 121, .c (.int .i64 0)], none⟩])
 (.seq (.regd [⟨(some 122), (.fld 10), [.t 16], none⟩,
  ⟨(some 123), (.load 1 false), [.t 122], none⟩,
  ⟨(some 124), .mv, [.t 12], none⟩,
  ⟨(some 125), (.bin .eql), [.t 123, .t 124], none⟩,
  ⟨(some 126), .mv, [.t 125], none⟩,
  ⟨(some 127), (.load 15 true), [.t 7], (some (126, true))⟩,
  ⟨(some 128), (.call 56), [.t 127], (some (126, true))⟩,
  ⟨(some 129), (.field 10 1 false), [.t 128], (some (126, true))⟩,
  ⟨(some 130), (.fld 10), [.t 7], (some (126, true))⟩,
  ⟨(some 131), (.load 1 false), [.t 130], (some (126, true))⟩,
  ⟨(some 132), (.bin .eql), [.t 129, .t 131], (some (126, true))⟩,
  ⟨(some 133), .pick, [.t 126, .t 132, .c (.bool false)], none⟩,
  ⟨(some 134), .mv, [.t 133], none⟩,
  ⟨(some 135), (.call 57), [], (some (134, true))⟩,
  ⟨(some 136), .pick, [.t 134, .t 135, .c (.bool false)], none⟩,
  ⟨(some 6), .mv, [.t 136], none⟩] [0, 1, 0, 6, 8, 16, 48, 80, 16, 272, 656, 1040, 2112, 4096, 12288, 32767])
 .ret)))
def c11_83 : C := (.seq (.reg [⟨(some 83), (.fld 10), [.t 7], none⟩,
  ⟨(some 84), (.load 1 false), [.t 83], none⟩,
  ⟨(some 12), .mv, [.t 84], none⟩])
 (.seq (.seq (.reg [⟨(some 85), (.fld 10), [.t 7], none⟩,
  ⟨(some 86), (.load 1 false), [.t 85], none⟩,
  ⟨(some 87), (.bin .add), [.t 86, .c (.int .i64 1)], none⟩,
  ⟨(some 13), .mv, [.t 87], none⟩])
 (.block 4 (.loop (.seq (.seq (.reg [⟨(some 88), .mv, [.t 13], none⟩,
  ⟨(some 89), .mv, [.t 10], none⟩,
  ⟨(some 90), (.bin .leq), [.t 88, .t 89], none⟩])
 (.cond (.t 90) .skip (.exit 4)))
 (.seq (.block 5 (.seq (.reg [⟨(some 14), .mv, [.c (.int .i64 0)], none⟩])
 (.seq (.seq (.reg [⟨(some 15), .mv, [.c (.int .i64 0)], none⟩])
 (.block 6 (.loop (.seq (.seq (.reg [⟨(some 93), .mv, [.t 15], none⟩,
  ⟨(some 94), (.bin .lss), [.t 93, .c (.int .i64 5)], none⟩])
 (.cond (.t 94) .skip (.exit 6)))
 (.seq (.block 7 (.seq (.reg [⟨(some 97), (.fld 13), [.t 7], none⟩,
  ⟨(some 98), (.load 1 false), [.t 97], none⟩,
  ⟨(some 99), .mv, [.t 15], none⟩,
  ⟨(some 100), (.idx 1), [.t 98, .t 99], none⟩,
  ⟨(some 101), (.load 1 false), [.t 100], none⟩,
  ⟨(some 102), .mv, [.t 13], none⟩,
  ⟨(some 103), (.bin .geq), [.t 101, .t 102], none⟩])
 (.cond (.t 103) (.reg [⟨(some 104), .mv, [.t 14], none⟩,
  ⟨(some 105), (.bin .add), [.t 104, .c (.int .i64 1)], none⟩,
  ⟨(some 14), .mv, [.t 105], none⟩]) .skip)))
 (.reg [⟨(some 95), .mv, [.t 15], none⟩,
  ⟨(some 96), (.bin .add), [.t 95, .c (.int .i64 1)], none⟩,
  ⟨(some 15), .mv, [.t 96], none⟩]))))))
 (.seq (.reg [⟨(some 106), .mv, [.t 14], none⟩,
  ⟨(some 107), (.bin .geq), [.t 106, .c (.int .i64 3)], none⟩,
  ⟨(some 108), .mv, [.t 107], none⟩,
  ⟨(some 109), (.fld 7), [.t 7], (some (108, true))⟩,
  ⟨(some 110), (.load 1 false), [.t 109], (some (108, true))⟩,
  ⟨(some 111), .mv, [.t 13], (some (108, true))⟩,
  ⟨(some 112), (.bin .sub), [.t 111, .c (.int .i64 1)], (some (108, true))⟩,
  ⟨(some 113), (.idx 2), [.t 110, .t 112], (some (108, true))⟩,
  ⟨(some 114), (.fld 0), [.t 113], (some (108, true))⟩,
  ⟨(some 115), (.load 1 false), [.t 114], (some (108, true))⟩,
  ⟨(some 116), (.bin .eql), [.t 115, .c (.int .i64 9)], (some (108, true))⟩,
  ⟨(some 117), .pick, [.t 108, .t 116, .c (.bool false)], none⟩])
 (.cond (.t 117) (.reg [⟨(some 118), .mv, [.t 13], none⟩,
  ⟨(some 12), .mv, [.t 118], none⟩]) .skip)))))
 (.reg [⟨(some 91), .mv, [.t 13], none⟩,
  ⟨(some 92), (.bin .add), [.t 91, .c (.int .i64 1)], none⟩,
  ⟨(some 13), .mv, [.t 92], none⟩]))))))
 (.cut c11_119)))
def c11_11 : C := (.seq (.seq (.reg [⟨(some 11), .mv, [.c (.int .i64 0)], none⟩])
 (.block 2 (.loop (.seq (.seq (.reg [⟨(some 54), .mv, [.t 11], none⟩,
  ⟨(some 55), (.bin .lss), [.t 54, .c (.int .i64 5)], none⟩])
 (.cond (.t 55) .skip (.exit 2)))
 (.seq (.block 3 (.seq (.reg [⟨(some 58), (.fld 13), [.t 7], none⟩,
  ⟨(some 59), (.load 1 false), [.t 58], none⟩,
  ⟨(some 60), .mv, [.t 11], none⟩,
  ⟨(some 61), .mv, [.t 10], none⟩,
  ⟨(some 62), (.idx 1), [.t 59, .t 60], none⟩,
  ⟨none, (.store 1), [.t 62, .t 61], none⟩])
 (.seq (.reg [⟨(some 63), .mv, [.t 11], none⟩,
  ⟨(some 64), (.bin .gtr), [.t 63, .c (.int .i64 0)], none⟩,
  ⟨(some 65), .mv, [.t 64], none⟩,
  ⟨(some 66), .mv, [.t 11], (some (65, true))⟩,
  ⟨(some 67), .mv, [.t 1], (some (65, true))⟩,
  ⟨(some 68), .len, [.t 67], (some (65, true))⟩,
  ⟨(some 69), (.bin .leq), [.t 66, .t 68], (some (65, true))⟩,
  ⟨(some 70), .pick, [.t 65, .t 69, .c (.bool false)], none⟩])
 (.cond (.t 70) (.regd [⟨(some 71), (.fld 13), [.t 7], none⟩,
  ⟨(some 72), (.load 1 false), [.t 71], none⟩,
  ⟨(some 73), .mv, [.t 11], none⟩,
  ⟨(some 74), .mv, [.t 1], none⟩,
  ⟨(some 75), .mv, [.t 11], none⟩,
  ⟨(some 76), (.bin .sub), [.t 75, .c (.int .i64 1)], none⟩,
  ⟨(some 77), (.idx 1), [.t 74, .t 76], none⟩,
  ⟨(some 78), (.load 1 false), [.t 77], none⟩,
  ⟨(some 79), .mv, [.t 10], none⟩,
  ⟨(some 80), (.bin .add), [.t 79, .c (.int .i64 1)], none⟩,
  ⟨(some 81), (.call 23), [.t 78, .t 80], none⟩,
  ⟨(some 82), (.idx 1), [.t 72, .t 73], none⟩,
  ⟨none, (.store 1), [.t 82, .t 81], none⟩] [0, 1, 0, 0, 0, 16, 40, 64, 0, 256, 640, 2047, 4095]) .skip))))
 (.reg [⟨(some 56), .mv, [.t 11], none⟩,
  ⟨(some 57), (.bin .add), [.t 56, .c (.int .i64 1)], none⟩,
  ⟨(some 11), .mv, [.t 57], none⟩]))))))
 (.cut c11_83))
def c11_46 : C := (.seq (.reg [⟨(some 46), (.fld 7), [.t 7], none⟩,
  ⟨(some 47), (.load 1 false), [.t 46], none⟩,
  ⟨(some 48), .len, [.t 47], none⟩,
  ⟨(some 10), .mv, [.t 48], none⟩])
 (.seq (.reg [⟨(some 49), .mv, [.t 2], none⟩,
  ⟨(some 50), .mv, [.t 10], none⟩,
  ⟨(some 51), (.bin .add), [.t 50, .c (.int .i64 1)], none⟩,
  ⟨(some 52), (.call 23), [.t 49, .t 51], none⟩,
  ⟨(some 53), (.fld 10), [.t 7], none⟩,
  ⟨none, (.store 1), [.t 53, .t 52], none⟩])
 (.cut c11_11)))
def c11 : C := (.seq (.reg [⟨(some 6), .mv, [.c (.bool false)], none⟩])
 (.seq (.reg [⟨(some 17), (.call 31), [.c (.int .i64 0), .c (.int .i64 5)], none⟩,
  ⟨(some 7), (.alloc [.int .i64 0, .int .i64 0, .int .i64 0, .int .i64 0, .int .i64 0, .int .i64 0, .str ⟨#[]⟩, .sl tEntry [] true, .int .i64 0, .int .i64 0, .int .i64 0, .sl .bool [] true, .sl tI [] true, .sl tI [] true, .int .i64 0]), [], none⟩,
  ⟨none, (.store 15), [.t 7, .t 17], none⟩])
 (.seq (.reg [⟨(some 18), (.fld 8), [.t 7], none⟩,
  ⟨none, (.store 1), [.t 18, .c (.int .i64 2)], none⟩,
  ⟨(some 19), (.fld 9), [.t 7], none⟩,
  ⟨none, (.store 1), [.t 19, .c (.int .i64 0)], none⟩,
  ⟨(some 20), (.fld 2), [.t 7], none⟩,
  ⟨none, (.store 1), [.t 20, .c (.int .i64 9)], none⟩])
 (.seq (.reg [⟨(some 8), .mv, [.c (.int .i64 0)], none⟩])
 (.seq (.seq (.reg [⟨(some 9), .mv, [.c (.int .i64 0)], none⟩])
 (.block 0 (.loop (.seq (.seq (.reg [⟨(some 21), .mv, [.t 9], none⟩,
  ⟨(some 22), .mv, [.t 0], none⟩,
  ⟨(some 23), .len, [.t 22], none⟩,
  ⟨(some 24), (.bin .lss), [.t 21, .t 23], none⟩,
  ⟨(some 25), .mv, [.t 24], none⟩,
  ⟨(some 26), .mv, [.t 9], (some (25, true))⟩,
  ⟨(some 27), (.bin .lss), [.t 26, .c (.int .i64 30)], (some (25, true))⟩,
  ⟨(some 28), .pick, [.t 25, .t 27, .c (.bool false)], none⟩])
 (.cond (.t 28) .skip (.exit 0)))
 (.seq (.block 1 (.seq (.reg [⟨(some 31), .mv, [.t 8], none⟩,
  ⟨(some 32), .mv, [.t 0], none⟩,
  ⟨(some 33), .mv, [.t 9], none⟩,
  ⟨(some 34), (.idx 1), [.t 32, .t 33], none⟩,
  ⟨(some 35), (.load 1 false), [.t 34], none⟩,
  ⟨(some 36), (.call 23), [.t 35, .c (.int .i64 3)], none⟩,
  ⟨(some 37), (.bin .add), [.t 31, .t 36], none⟩,
  ⟨(some 38), .mn, [.t 37, .c (.int .i64 9)], none⟩,
  ⟨(some 8), .mv, [.t 38], none⟩])
 (.reg [⟨(some 39), (.fld 7), [.t 7], none⟩,
  ⟨(some 40), (.load 1 false), [.t 39], none⟩,
  ⟨(some 41), .mv, [.t 8], none⟩,
  ⟨(some 42), (.build [.int .i64 0, .str ⟨#[]⟩] [(0, 1)]), [.t 41], none⟩,
  ⟨(some 43), (.bslice tEntry 1), [.t 42], none⟩,
  ⟨(some 44), (.app 2 24), [.t 40, .t 43], none⟩,
  ⟨(some 45), (.fld 7), [.t 7], none⟩,
  ⟨none, (.store 1), [.t 45, .t 44], none⟩])))
 (.reg [⟨(some 29), .mv, [.t 9], none⟩,
  ⟨(some 30), (.bin .add), [.t 29, .c (.int .i64 1)], none⟩,
  ⟨(some 9), .mv, [.t 30], none⟩]))))))
 (.cut c11_46))))))
theorem comp11 : compC Go.Proofs.Try.prog ttL 137 [] (match Go.Proofs.Try.f11.body with | some b => b | none => .skip) = some (erase c11) := by kernel_rfl
end Go.AM
set_option maxRecDepth 100000
set_option maxHeartbeats 40000000
set_option linter.unusedSimpArgs false
namespace Go.AM
open Go.Proofs
attribute [local congr] vc_congr evOps_congr evTab_congr bind_congr condK_congr tabK_congr
def cT (ts : List Int) : Nat → Int
  | 0 => 0
  | i + 1 => min (cT ts i + ts.getD i 0 % 3) 9
def cL (ts : List Int) (i : Nat) : List E := (List.range i).map fun j => mkE (cT ts (j + 1)) noB
theorem cL_len (ts : List Int) (i : Nat) : (cL ts i).length = i := by unfold cL; rw [List.length_map, List.length_range]
theorem cL_succ (ts : List Int) (i : Nat) : cL ts (i + 1) = cL ts i ++ [mkE (cT ts (i + 1)) noB] := by unfold cL; rw [List.range_succ, List.map_append]; rfl
theorem cT_bd (ts : List Int) (i : Nat) : 0 ≤ cT ts i ∧ cT ts i ≤ 9 := by
  induction i with
  | zero => unfold cT; decide
  | succ i ih =>
    unfold cT
    have := Int.emod_nonneg (ts.getD i 0) (show (3 : Int) ≠ 0 by decide)
    omega
def cM (ml : List Int) (k : Int) (i : Nat) : Int := if 0 < i ∧ i ≤ ml.length then ml.getD (i - 1) 0 % (k + 1) else k
def cMs (ml : List Int) (k : Int) (i : Nat) : List Int := (List.range i).map (cM ml k) ++ List.replicate (5 - i) 0
theorem cMs_set (ml : List Int) (k : Int) {j : Nat} (hj : j < 5) : (cMs ml k j).set j (cM ml k j) = cMs ml k (j + 1) := by
  unfold cMs
  have e : ((List.range j).map (cM ml k)).length = j := by rw [List.length_map, List.length_range]
  rw [List.set_append_right _ _ (by omega), e, Nat.sub_self, List.range_succ, List.map_append, List.append_assoc, show 5 - j = (5 - (j + 1)) + 1 by omega, List.replicate_succ, List.set_cons_zero]
  rfl
theorem cMs_len (ml : List Int) (k : Int) {j : Nat} (hj : j ≤ 5) : (cMs ml k j).length = 5 := by
  unfold cMs
  rw [List.length_append, List.length_map, List.length_range, List.length_replicate]
  omega
def cN (ts ml : List Int) (k : Nat) (c r : Int) : Node := mkN (nId (newN 0 5)) (nNodes (newN 0 5)) 9 (nVote (newN 0 5)) (nBase (newN 0 5)) (nBT (newN 0 5)) (nSnap (newN 0 5)) (cL ts k) r 0 c (nVotes (newN 0 5)) (nNext (newN 0 5)) (cMs ml k 5) (nClock (newN 0 5))
theorem cN_ok {ts ml : List Int} {k : Nat} {c p : Int} (h1 : 1 ≤ p) (h2 : p ≤ k) : advOk (cN ts ml k c 2) p ↔ (3 ≤ cntGe (cMs ml k 5) p 5 ∧ ((cL ts k).getD (p - 1).toNat (dflt tEntry)).1 = 9) := by
  have hl : last (cN ts ml k c 2) = k := by
    show (0 : Int) + ((cL ts k).length : Int) = k
    rw [cL_len]; omega
  have ht : termV (cN ts ml k c 2) p = ((cL ts k).getD (p - 1).toNat (dflt tEntry)).1 := by
    unfold termV
    have hb : nBase (cN ts ml k c 2) = 0 := rfl
    rw [hb, hl, if_neg (by omega), if_pos ⟨by omega, h2⟩, show (p - 0 - 1).toNat = (p - 1).toNat by omega]
    rfl
  have hm : (nMatch (cN ts ml k c 2)).length = 5 := cMs_len ml k (Nat.le_refl _)
  have hq : most (cN ts ml k c 2) = 3 := rfl
  unfold advOk
  rw [ht, hq, hm]
  have e : nMatch (cN ts ml k c 2) = cMs ml k 5 := rfl
  rw [e]
  constructor
  · rintro ⟨g1, g2⟩
    exact ⟨by omega, g1⟩
  · rintro ⟨g1, g2⟩
    exact ⟨g2, by omega⟩
def replCountsFn : Fn := { a := .pair (.list tI) (.pair (.list tI) (.pair tI .unit)), r := .pair .bool .unit, pre := fun _ => True, f := fun _ => (true, ()) }
theorem h11  : Holds Try.prog 11 (replCountsFn) := by
  refine Holds.of_vcc (T := [(23, fn23), (31, fn31M), (56, fn56), (57, fn57)]) (TT := ttL) (rowAt := []) (c := c11) (ros := [.t 6]) (.cons _ h23 (.cons _ h31M (.cons _ h56 (.cons _ h57 (.nil _))))) mixed Try.func11 (by decide +kernel) (by rfl) comp11 (by kernel_rfl) rfl rfl (fun h => by cases h) ?_
  rintro ⟨(ts : List Int), (ml : List Int), (cm : Int), _⟩ hpre
  simp only [replCountsFn] at hpre ⊢
  simp only [c11, fn23, fn31M, fn56, fn57, go_sem, reduceIte, Nat.reduceBEq, Nat.reduceMul, reduceCtorEq, Nat.reduceAdd, Nat.reduceEqDiff, decide_eq_true_eq, decide_eq_false_iff_not, Bool.not_eq_true', Bool.not_eq_false', Bool.and_eq_true, Bool.or_eq_true, Bool.and_eq_false_iff, Bool.or_eq_false_iff, Bool.cond_true_left, Bool.cond_false_right, Bool.cond_true_right, Bool.cond_false_left, Bool.or_false, Bool.and_true, inR, fn23, p19, d01, d02]
  refine loop_rule (β := Nat) (fun i => ⟨[(0, .sl tI ts false), (1, .sl tI ml false), (2, .int .i64 cm), (7, .ptr 7 0), (8, .int .i64 (cT ts i)), (9, .int .i64 i)],
    [(7, .box [.int .i64 (nId (newN 0 5)), .int .i64 (nNodes (newN 0 5)), .int .i64 9, .int .i64 (nVote (newN 0 5)), .int .i64 (nBase (newN 0 5)), .int .i64 (nBT (newN 0 5)), .str (nSnap (newN 0 5)), .own 44 0 i, .int .i64 2, .int .i64 0, .int .i64 (nCommit (newN 0 5)), .sl .bool (nVotes (newN 0 5)) false, .sl tI (nNext (newN 0 5)) false, .own 11700 0 5, .int .i64 (nClock (newN 0 5))]), (44, .row tEntry (cL ts i) false), (11700, .row tI (List.replicate 5 (0 : Int)) false)]⟩) (fun i => i ≤ ts.length ∧ i ≤ 30) (fun i => 30 - i) 0 ?_ ?_ ?_
  · refine Ent_of [(7, 7), (11700, 11700)] rfl ?_ ?_
    · simp only [go_sem, reduceIte, Nat.reduceBEq, Nat.reduceMul, reduceCtorEq, Nat.reduceAdd, Nat.reduceEqDiff, decide_eq_true_eq, decide_eq_false_iff_not, Bool.not_eq_true', Bool.not_eq_false', Bool.and_eq_true, Bool.or_eq_true, Bool.and_eq_false_iff, Bool.or_eq_false_iff, Bool.cond_true_left, Bool.cond_false_right, Bool.cond_true_right, Bool.cond_false_left, Bool.or_false, Bool.and_true]
      exact ⟨⟨rfl, rfl⟩, ⟨rfl, by decide⟩, rfl⟩
    · simp only [go_sem, reduceIte, Nat.reduceBEq, Nat.reduceMul, reduceCtorEq, Nat.reduceAdd, Nat.reduceEqDiff, decide_eq_true_eq, decide_eq_false_iff_not, Bool.not_eq_true', Bool.not_eq_false', Bool.and_eq_true, Bool.or_eq_true, Bool.and_eq_false_iff, Bool.or_eq_false_iff, Bool.cond_true_left, Bool.cond_false_right, Bool.cond_true_right, Bool.cond_false_left, Bool.or_false, Bool.and_true]
      exact ⟨rfl, rfl⟩
  · exact ⟨Nat.zero_le _, Nat.zero_le _⟩
  rintro i ⟨hi, hi30⟩
  have hbd := cT_bd ts i
  have hm0 := Int.emod_nonneg (ts.getD i 0) (show (3 : Int) ≠ 0 by decide)
  have hm1 := Int.emod_lt_of_pos (ts.getD i 0) (show (0 : Int) < 3 by decide)
  have hdf : ts.getD i (dflt tI) = ts.getD i 0 := rfl
  simp (maxSteps := 10000000) only [go_sem, reduceIte, Nat.reduceBEq, Nat.reduceMul, reduceCtorEq, Nat.reduceAdd, Nat.reduceEqDiff, decide_eq_true_eq, decide_eq_false_iff_not, Bool.not_eq_true', Bool.not_eq_false', Bool.and_eq_true, Bool.or_eq_true, Bool.and_eq_false_iff, Bool.or_eq_false_iff, Bool.cond_true_left, Bool.cond_false_right, Bool.cond_true_right, Bool.cond_false_left, Bool.or_false, Bool.and_true, inR]
  simp only [hdf]
  generalize hV : vc _ (C.cut c11_46) _ = V
  refine ⟨fun h => ⟨by omega, by decide, by omega, ⟨by omega, by omega⟩, by omega, Again.intro (i + 1) (Ent_of [(7, 7), (44, 44), (11700, 11700)] rfl ?_ ?_) (show i + 1 ≤ ts.length ∧ i + 1 ≤ 30 from ⟨by omega, by omega⟩) (show 30 - (i + 1) < 30 - i by omega)⟩, fun h => ?_⟩
  · simp only [go_sem, reduceIte, Nat.reduceBEq, Nat.reduceMul, reduceCtorEq, Nat.reduceAdd, Nat.reduceEqDiff, decide_eq_true_eq, decide_eq_false_iff_not, Bool.not_eq_true', Bool.not_eq_false', Bool.and_eq_true, Bool.or_eq_true, Bool.and_eq_false_iff, Bool.or_eq_false_iff, Bool.cond_true_left, Bool.cond_false_right, Bool.cond_true_right, Bool.cond_false_left, Bool.or_false, Bool.and_true]
    rw [cL_succ, List.take_of_length_le (by rw [cL_len]; exact Nat.le_refl _)]
    rfl
  · simp only [go_sem, reduceIte, Nat.reduceBEq, Nat.reduceMul, reduceCtorEq, Nat.reduceAdd, Nat.reduceEqDiff, decide_eq_true_eq, decide_eq_false_iff_not, Bool.not_eq_true', Bool.not_eq_false', Bool.and_eq_true, Bool.or_eq_true, Bool.and_eq_false_iff, Bool.or_eq_false_iff, Bool.cond_true_left, Bool.cond_false_right, Bool.cond_true_right, Bool.cond_false_left, Bool.or_false, Bool.and_true]
    exact ⟨rfl, rfl⟩
  have hc0 := Int.emod_nonneg cm (show (i : Int) + 1 ≠ 0 by omega)
  have hc1 := Int.emod_lt_of_pos cm (show (0 : Int) < (i : Int) + 1 by omega)
  refine cut_at hV ⟨[(1, .sl tI ml false), (2, .int .i64 cm), (7, .ptr 7 0)], [(7, .box [.int .i64 (nId (newN 0 5)), .int .i64 (nNodes (newN 0 5)), .int .i64 9, .int .i64 (nVote (newN 0 5)), .int .i64 (nBase (newN 0 5)), .int .i64 (nBT (newN 0 5)), .str (nSnap (newN 0 5)), .own 44 0 i, .int .i64 2, .int .i64 0, .int .i64 (nCommit (newN 0 5)), .sl .bool (nVotes (newN 0 5)) false, .sl tI (nNext (newN 0 5)) false, .own 11700 0 5, .int .i64 (nClock (newN 0 5))]), (44, .row tEntry (cL ts i) false), (11700, .row tI (List.replicate 5 (0 : Int)) false)]⟩ ?_ (Ent_of [(7, 7), (44, 44), (11700, 11700)] rfl ?_ ?_)
  rotate_left
  · simp only [go_sem, reduceIte, Nat.reduceBEq, Nat.reduceMul, reduceCtorEq, Nat.reduceAdd, Nat.reduceEqDiff, decide_eq_true_eq, decide_eq_false_iff_not, Bool.not_eq_true', Bool.not_eq_false', Bool.and_eq_true, Bool.or_eq_true, Bool.and_eq_false_iff, Bool.or_eq_false_iff, Bool.cond_true_left, Bool.cond_false_right, Bool.cond_true_right, Bool.cond_false_left, Bool.or_false, Bool.and_true]
  · simp only [go_sem, reduceIte, Nat.reduceBEq, Nat.reduceMul, reduceCtorEq, Nat.reduceAdd, Nat.reduceEqDiff, decide_eq_true_eq, decide_eq_false_iff_not, Bool.not_eq_true', Bool.not_eq_false', Bool.and_eq_true, Bool.or_eq_true, Bool.and_eq_false_iff, Bool.or_eq_false_iff, Bool.cond_true_left, Bool.cond_false_right, Bool.cond_true_right, Bool.cond_false_left, Bool.or_false, Bool.and_true]
  clear hV V
  simp (maxSteps := 10000000) only [c11_46, go_sem, reduceIte, Nat.reduceBEq, Nat.reduceMul, reduceCtorEq, Nat.reduceAdd, Nat.reduceEqDiff, decide_eq_true_eq, decide_eq_false_iff_not, Bool.not_eq_true', Bool.not_eq_false', Bool.and_eq_true, Bool.or_eq_true, Bool.and_eq_false_iff, Bool.or_eq_false_iff, Bool.cond_true_left, Bool.cond_false_right, Bool.cond_true_right, Bool.cond_false_left, Bool.or_false, Bool.and_true, inR, fn23, p19]
  generalize hV : vc _ (C.cut c11_11) _ = V
  generalize (cm % ((i : Int) + 1) : Int) = c at *
  refine ⟨by omega, show (0 : Int) < (i : Int) + 1 ∧ (i : Int) + 1 ≤ 1099511627776 by omega, ?_⟩
  refine cut_at hV ⟨[(1, .sl tI ml false), (7, .ptr 7 0), (10, .int .i64 i)], [(7, .box [.int .i64 (nId (newN 0 5)), .int .i64 (nNodes (newN 0 5)), .int .i64 9, .int .i64 (nVote (newN 0 5)), .int .i64 (nBase (newN 0 5)), .int .i64 (nBT (newN 0 5)), .str (nSnap (newN 0 5)), .own 44 0 i, .int .i64 2, .int .i64 0, .int .i64 c, .sl .bool (nVotes (newN 0 5)) false, .sl tI (nNext (newN 0 5)) false, .own 11700 0 5, .int .i64 (nClock (newN 0 5))]), (44, .row tEntry (cL ts i) false), (11700, .row tI (List.replicate 5 (0 : Int)) false)]⟩ ?_ (Ent_of [(7, 7), (44, 44), (11700, 11700)] rfl ?_ ?_)
  rotate_left
  · simp only [go_sem, reduceIte, Nat.reduceBEq, Nat.reduceMul, reduceCtorEq, Nat.reduceAdd, Nat.reduceEqDiff, decide_eq_true_eq, decide_eq_false_iff_not, Bool.not_eq_true', Bool.not_eq_false', Bool.and_eq_true, Bool.or_eq_true, Bool.and_eq_false_iff, Bool.or_eq_false_iff, Bool.cond_true_left, Bool.cond_false_right, Bool.cond_true_right, Bool.cond_false_left, Bool.or_false, Bool.and_true]
  · simp only [go_sem, reduceIte, Nat.reduceBEq, Nat.reduceMul, reduceCtorEq, Nat.reduceAdd, Nat.reduceEqDiff, decide_eq_true_eq, decide_eq_false_iff_not, Bool.not_eq_true', Bool.not_eq_false', Bool.and_eq_true, Bool.or_eq_true, Bool.and_eq_false_iff, Bool.or_eq_false_iff, Bool.cond_true_left, Bool.cond_false_right, Bool.cond_true_right, Bool.cond_false_left, Bool.or_false, Bool.and_true]
  clear hV V
  simp (maxSteps := 10000000) only [c11_11, go_sem, reduceIte, Nat.reduceBEq, Nat.reduceMul, reduceCtorEq, Nat.reduceAdd, Nat.reduceEqDiff, decide_eq_true_eq, decide_eq_false_iff_not, Bool.not_eq_true', Bool.not_eq_false', Bool.and_eq_true, Bool.or_eq_true, Bool.and_eq_false_iff, Bool.or_eq_false_iff, Bool.cond_true_left, Bool.cond_false_right, Bool.cond_true_right, Bool.cond_false_left, Bool.or_false, Bool.and_true, inR]
  refine loop_rule (β := Nat) (fun j => ⟨[(1, .sl tI ml false), (7, .ptr 7 0), (10, .int .i64 i), (11, .int .i64 j)], [(7, .box [.int .i64 (nId (newN 0 5)), .int .i64 (nNodes (newN 0 5)), .int .i64 9, .int .i64 (nVote (newN 0 5)), .int .i64 (nBase (newN 0 5)), .int .i64 (nBT (newN 0 5)), .str (nSnap (newN 0 5)), .own 44 0 i, .int .i64 2, .int .i64 0, .int .i64 c, .sl .bool (nVotes (newN 0 5)) false, .sl tI (nNext (newN 0 5)) false, .own 11700 0 5, .int .i64 (nClock (newN 0 5))]), (44, .row tEntry (cL ts i) false), (11700, .row tI (cMs ml i j) false)]⟩) (fun j => j ≤ 5) (fun j => 5 - j) 0 ?_ ?_ ?_
  · refine Ent_of [(7, 7), (44, 44), (11700, 11700)] rfl ?_ ?_
    · simp only [go_sem, reduceIte, Nat.reduceBEq, Nat.reduceMul, reduceCtorEq, Nat.reduceAdd, Nat.reduceEqDiff, decide_eq_true_eq, decide_eq_false_iff_not, Bool.not_eq_true', Bool.not_eq_false', Bool.and_eq_true, Bool.or_eq_true, Bool.and_eq_false_iff, Bool.or_eq_false_iff, Bool.cond_true_left, Bool.cond_false_right, Bool.cond_true_right, Bool.cond_false_left, Bool.or_false, Bool.and_true]
      rfl
    · simp only [go_sem, reduceIte, Nat.reduceBEq, Nat.reduceMul, reduceCtorEq, Nat.reduceAdd, Nat.reduceEqDiff, decide_eq_true_eq, decide_eq_false_iff_not, Bool.not_eq_true', Bool.not_eq_false', Bool.and_eq_true, Bool.or_eq_true, Bool.and_eq_false_iff, Bool.or_eq_false_iff, Bool.cond_true_left, Bool.cond_false_right, Bool.cond_true_right, Bool.cond_false_left, Bool.or_false, Bool.and_true]
      rfl
  · exact Nat.zero_le _
  intro j hj
  simp (maxSteps := 10000000) only [go_sem, reduceIte, Nat.reduceBEq, Nat.reduceMul, reduceCtorEq, Nat.reduceAdd, Nat.reduceEqDiff, decide_eq_true_eq, decide_eq_false_iff_not, Bool.not_eq_true', Bool.not_eq_false', Bool.and_eq_true, Bool.or_eq_true, Bool.and_eq_false_iff, Bool.or_eq_false_iff, Bool.cond_true_left, Bool.cond_false_right, Bool.cond_true_right, Bool.cond_false_left, Bool.or_false, Bool.and_true, inR, fn23, p19]
  generalize hV : vc _ (C.cut c11_83) _ = V
  refine ⟨fun h => ?_, fun h => ?_⟩
  · have hjj : (0 : Int) ≤ (j : Int) ∧ (j : Int) < ((5 : Nat) : Int) := by omega
    refine ⟨hjj, fun hc => ?_, fun hc => ?_⟩
    · refine ⟨by omega, by omega, by omega, show (0 : Int) < (i : Int) + 1 ∧ (i : Int) + 1 ≤ 1099511627776 by omega, hjj, by decide +kernel, by omega, Again.intro (j + 1) (Ent_of [(7, 7), (44, 44), (11700, 11700)] rfl ?_ ?_) (show j + 1 ≤ 5 by omega) (show 5 - (j + 1) < 5 - j by omega)⟩
      · simp only [go_sem, reduceIte, Nat.reduceBEq, Nat.reduceMul, reduceCtorEq, Nat.reduceAdd, Nat.reduceEqDiff, decide_eq_true_eq, decide_eq_false_iff_not, Bool.not_eq_true', Bool.not_eq_false', Bool.and_eq_true, Bool.or_eq_true, Bool.and_eq_false_iff, Bool.or_eq_false_iff, Bool.cond_true_left, Bool.cond_false_right, Bool.cond_true_right, Bool.cond_false_left, Bool.or_false, Bool.and_true]
        rw [List.set_set, ← cMs_set ml i (by omega)]
        have e1 : cM ml i j = ml.getD (j - 1) 0 % ((i : Int) + 1) := if_pos (by omega)
        have e2 : ((j : Int) - 1).toNat = j - 1 := by omega
        rw [e1, e2]
        rfl
      · simp only [go_sem, reduceIte, Nat.reduceBEq, Nat.reduceMul, reduceCtorEq, Nat.reduceAdd, Nat.reduceEqDiff, decide_eq_true_eq, decide_eq_false_iff_not, Bool.not_eq_true', Bool.not_eq_false', Bool.and_eq_true, Bool.or_eq_true, Bool.and_eq_false_iff, Bool.or_eq_false_iff, Bool.cond_true_left, Bool.cond_false_right, Bool.cond_true_right, Bool.cond_false_left, Bool.or_false, Bool.and_true]
        rfl
    · refine ⟨by omega, Again.intro (j + 1) (Ent_of [(7, 7), (44, 44), (11700, 11700)] rfl ?_ ?_) (show j + 1 ≤ 5 by omega) (show 5 - (j + 1) < 5 - j by omega)⟩
      · simp only [go_sem, reduceIte, Nat.reduceBEq, Nat.reduceMul, reduceCtorEq, Nat.reduceAdd, Nat.reduceEqDiff, decide_eq_true_eq, decide_eq_false_iff_not, Bool.not_eq_true', Bool.not_eq_false', Bool.and_eq_true, Bool.or_eq_true, Bool.and_eq_false_iff, Bool.or_eq_false_iff, Bool.cond_true_left, Bool.cond_false_right, Bool.cond_true_right, Bool.cond_false_left, Bool.or_false, Bool.and_true]
        rw [← cMs_set ml i (by omega)]
        have e1 : cM ml i j = i := if_neg (by omega)
        rw [e1]
      · simp only [go_sem, reduceIte, Nat.reduceBEq, Nat.reduceMul, reduceCtorEq, Nat.reduceAdd, Nat.reduceEqDiff, decide_eq_true_eq, decide_eq_false_iff_not, Bool.not_eq_true', Bool.not_eq_false', Bool.and_eq_true, Bool.or_eq_true, Bool.and_eq_false_iff, Bool.or_eq_false_iff, Bool.cond_true_left, Bool.cond_false_right, Bool.cond_true_right, Bool.cond_false_left, Bool.or_false, Bool.and_true]
        rfl
  have hj5 : j = 5 := by omega
  subst hj5
  refine cut_at hV ⟨[(7, .ptr 7 0), (10, .int .i64 i)], [(7, .box [.int .i64 (nId (newN 0 5)), .int .i64 (nNodes (newN 0 5)), .int .i64 9, .int .i64 (nVote (newN 0 5)), .int .i64 (nBase (newN 0 5)), .int .i64 (nBT (newN 0 5)), .str (nSnap (newN 0 5)), .own 44 0 i, .int .i64 2, .int .i64 0, .int .i64 c, .sl .bool (nVotes (newN 0 5)) false, .sl tI (nNext (newN 0 5)) false, .own 11700 0 5, .int .i64 (nClock (newN 0 5))]), (44, .row tEntry (cL ts i) false), (11700, .row tI (cMs ml i 5) false)]⟩ ?_ (Ent_of [(7, 7), (44, 44), (11700, 11700)] rfl ?_ ?_)
  rotate_left
  · simp only [go_sem, reduceIte, Nat.reduceBEq, Nat.reduceMul, reduceCtorEq, Nat.reduceAdd, Nat.reduceEqDiff, decide_eq_true_eq, decide_eq_false_iff_not, Bool.not_eq_true', Bool.not_eq_false', Bool.and_eq_true, Bool.or_eq_true, Bool.and_eq_false_iff, Bool.or_eq_false_iff, Bool.cond_true_left, Bool.cond_false_right, Bool.cond_true_right, Bool.cond_false_left, Bool.or_false, Bool.and_true]
  · simp only [go_sem, reduceIte, Nat.reduceBEq, Nat.reduceMul, reduceCtorEq, Nat.reduceAdd, Nat.reduceEqDiff, decide_eq_true_eq, decide_eq_false_iff_not, Bool.not_eq_true', Bool.not_eq_false', Bool.and_eq_true, Bool.or_eq_true, Bool.and_eq_false_iff, Bool.or_eq_false_iff, Bool.cond_true_left, Bool.cond_false_right, Bool.cond_true_right, Bool.cond_false_left, Bool.or_false, Bool.and_true]
  clear hV V
  simp (maxSteps := 10000000) only [c11_83, go_sem, reduceIte, Nat.reduceBEq, Nat.reduceMul, reduceCtorEq, Nat.reduceAdd, Nat.reduceEqDiff, decide_eq_true_eq, decide_eq_false_iff_not, Bool.not_eq_true', Bool.not_eq_false', Bool.and_eq_true, Bool.or_eq_true, Bool.and_eq_false_iff, Bool.or_eq_false_iff, Bool.cond_true_left, Bool.cond_false_right, Bool.cond_true_right, Bool.cond_false_left, Bool.or_false, Bool.and_true, inR]
  refine ⟨by omega, ?_⟩
  refine loop_rule (β := Nat) (fun d => ⟨[(7, .ptr 7 0), (10, .int .i64 i), (12, .int .i64 (advC (cN ts ml i c 2) d)), (13, .int .i64 (c + 1 + d))], [(7, .box [.int .i64 (nId (newN 0 5)), .int .i64 (nNodes (newN 0 5)), .int .i64 9, .int .i64 (nVote (newN 0 5)), .int .i64 (nBase (newN 0 5)), .int .i64 (nBT (newN 0 5)), .str (nSnap (newN 0 5)), .own 44 0 i, .int .i64 2, .int .i64 0, .int .i64 c, .sl .bool (nVotes (newN 0 5)) false, .sl tI (nNext (newN 0 5)) false, .own 11700 0 5, .int .i64 (nClock (newN 0 5))]), (44, .row tEntry (cL ts i) false), (11700, .row tI (cMs ml i 5) false)]⟩) (fun d => c + (d : Int) ≤ i) (fun d => 31 - d) 0 ?_ ?_ ?_
  · refine Ent_of [(7, 7), (44, 44), (11700, 11700)] rfl ?_ ?_
    · simp only [go_sem, reduceIte, Nat.reduceBEq, Nat.reduceMul, reduceCtorEq, Nat.reduceAdd, Nat.reduceEqDiff, decide_eq_true_eq, decide_eq_false_iff_not, Bool.not_eq_true', Bool.not_eq_false', Bool.and_eq_true, Bool.or_eq_true, Bool.and_eq_false_iff, Bool.or_eq_false_iff, Bool.cond_true_left, Bool.cond_false_right, Bool.cond_true_right, Bool.cond_false_left, Bool.or_false, Bool.and_true]
    · simp only [go_sem, reduceIte, Nat.reduceBEq, Nat.reduceMul, reduceCtorEq, Nat.reduceAdd, Nat.reduceEqDiff, decide_eq_true_eq, decide_eq_false_iff_not, Bool.not_eq_true', Bool.not_eq_false', Bool.and_eq_true, Bool.or_eq_true, Bool.and_eq_false_iff, Bool.or_eq_false_iff, Bool.cond_true_left, Bool.cond_false_right, Bool.cond_true_right, Bool.cond_false_left, Bool.or_false, Bool.and_true]
      exact ⟨rfl, by omega⟩
  · show c + ((0 : Nat) : Int) ≤ i; omega
  intro d hd
  have hd : c + (d : Int) ≤ i := hd
  simp (maxSteps := 10000000) only [go_sem, reduceIte, Nat.reduceBEq, Nat.reduceMul, reduceCtorEq, Nat.reduceAdd, Nat.reduceEqDiff, decide_eq_true_eq, decide_eq_false_iff_not, Bool.not_eq_true', Bool.not_eq_false', Bool.and_eq_true, Bool.or_eq_true, Bool.and_eq_false_iff, Bool.or_eq_false_iff, Bool.cond_true_left, Bool.cond_false_right, Bool.cond_true_right, Bool.cond_false_left, Bool.or_false, Bool.and_true, inR]
  generalize hV : vc _ (C.cut c11_119) _ = V
  refine ⟨fun h => ?_, fun h => ?_⟩
  · refine loop_rule (β := Nat) (fun q => ⟨[(7, .ptr 7 0), (10, .int .i64 i), (12, .int .i64 (advC (cN ts ml i c 2) d)), (13, .int .i64 (c + 1 + d)), (14, .int .i64 (cntGe (cMs ml i 5) (c + 1 + d) q)), (15, .int .i64 q)], [(7, .box [.int .i64 (nId (newN 0 5)), .int .i64 (nNodes (newN 0 5)), .int .i64 9, .int .i64 (nVote (newN 0 5)), .int .i64 (nBase (newN 0 5)), .int .i64 (nBT (newN 0 5)), .str (nSnap (newN 0 5)), .own 44 0 i, .int .i64 2, .int .i64 0, .int .i64 c, .sl .bool (nVotes (newN 0 5)) false, .sl tI (nNext (newN 0 5)) false, .own 11700 0 5, .int .i64 (nClock (newN 0 5))]), (44, .row tEntry (cL ts i) false), (11700, .row tI (cMs ml i 5) false)]⟩) (fun q => q ≤ 5) (fun q => 5 - q) 0 ?_ ?_ ?_
    · refine Ent_of [(7, 7), (44, 44), (11700, 11700)] rfl ?_ ?_
      · simp only [go_sem, reduceIte, Nat.reduceBEq, Nat.reduceMul, reduceCtorEq, Nat.reduceAdd, Nat.reduceEqDiff, decide_eq_true_eq, decide_eq_false_iff_not, Bool.not_eq_true', Bool.not_eq_false', Bool.and_eq_true, Bool.or_eq_true, Bool.and_eq_false_iff, Bool.or_eq_false_iff, Bool.cond_true_left, Bool.cond_false_right, Bool.cond_true_right, Bool.cond_false_left, Bool.or_false, Bool.and_true]
      · simp only [go_sem, reduceIte, Nat.reduceBEq, Nat.reduceMul, reduceCtorEq, Nat.reduceAdd, Nat.reduceEqDiff, decide_eq_true_eq, decide_eq_false_iff_not, Bool.not_eq_true', Bool.not_eq_false', Bool.and_eq_true, Bool.or_eq_true, Bool.and_eq_false_iff, Bool.or_eq_false_iff, Bool.cond_true_left, Bool.cond_false_right, Bool.cond_true_right, Bool.cond_false_left, Bool.or_false, Bool.and_true]
        exact ⟨rfl, rfl⟩
    · exact Nat.zero_le _
    intro q hq
    have hcq := cntGe_le (cMs ml i 5) (c + 1 + d) q
    simp (maxSteps := 10000000) only [go_sem, reduceIte, Nat.reduceBEq, Nat.reduceMul, reduceCtorEq, Nat.reduceAdd, Nat.reduceEqDiff, decide_eq_true_eq, decide_eq_false_iff_not, Bool.not_eq_true', Bool.not_eq_false', Bool.and_eq_true, Bool.or_eq_true, Bool.and_eq_false_iff, Bool.or_eq_false_iff, Bool.cond_true_left, Bool.cond_false_right, Bool.cond_true_right, Bool.cond_false_left, Bool.or_false, Bool.and_true, inR]
    have hml5 := cMs_len ml i (Nat.le_refl 5)
    refine ⟨fun hq5 => ?_, fun hq5 => ?_⟩
    · have hq6 : q < (cMs ml i 5).length := by omega
      have hsc := cntGe_succ (i := c + 1 + d) hq6
      refine ⟨by omega, fun hge => ⟨by omega, by omega, Again.intro (q + 1) (Ent_of [(7, 7), (44, 44), (11700, 11700)] rfl ?_ ?_) (show q + 1 ≤ 5 by omega) (show 5 - (q + 1) < 5 - q by omega)⟩, fun hge => ⟨by omega, Again.intro (q + 1) (Ent_of [(7, 7), (44, 44), (11700, 11700)] rfl ?_ ?_) (show q + 1 ≤ 5 by omega) (show 5 - (q + 1) < 5 - q by omega)⟩⟩
      · simp only [go_sem, reduceIte, Nat.reduceBEq, Nat.reduceMul, reduceCtorEq, Nat.reduceAdd, Nat.reduceEqDiff, decide_eq_true_eq, decide_eq_false_iff_not, Bool.not_eq_true', Bool.not_eq_false', Bool.and_eq_true, Bool.or_eq_true, Bool.and_eq_false_iff, Bool.or_eq_false_iff, Bool.cond_true_left, Bool.cond_false_right, Bool.cond_true_right, Bool.cond_false_left, Bool.or_false, Bool.and_true]
      · simp only [go_sem, reduceIte, Nat.reduceBEq, Nat.reduceMul, reduceCtorEq, Nat.reduceAdd, Nat.reduceEqDiff, decide_eq_true_eq, decide_eq_false_iff_not, Bool.not_eq_true', Bool.not_eq_false', Bool.and_eq_true, Bool.or_eq_true, Bool.and_eq_false_iff, Bool.or_eq_false_iff, Bool.cond_true_left, Bool.cond_false_right, Bool.cond_true_right, Bool.cond_false_left, Bool.or_false, Bool.and_true]
        rw [hsc, if_pos hge]
        exact ⟨rfl, rfl⟩
      · simp only [go_sem, reduceIte, Nat.reduceBEq, Nat.reduceMul, reduceCtorEq, Nat.reduceAdd, Nat.reduceEqDiff, decide_eq_true_eq, decide_eq_false_iff_not, Bool.not_eq_true', Bool.not_eq_false', Bool.and_eq_true, Bool.or_eq_true, Bool.and_eq_false_iff, Bool.or_eq_false_iff, Bool.cond_true_left, Bool.cond_false_right, Bool.cond_true_right, Bool.cond_false_left, Bool.or_false, Bool.and_true]
      · simp only [go_sem, reduceIte, Nat.reduceBEq, Nat.reduceMul, reduceCtorEq, Nat.reduceAdd, Nat.reduceEqDiff, decide_eq_true_eq, decide_eq_false_iff_not, Bool.not_eq_true', Bool.not_eq_false', Bool.and_eq_true, Bool.or_eq_true, Bool.and_eq_false_iff, Bool.or_eq_false_iff, Bool.cond_true_left, Bool.cond_false_right, Bool.cond_true_right, Bool.cond_false_left, Bool.or_false, Bool.and_true]
        rw [hsc, if_neg hge]
        exact ⟨rfl, rfl⟩
    · have hq5' : q = 5 := by omega
      subst hq5'
      have hp1 : 1 ≤ c + 1 + (d : Int) := by omega
      have hp2 : c + 1 + (d : Int) ≤ i := by omega
      have hok := cN_ok (ts := ts) (ml := ml) (c := c) hp1 hp2
      have hadv : advC (cN ts ml i c 2) (d + 1) = if advOk (cN ts ml i c 2) (c + d + 1) then c + d + 1 else advC (cN ts ml i c 2) d := rfl
      rw [show c + (d : Int) + 1 = c + 1 + d by omega] at hadv
      refine ⟨fun _ => by omega, fun _ => by omega, fun hy => ⟨by omega, Again.intro (d + 1) (Ent_of [(7, 7), (44, 44), (11700, 11700)] rfl ?_ ?_) (show c + ((d + 1 : Nat) : Int) ≤ i by omega) (show 31 - (d + 1) < 31 - d by omega)⟩, fun hy => ⟨by omega, Again.intro (d + 1) (Ent_of [(7, 7), (44, 44), (11700, 11700)] rfl ?_ ?_) (show c + ((d + 1 : Nat) : Int) ≤ i by omega) (show 31 - (d + 1) < 31 - d by omega)⟩⟩
      · simp only [go_sem, reduceIte, Nat.reduceBEq, Nat.reduceMul, reduceCtorEq, Nat.reduceAdd, Nat.reduceEqDiff, decide_eq_true_eq, decide_eq_false_iff_not, Bool.not_eq_true', Bool.not_eq_false', Bool.and_eq_true, Bool.or_eq_true, Bool.and_eq_false_iff, Bool.or_eq_false_iff, Bool.cond_true_left, Bool.cond_false_right, Bool.cond_true_right, Bool.cond_false_left, Bool.or_false, Bool.and_true]
      · simp only [go_sem, reduceIte, Nat.reduceBEq, Nat.reduceMul, reduceCtorEq, Nat.reduceAdd, Nat.reduceEqDiff, decide_eq_true_eq, decide_eq_false_iff_not, Bool.not_eq_true', Bool.not_eq_false', Bool.and_eq_true, Bool.or_eq_true, Bool.and_eq_false_iff, Bool.or_eq_false_iff, Bool.cond_true_left, Bool.cond_false_right, Bool.cond_true_right, Bool.cond_false_left, Bool.or_false, Bool.and_true]
        rw [hadv, if_pos (hok.2 ⟨by omega, hy.2⟩)]
        exact ⟨rfl, by omega⟩
      · simp only [go_sem, reduceIte, Nat.reduceBEq, Nat.reduceMul, reduceCtorEq, Nat.reduceAdd, Nat.reduceEqDiff, decide_eq_true_eq, decide_eq_false_iff_not, Bool.not_eq_true', Bool.not_eq_false', Bool.and_eq_true, Bool.or_eq_true, Bool.and_eq_false_iff, Bool.or_eq_false_iff, Bool.cond_true_left, Bool.cond_false_right, Bool.cond_true_right, Bool.cond_false_left, Bool.or_false, Bool.and_true]
      · simp only [go_sem, reduceIte, Nat.reduceBEq, Nat.reduceMul, reduceCtorEq, Nat.reduceAdd, Nat.reduceEqDiff, decide_eq_true_eq, decide_eq_false_iff_not, Bool.not_eq_true', Bool.not_eq_false', Bool.and_eq_true, Bool.or_eq_true, Bool.and_eq_false_iff, Bool.or_eq_false_iff, Bool.cond_true_left, Bool.cond_false_right, Bool.cond_true_right, Bool.cond_false_left, Bool.or_false, Bool.and_true]
        rw [hadv, if_neg (fun ho => by
          obtain ⟨o1, o2⟩ := hok.1 ho
          rcases hy with hy | hy
          · omega
          · exact hy o2)]
        exact ⟨rfl, by omega⟩
  · have hdi : (i : Int) = c + d := by omega
    refine cut_at hV ⟨[(7, .ptr 7 0), (12, .int .i64 (advC (cN ts ml i c 2) d))], [(7, .box [.int .i64 (nId (newN 0 5)), .int .i64 (nNodes (newN 0 5)), .int .i64 9, .int .i64 (nVote (newN 0 5)), .int .i64 (nBase (newN 0 5)), .int .i64 (nBT (newN 0 5)), .str (nSnap (newN 0 5)), .own 44 0 i, .int .i64 2, .int .i64 0, .int .i64 c, .sl .bool (nVotes (newN 0 5)) false, .sl tI (nNext (newN 0 5)) false, .own 11700 0 5, .int .i64 (nClock (newN 0 5))]), (44, .row tEntry (cL ts i) false), (11700, .row tI (cMs ml i 5) false)]⟩ ?_ (Ent_of [(7, 7), (44, 44), (11700, 11700)] rfl ?_ ?_)
    rotate_left
    · simp only [go_sem, reduceIte, Nat.reduceBEq, Nat.reduceMul, reduceCtorEq, Nat.reduceAdd, Nat.reduceEqDiff, decide_eq_true_eq, decide_eq_false_iff_not, Bool.not_eq_true', Bool.not_eq_false', Bool.and_eq_true, Bool.or_eq_true, Bool.and_eq_false_iff, Bool.or_eq_false_iff, Bool.cond_true_left, Bool.cond_false_right, Bool.cond_true_right, Bool.cond_false_left, Bool.or_false, Bool.and_true]
    · simp only [go_sem, reduceIte, Nat.reduceBEq, Nat.reduceMul, reduceCtorEq, Nat.reduceAdd, Nat.reduceEqDiff, decide_eq_true_eq, decide_eq_false_iff_not, Bool.not_eq_true', Bool.not_eq_false', Bool.and_eq_true, Bool.or_eq_true, Bool.and_eq_false_iff, Bool.or_eq_false_iff, Bool.cond_true_left, Bool.cond_false_right, Bool.cond_true_right, Bool.cond_false_left, Bool.or_false, Bool.and_true]
    clear hV V
    simp (maxSteps := 10000000) only [c11_119, go_sem, reduceIte, Nat.reduceBEq, Nat.reduceMul, reduceCtorEq, Nat.reduceAdd, Nat.reduceEqDiff, decide_eq_true_eq, decide_eq_false_iff_not, Bool.not_eq_true', Bool.not_eq_false', Bool.and_eq_true, Bool.or_eq_true, Bool.and_eq_false_iff, Bool.or_eq_false_iff, Bool.cond_true_left, Bool.cond_false_right, Bool.cond_true_right, Bool.cond_false_left, Bool.or_false, Bool.and_true, inR]
    simp only [mkPr]
    have hN : ∀ r, mkN (nId (newN 0 5)) (nNodes (newN 0 5)) 9 (nVote (newN 0 5)) (nBase (newN 0 5)) (nBT (newN 0 5)) (nSnap (newN 0 5)) (List.take i (cL ts i)) r 0 c (nVotes (newN 0 5)) (nNext (newN 0 5)) (List.take 5 (cMs ml i 5)) (nClock (newN 0 5)) = cN ts ml i c r := by
      intro r
      rw [List.take_of_length_le (by rw [cL_len]; exact Nat.le_refl _), List.take_of_length_le (by rw [cMs_len ml i (Nat.le_refl 5)]; exact Nat.le_refl _)]
      rfl
    simp only [hN]
    have hl : ∀ r, last (cN ts ml i c r) = i := fun r => by
      show (0 : Int) + ((cL ts i).length : Int) = i
      rw [cL_len]; omega
    have hrg : ∀ r, rgN (cN ts ml i c r) := fun r => by
      refine ⟨show (0 : Int) ≤ 0 by decide, show (0 : Int) ≤ c by omega, show c ≤ _ by omega, by rw [hl]; omega, ?_, of_decide_eq_true (by rfl), of_decide_eq_true (by rfl), (show (nNext (newN 0 5)).length ≤ 1048576 by decide +kernel), ?_⟩
      · rw [sm]; show (cL ts i).length ≤ _; rw [cL_len]; omega
      · rw [sm]; show (cMs ml i 5).length ≤ _; rw [cMs_len ml i (Nat.le_refl 5)]; decide
    have ha2 : adv (cN ts ml i c 2) = setCommit (cN ts ml i c 2) (advC (cN ts ml i c 2) d) := by
      have e : adv (cN ts ml i c 2) = setCommit (cN ts ml i c 2) (advC (cN ts ml i c 2) (last (cN ts ml i c 2) - nCommit (cN ts ml i c 2)).toNat) := if_pos rfl
      rw [e, hl]
      have hc : nCommit (cN ts ml i c 2) = c := rfl
      rw [hc, show ((i : Int) - c).toNat = d by omega]
    have ha0 : adv (cN ts ml i c 0) = cN ts ml i c 0 := if_neg (by show ¬ ((0 : Int) = 2); decide)
    simp only [ha2, ha0]
    exact ⟨hrg 2, fun _ => hrg 0, by decide +kernel, rfl, rfl⟩
end Go.AM
