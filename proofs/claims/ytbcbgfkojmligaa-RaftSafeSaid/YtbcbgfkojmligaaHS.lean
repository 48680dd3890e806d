import Derived.Test.YtbcbgfkojmligaaHR
import Derived.KernelRfl
import Derived.Test.YtbcbgfkojmligaaProg
/- What functions of the program answer, each under the conditions that its contract names. -/
set_option linter.unusedVariables false
set_option linter.unusedSimpArgs false
set_option maxRecDepth 100000
namespace Go.AM
def c74_60 : C := (.seq (.reg [⟨(some 60), .mv, [.t 6], none⟩,
  ⟨(some 61), (.fld 4), [.t 3], none⟩,
  ⟨(some 62), (.load 1 false), [.t 61], none⟩,
  ⟨(some 63), .mx, [.t 60, .t 62], none⟩,
  ⟨(some 64), .mv, [.t 8], none⟩,
  ⟨(some 65), .mn, [.t 63, .t 64], none⟩,
  ⟨(some 6), .mv, [.t 65], none⟩])
 (.seq (.regd [⟨(some 66), (.fld 13), [.t 2], none⟩,
  ⟨(some 67), (.load 1 false), [.t 66], none⟩,
  ⟨(some 68), (.fld 1), [.t 3], none⟩,
  ⟨(some 69), (.load 1 false), [.t 68], none⟩,
  ⟨(some 70), .mv, [.t 6], none⟩,
  ⟨(some 71), (.call 116), [.t 67, .t 69, .t 70], none⟩,
  ⟨(some 72), (.fld 12), [.t 2], none⟩,
  ⟨(some 73), (.load 1 false), [.t 72], none⟩,
  ⟨(some 74), (.fld 1), [.t 3], none⟩,
  ⟨(some 75), (.load 1 false), [.t 74], none⟩,
  ⟨(some 76), .mv, [.t 6], none⟩,
  ⟨(some 77), (.bin .add), [.t 76, .c (.int .i64 1)], none⟩,
  ⟨(some 78), (.call 116), [.t 73, .t 75, .t 77], none⟩,
  ⟨(some 79), (.fld 13), [.t 2], none⟩,
  ⟨none, (.store 1), [.t 79, .t 71], none⟩,
  ⟨(some 80), (.fld 12), [.t 2], none⟩,
  ⟨none, (.store 1), [.t 80, .t 78], none⟩] [0, 1, 0, 4, 0, 26, 0, 64, 0, 256, 0, 1024, 2720, 255, 12543, 32767, 65535])
 (.seq (.reg [⟨(some 81), (.load 15 true), [.t 2], none⟩,
  ⟨(some 82), (.call 56), [.t 81], none⟩,
  ⟨none, (.store 15), [.t 2, .t 82], none⟩])
 (.seq (.seq (.reg [⟨(some 83), .mv, [.t 6], none⟩,
  ⟨(some 84), (.bin .add), [.t 83, .c (.int .i64 1)], none⟩,
  ⟨(some 85), .mv, [.t 8], none⟩,
  ⟨(some 86), (.bin .leq), [.t 84, .t 85], none⟩])
 (.cond (.t 86) (.seq (.regd [⟨(some 87), (.load 15 true), [.t 2], none⟩,
  ⟨(some 88), (.load 15 true), [.t 2], none⟩,
  ⟨(some 89), (.fld 1), [.t 3], none⟩,
  ⟨(some 90), (.load 1 false), [.t 89], none⟩,
  ⟨(some 91), (.call 70), [.t 88, .t 90], none⟩,
  ⟨(some 92), (.bslice tMsg 1), [.t 91], none⟩,
  ⟨none, (.store 15), [.t 4, .t 87], none⟩,
  ⟨(some 5), .mv, [.t 92], none⟩] [0, 0, 0, 4, 10, 16, 17, 127])
 .ret) .skip))
 (.seq (.reg [⟨(some 93), (.load 15 true), [.t 2], none⟩,
  ⟨none, (.store 15), [.t 4, .t 93], none⟩,
  ⟨(some 5), .mv, [.c (.sl tMsg [] true)], none⟩])
 .ret)))))
def c74_36 : C := (.seq (.seq (.reg [⟨(some 36), (.fld 6), [.t 3], none⟩,
  ⟨(some 37), (.load 1 false), [.t 36], none⟩,
  ⟨(some 38), .not, [.t 37], none⟩])
 (.cond (.t 38) (.seq (.reg [⟨(some 39), (.fld 12), [.t 2], none⟩,
  ⟨(some 40), (.load 1 false), [.t 39], none⟩,
  ⟨(some 41), (.fld 1), [.t 3], none⟩,
  ⟨(some 42), (.load 1 false), [.t 41], none⟩,
  ⟨(some 43), .mv, [.t 6], none⟩,
  ⟨(some 44), (.bin .add), [.t 43, .c (.int .i64 1)], none⟩,
  ⟨(some 45), .mv, [.t 7], none⟩,
  ⟨(some 46), (.bin .sub), [.t 45, .c (.int .i64 1)], none⟩,
  ⟨(some 47), (.fld 4), [.t 3], none⟩,
  ⟨(some 48), (.load 1 false), [.t 47], none⟩,
  ⟨(some 49), (.bin .add), [.t 48, .c (.int .i64 1)], none⟩,
  ⟨(some 50), .mn, [.t 46, .t 49], none⟩,
  ⟨(some 51), .mx, [.c (.int .i64 1), .t 44, .t 50], none⟩,
  ⟨(some 52), (.call 116), [.t 40, .t 42, .t 51], none⟩,
  ⟨(some 53), (.fld 12), [.t 2], none⟩,
  ⟨none, (.store 1), [.t 53, .t 52], none⟩])
 (.seq (.regd [⟨(some 54), (.load 15 true), [.t 2], none⟩,
  ⟨(some 55), (.load 15 true), [.t 2], none⟩,
  ⟨(some 56), (.fld 1), [.t 3], none⟩,
  ⟨(some 57), (.load 1 false), [.t 56], none⟩,
  ⟨(some 58), (.call 70), [.t 55, .t 57], none⟩,
  ⟨(some 59), (.bslice tMsg 1), [.t 58], none⟩,
  ⟨none, (.store 15), [.t 4, .t 54], none⟩,
  ⟨(some 5), .mv, [.t 59], none⟩] [0, 0, 0, 4, 10, 16, 17, 127])
 .ret)) .skip))
 (.cut c74_60))
def c74 : C := (.seq (.reg [⟨(some 2), .box, [.t 0], none⟩,
  ⟨(some 3), .box, [.t 1], none⟩,
  ⟨(some 4), (.alloc [.int .i64 0, .int .i64 0, .int .i64 0, .int .i64 0, .int .i64 0, .int .i64 0, .str ⟨#[]⟩, .sl tEntry [] true, .int .i64 0, .int .i64 0, .int .i64 0, .sl .bool [] true, .sl tI [] true, .sl tI [] true, .int .i64 0]), [], none⟩,
  ⟨(some 5), .mv, [.c (.sl tMsg [] true)], none⟩])
 (.seq (.reg [⟨(some 9), (.load 15 true), [.t 2], none⟩,
  ⟨(some 10), (.fld 3), [.t 3], none⟩,
  ⟨(some 11), (.load 1 false), [.t 10], none⟩,
  ⟨(some 12), (.call 32), [.t 9, .t 11], none⟩,
  ⟨none, (.store 15), [.t 2, .t 12], none⟩])
 (.seq (.seq (.reg [⟨(some 13), (.fld 8), [.t 2], none⟩,
  ⟨(some 14), (.load 1 false), [.t 13], none⟩,
  ⟨(some 15), (.bin .neq), [.t 14, .c (.int .i64 2)], none⟩,
  ⟨(some 16), .mv, [.t 15], none⟩,
  ⟨(some 17), (.fld 3), [.t 3], (some (16, false))⟩,
  ⟨(some 18), (.load 1 false), [.t 17], (some (16, false))⟩,
  ⟨(some 19), (.fld 2), [.t 2], (some (16, false))⟩,
  ⟨(some 20), (.load 1 false), [.t 19], (some (16, false))⟩,
  ⟨(some 21), (.bin .neq), [.t 18, .t 20], (some (16, false))⟩,
  ⟨(some 22), .pick, [.t 16, .c (.bool true), .t 21], none⟩])
 (.cond (.t 22) (.seq (.reg [⟨(some 23), (.load 15 true), [.t 2], none⟩,
  ⟨none, (.store 15), [.t 4, .t 23], none⟩,
  ⟨(some 5), .mv, [.c (.sl tMsg [] true)], none⟩])
 .ret) .skip))
 (.seq (.regd [⟨(some 24), (.fld 13), [.t 2], none⟩,
  ⟨(some 25), (.load 1 false), [.t 24], none⟩,
  ⟨(some 26), (.fld 1), [.t 3], none⟩,
  ⟨(some 27), (.load 1 false), [.t 26], none⟩,
  ⟨(some 28), (.call 113), [.t 25, .t 27], none⟩,
  ⟨(some 29), (.fld 12), [.t 2], none⟩,
  ⟨(some 30), (.load 1 false), [.t 29], none⟩,
  ⟨(some 31), (.fld 1), [.t 3], none⟩,
  ⟨(some 32), (.load 1 false), [.t 31], none⟩,
  ⟨(some 33), (.call 113), [.t 30, .t 32], none⟩,
  ⟨(some 34), (.load 15 true), [.t 2], none⟩,
  ⟨(some 35), (.call 52), [.t 34], none⟩,
  ⟨(some 6), .mv, [.t 28], none⟩,
  ⟨(some 7), .mv, [.t 33], none⟩,
  ⟨(some 8), .mv, [.t 35], none⟩] [0, 1, 0, 4, 10, 0, 32, 0, 128, 336, 0, 1536, 2079, 5119, 16383])
 (.cut c74_36)))))
theorem comp74 : compC Go.Proofs.Try.prog ttL 94 [] (match Go.Proofs.Try.f74.body with | some b => b | none => .skip) = some (erase c74) := by kernel_rfl
end Go.AM
set_option maxRecDepth 100000
set_option maxHeartbeats 8000000
set_option linter.unusedSimpArgs false
namespace Go.AM
open Go.Proofs
attribute [local congr] vc_congr evOps_congr evTab_congr bind_congr condK_congr tabK_congr
def setNext (n : Node) (l : List Int) : Node := mkN (nId n) (nNodes n) (nTerm n) (nVote n) (nBase n) (nBT n) (nSnap n) (nLog n) (nRole n) (nLead n) (nCommit n) (nVotes n) l (nMatch n) (nClock n)
theorem rgN_setNext {n : Node} {l : List Int} (h : rgN n) (hl : l.length = (nNext n).length) : rgN (setNext n l) := by
  simp only [rgN] at h ⊢
  refine ⟨h.1, h.2.1, h.2.2.1, h.2.2.2.1, h.2.2.2.2.1, h.2.2.2.2.2.1, h.2.2.2.2.2.2.1, ?_, h.2.2.2.2.2.2.2.2⟩
  have := h.2.2.2.2.2.2.2.1
  rw [sm] at this ⊢
  show l.length ≤ _
  omega
theorem atL_put (l : List Int) (i v : Int) : atL (putL l i v) i = v ∨ atL (putL l i v) i = 0 := by
  unfold atL
  rw [putL_len]
  by_cases h : i < 0 ∨ (l.length : Int) ≤ i
  · exact .inr (if_pos h)
  · rw [if_neg h]
    left
    have hp : putL l i v = l.set i.toNat v := if_pos (by omega)
    rw [hp, List.getD_eq_getElem?_getD, List.getElem?_set_self (by omega)]
    rfl
/-- where a leader is to send on from, told no -/
def backI (d : Node) (m : Msg) : Int := max (max 1 (atL (nMatch d) (mFrom m) + 1)) (min (atL (nNext d) (mFrom m) - 1) (mIndex m + 1))
def gotI (d : Node) (m : Msg) : Int := min (max (atL (nMatch d) (mFrom m)) (mIndex m)) (last d)
def back1 (d : Node) (m : Msg) : Node := setNext d (putL (nNext d) (mFrom m) (backI d m))
def got1 (d : Node) (m : Msg) : Node := adv (setNext (setMatch d (putL (nMatch d) (mFrom m) (gotI d m))) (putL (nNext d) (mFrom m) (gotI d m + 1)))
def heard1' (d : Node) (m : Msg) : Node := if nRole d = 2 ∧ mTerm m = nTerm d then (if mYes m = true then got1 d m else back1 d m) else d
def heard2' (d : Node) (m : Msg) : List Msg :=
  if nRole d = 2 ∧ mTerm m = nTerm d then (if mYes m = true then (if gotI d m + 1 ≤ last d then [sendM (got1 d m) (mFrom m)] else []) else [sendM (back1 d m) (mFrom m)]) else []
def heard1 (n : Node) (m : Msg) : Node := heard1' (down n (mTerm m)) m
def heard2 (n : Node) (m : Msg) : List Msg := heard2' (down n (mTerm m)) m
def okS (i : Int) : Prop := -4398046511000 ≤ i ∧ i ≤ 4398046511000
def okAt (n : Node) (i : Int) : Prop := okS (atL (nNext n) i) ∧ okS (atL (nMatch n) i)
def fn74 : Fn := { a := .pair tNode (.pair tMsg .unit), r := .pair tNode (.pair (.list tMsg) .unit), pre := fun x => rgN x.1 ∧ okAt x.1 (mFrom x.2.1) ∧ -4398046511000 ≤ mIndex x.2.1 ∧ mIndex x.2.1 ≤ 4398046511000 ∧ last x.1 ≤ 4398046511000, f := fun x => (heard1 x.1 x.2.1, heard2 x.1 x.2.1, ()) }
theorem h74  : Holds Try.prog 74 (fn74) := by
  refine Holds.of_vcc (T := [(32, fn32), (113, fn113), (52, fn52), (116, fn116), (70, fn70), (56, fn56)]) (TT := ttL) (rowAt := []) (c := c74) (ros := [.c 4 15, .t 5]) (.cons _ h32 (.cons _ h113 (.cons _ h52 (.cons _ h116 (.cons _ h70 (.cons _ h56 (.nil _))))))) mixed Try.func74 (by decide +kernel) (by rfl) comp74 (by kernel_rfl) rfl rfl (fun h => by cases h) ?_
  rintro ⟨(n : Node), (m : Msg), _⟩ hpre
  simp only [fn74] at hpre ⊢
  simp only [c74, fn32, fn113, fn52, fn116, fn70, fn56, go_sem, reduceIte, Nat.reduceBEq, Nat.reduceMul, reduceCtorEq, Nat.reduceAdd, Nat.reduceEqDiff, decide_eq_true_eq, decide_eq_false_iff_not, Bool.not_eq_true', Bool.not_eq_false', Bool.and_eq_true, Bool.or_eq_true, Bool.and_eq_false_iff, Bool.or_eq_false_iff, Bool.cond_true_left, Bool.cond_false_right, Bool.cond_true_right, Bool.cond_false_left, Bool.or_false, Bool.and_true, inR]
  simp only [heard1, heard2]
  have e0 : m.2.2.2.1 = mTerm m := rfl
  simp only [e0]
  have hrd := rgN_down (t := mTerm m) hpre.1
  have hat : okAt (down n (mTerm m)) (mFrom m) := by
    unfold down; split
    · exact hpre.2.1
    · exact hpre.2.1
  have hla : last (down n (mTerm m)) = last n := last_down ..
  generalize down n (mTerm m) = d at *
  generalize hV : vc _ (C.cut c74_36) _ = V
  have hR := hrd
  simp only [rgN, sm] at hR
  have hl : last d = nBase d + (nLog d).length := rfl
  refine ⟨fun h => ?_, fun h => ⟨by omega, by rfl, ?_⟩⟩
  · have hn : ¬ (nRole d = 2 ∧ mTerm m = nTerm d) := fun hc => h.elim (fun h => h hc.1) (fun h => h hc.2)
    exact ⟨(if_neg hn).symm, (if_neg hn).symm⟩
  have h1 : heard1' d m = if mYes m = true then got1 d m else back1 d m := if_pos h
  have h2 : heard2' d m = if mYes m = true then (if gotI d m + 1 ≤ last d then [sendM (got1 d m) (mFrom m)] else []) else [sendM (back1 d m) (mFrom m)] := if_pos h
  rw [h1, h2] at hV
  refine cut_at hV ⟨[(2, .ptr 2 0), (3, .ptr 3 0), (4, .ptr 4 0), (6, .int .i64 (atL (nMatch d) (mFrom m))), (7, .int .i64 (atL (nNext d) (mFrom m))), (8, .int .i64 (last d))], [(2, .box (cellsA tNode d [])), (3, .box (cellsA tMsg m [])), (4, .box zN)]⟩ ?_ (Ent_of [(2, 2), (3, 3), (4, 4)] rfl ?_ ?_)
  rotate_left
  · simp only [go_sem, reduceIte, Nat.reduceBEq, Nat.reduceMul, reduceCtorEq, Nat.reduceAdd, Nat.reduceEqDiff, decide_eq_true_eq, decide_eq_false_iff_not, Bool.not_eq_true', Bool.not_eq_false', Bool.and_eq_true, Bool.or_eq_true, Bool.and_eq_false_iff, Bool.or_eq_false_iff, Bool.cond_true_left, Bool.cond_false_right, Bool.cond_true_right, Bool.cond_false_left, Bool.or_false, Bool.and_true]
  · simp only [go_sem, reduceIte, Nat.reduceBEq, Nat.reduceMul, reduceCtorEq, Nat.reduceAdd, Nat.reduceEqDiff, decide_eq_true_eq, decide_eq_false_iff_not, Bool.not_eq_true', Bool.not_eq_false', Bool.and_eq_true, Bool.or_eq_true, Bool.and_eq_false_iff, Bool.or_eq_false_iff, Bool.cond_true_left, Bool.cond_false_right, Bool.cond_true_right, Bool.cond_false_left, Bool.or_false, Bool.and_true]
  clear hV V
  have hg : gotI d m = min (max (atL (nMatch d) (mFrom m)) (mIndex m)) (last d) := rfl
  have hb : backI d m = max (max 1 (atL (nMatch d) (mFrom m) + 1)) (min (atL (nNext d) (mFrom m) - 1) (mIndex m + 1)) := rfl
  simp only [okAt, okS] at hat
  generalize atL (nMatch d) (mFrom m) = ma at *
  generalize atL (nNext d) (mFrom m) = ne at *
  simp (maxSteps := 10000000) only [c74_36, go_sem, reduceIte, Nat.reduceBEq, Nat.reduceMul, reduceCtorEq, Nat.reduceAdd, Nat.reduceEqDiff, decide_eq_true_eq, decide_eq_false_iff_not, Bool.not_eq_true', Bool.not_eq_false', Bool.and_eq_true, Bool.or_eq_true, Bool.and_eq_false_iff, Bool.or_eq_false_iff, Bool.cond_true_left, Bool.cond_false_right, Bool.cond_true_right, Bool.cond_false_left, Bool.or_false, Bool.and_true, inR]
  simp only [mkPr]
  generalize hV : vc _ (C.cut c74_60) _ = V
  have hI : mIndex m = m.2.2.2.2.1 := rfl
  refine ⟨fun hy => ?_, fun hy => ?_⟩
  · generalize hq : mkN _ _ _ _ _ _ _ _ _ _ _ _ (putL _ _ (max _ _)) _ _ = q
    have eq : q = back1 d m := by
      rw [← hq]
      show setNext d (putL (nNext d) (mFrom m) (max (max 1 (ma + 1)) (min (ne - 1) (mIndex m + 1)))) = back1 d m
      unfold back1; rw [hb]
    clear hq
    subst eq
    have hy' : ¬ mYes m = true := by rw [show mYes m = false from hy]; decide
    rw [if_neg hy', if_neg hy']
    refine ⟨by omega, by omega, by omega, hrd.2.2.2.2.2.2.2.1, ⟨rgN_setNext hrd (putL_len ..), ?_⟩, by rfl, rfl, rfl⟩
    unfold nextOk
    have hnx : nNext (back1 d m) = putL (nNext d) (mFrom m) (backI d m) := rfl
    rw [hnx]
    show -4398046511104 ≤ atL (putL (nNext d) (mFrom m) (backI d m)) (mFrom m) ∧ atL (putL (nNext d) (mFrom m) (backI d m)) (mFrom m) ≤ 4398046511104
    rcases atL_put (nNext d) (mFrom m) (backI d m) with h | h
    · rw [h]; omega
    · rw [h]; decide
  rw [if_pos (show mYes m = true from hy), if_pos (show mYes m = true from hy)] at hV
  refine cut_at hV ⟨[(2, .ptr 2 0), (3, .ptr 3 0), (4, .ptr 4 0), (6, .int .i64 ma), (8, .int .i64 (last d))], [(2, .box (cellsA tNode d [])), (3, .box (cellsA tMsg m [])), (4, .box zN)]⟩ ?_ (Ent_of [(2, 2), (3, 3), (4, 4)] rfl ?_ ?_)
  rotate_left
  · simp only [go_sem, reduceIte, Nat.reduceBEq, Nat.reduceMul, reduceCtorEq, Nat.reduceAdd, Nat.reduceEqDiff, decide_eq_true_eq, decide_eq_false_iff_not, Bool.not_eq_true', Bool.not_eq_false', Bool.and_eq_true, Bool.or_eq_true, Bool.and_eq_false_iff, Bool.or_eq_false_iff, Bool.cond_true_left, Bool.cond_false_right, Bool.cond_true_right, Bool.cond_false_left, Bool.or_false, Bool.and_true]
  · simp only [go_sem, reduceIte, Nat.reduceBEq, Nat.reduceMul, reduceCtorEq, Nat.reduceAdd, Nat.reduceEqDiff, decide_eq_true_eq, decide_eq_false_iff_not, Bool.not_eq_true', Bool.not_eq_false', Bool.and_eq_true, Bool.or_eq_true, Bool.and_eq_false_iff, Bool.or_eq_false_iff, Bool.cond_true_left, Bool.cond_false_right, Bool.cond_true_right, Bool.cond_false_left, Bool.or_false, Bool.and_true]
  clear hV V
  have hg' : min (max ma m.2.2.2.2.1) (last d) = gotI d m := hg.symm
  simp (maxSteps := 10000000) only [c74_60, go_sem, reduceIte, Nat.reduceBEq, Nat.reduceMul, reduceCtorEq, Nat.reduceAdd, Nat.reduceEqDiff, decide_eq_true_eq, decide_eq_false_iff_not, Bool.not_eq_true', Bool.not_eq_false', Bool.and_eq_true, Bool.or_eq_true, Bool.and_eq_false_iff, Bool.or_eq_false_iff, Bool.cond_true_left, Bool.cond_false_right, Bool.cond_true_right, Bool.cond_false_left, Bool.or_false, Bool.and_true, inR, hg']
  simp only [mkPr]
  generalize hq : mkN _ _ _ _ _ _ _ _ _ _ _ _ (putL _ _ _) (putL _ _ _) _ = q
  have eq : q = setNext (setMatch d (putL (nMatch d) (mFrom m) (gotI d m))) (putL (nNext d) (mFrom m) (gotI d m + 1)) := by rw [← hq]; rfl
  have ea : adv q = got1 d m := by rw [eq]; rfl
  have hrq : rgN q := by
    rw [eq]
    exact rgN_setNext (rgN_setMatch hrd (putL_len ..)) (putL_len ..)
  have hnq : nNext (adv q) = putL (nNext d) (mFrom m) (gotI d m + 1) := by rw [adv_next, eq]; rfl
  clear hq eq
  simp only [ea] at hnq ⊢
  have hra : rgN (got1 d m) := by rw [← ea]; exact rgN_adv hrq
  refine ⟨hrd.2.2.2.2.2.2.2.2, by omega, hrd.2.2.2.2.2.2.2.1, by rfl, hrq, by omega, fun hc => ⟨⟨hra, ?_⟩, by rfl, trivial, (if_pos hc).symm⟩, fun hc => ⟨trivial, (if_neg hc).symm⟩⟩
  unfold nextOk
  rw [hnq]
  show -4398046511104 ≤ atL (putL (nNext d) (mFrom m) (gotI d m + 1)) (mFrom m) ∧ atL (putL (nNext d) (mFrom m) (gotI d m + 1)) (mFrom m) ≤ 4398046511104
  rcases atL_put (nNext d) (mFrom m) (gotI d m + 1) with h | h
  · rw [h]; omega
  · rw [h]; decide
end Go.AM
