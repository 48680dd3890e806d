import Derived.Test.YtbcbgfkojmligaaHL
import Derived.Test.YtbcbgfkojmligaaTO
/- What functions of the program answer, each under the conditions that its contract names. -/
set_option linter.unusedVariables false
set_option linter.unusedSimpArgs false
set_option maxRecDepth 100000
set_option maxHeartbeats 8000000
set_option linter.unusedSimpArgs false
namespace Go.AM
open Go.Proofs
attribute [local congr] vc_congr evOps_congr evTab_congr bind_congr condK_congr tabK_congr
def setNext (n : Node) (l : List Int) : Node := mkN (nId n) (nNodes n) (nTerm n) (nVote n) (nBase n) (nBT n) (nSnap n) (nLog n) (nRole n) (nLead n) (nCommit n) (nVotes n) l (nMatch n) (nClock n)
theorem rgN_setNext {n : Node} {l : List Int} (h : rgN n) (hl : l.length = (nNext n).length) : rgN (setNext n l) := by
  simp only [rgN] at h ⊢
  refine ⟨h.1, h.2.1, h.2.2.1, h.2.2.2.1, h.2.2.2.2.1, h.2.2.2.2.2.1, h.2.2.2.2.2.2.1, ?_, h.2.2.2.2.2.2.2.2⟩
  have := h.2.2.2.2.2.2.2.1
  rw [sm] at this ⊢
  show l.length ≤ _
  omega
theorem atL_put (l : List Int) (i v : Int) : atL (putL l i v) i = v ∨ atL (putL l i v) i = 0 := by
  unfold atL
  rw [putL_len]
  by_cases h : i < 0 ∨ (l.length : Int) ≤ i
  · exact .inr (if_pos h)
  · rw [if_neg h]
    left
    have hp : putL l i v = l.set i.toNat v := if_pos (by omega)
    rw [hp, List.getD_eq_getElem?_getD, List.getElem?_set_self (by omega)]
    rfl
/-- where a leader is to send on from, told no -/
def backI (d : Node) (m : Msg) : Int := max (max 1 (atL (nMatch d) (mFrom m) + 1)) (min (atL (nNext d) (mFrom m) - 1) (mIndex m + 1))
def gotI (d : Node) (m : Msg) : Int := min (max (atL (nMatch d) (mFrom m)) (mIndex m)) (last d)
def back1 (d : Node) (m : Msg) : Node := setNext d (putL (nNext d) (mFrom m) (backI d m))
def got1 (d : Node) (m : Msg) : Node := adv (setNext (setMatch d (putL (nMatch d) (mFrom m) (gotI d m))) (putL (nNext d) (mFrom m) (gotI d m + 1)))
def heard1' (d : Node) (m : Msg) : Node := if nRole d = 2 ∧ mTerm m = nTerm d then (if mYes m = true then got1 d m else back1 d m) else d
def heard2' (d : Node) (m : Msg) : List Msg :=
  if nRole d = 2 ∧ mTerm m = nTerm d then (if mYes m = true then (if gotI d m + 1 ≤ last d then [sendM (got1 d m) (mFrom m)] else []) else [sendM (back1 d m) (mFrom m)]) else []
def heard1 (n : Node) (m : Msg) : Node := heard1' (down n (mTerm m)) m
def heard2 (n : Node) (m : Msg) : List Msg := heard2' (down n (mTerm m)) m
def okS (i : Int) : Prop := -4398046511000 ≤ i ∧ i ≤ 4398046511000
def okAt (n : Node) (i : Int) : Prop := okS (atL (nNext n) i) ∧ okS (atL (nMatch n) i)
def fn74 : Fn := { a := .pair tNode (.pair tMsg .unit), r := .pair tNode (.pair (.list tMsg) .unit), pre := fun x => rgN x.1 ∧ okAt x.1 (mFrom x.2.1) ∧ -4398046511000 ≤ mIndex x.2.1 ∧ mIndex x.2.1 ≤ 4398046511000 ∧ last x.1 ≤ 4398046511000, f := fun x => (heard1 x.1 x.2.1, heard2 x.1 x.2.1, ()) }
theorem h74  : Holds Try.prog 74 (fn74) := by
  refine Holds.of_vcc (T := [(32, fn32), (113, fn113), (52, fn52), (116, fn116), (70, fn70), (56, fn56)]) (TT := ttL) (rowAt := []) (c := c74) (ros := [.c 4 15, .t 5]) (.cons _ h32 (.cons _ h113 (.cons _ h52 (.cons _ h116 (.cons _ h70 (.cons _ h56 (.nil _))))))) mixed Try.func74 (by decide +kernel) (by rfl) comp74 (by kernel_rfl) rfl rfl (fun h => by cases h) ?_
  rintro ⟨(n : Node), (m : Msg), _⟩ hpre
  simp only [fn74] at hpre ⊢
  simp only [c74, fn32, fn113, fn52, fn116, fn70, fn56, go_sem, reduceIte, Nat.reduceBEq, Nat.reduceMul, reduceCtorEq, Nat.reduceAdd, Nat.reduceEqDiff, decide_eq_true_eq, decide_eq_false_iff_not, Bool.not_eq_true', Bool.not_eq_false', Bool.and_eq_true, Bool.or_eq_true, Bool.and_eq_false_iff, Bool.or_eq_false_iff, Bool.cond_true_left, Bool.cond_false_right, Bool.cond_true_right, Bool.cond_false_left, Bool.or_false, Bool.and_true, inR]
  simp only [heard1, heard2]
  have e0 : m.2.2.2.1 = mTerm m := rfl
  simp only [e0]
  have hrd := rgN_down (t := mTerm m) hpre.1
  have hat : okAt (down n (mTerm m)) (mFrom m) := by
    unfold down; split
    · exact hpre.2.1
    · exact hpre.2.1
  have hla : last (down n (mTerm m)) = last n := last_down ..
  generalize down n (mTerm m) = d at *
  generalize hV : vc _ (C.cut c74_36) _ = V
  have hR := hrd
  simp only [rgN, sm] at hR
  have hl : last d = nBase d + (nLog d).length := rfl
  refine ⟨fun h => ?_, fun h => ⟨by omega, by rfl, ?_⟩⟩
  · have hn : ¬ (nRole d = 2 ∧ mTerm m = nTerm d) := fun hc => h.elim (fun h => h hc.1) (fun h => h hc.2)
    exact ⟨(if_neg hn).symm, (if_neg hn).symm⟩
  have h1 : heard1' d m = if mYes m = true then got1 d m else back1 d m := if_pos h
  have h2 : heard2' d m = if mYes m = true then (if gotI d m + 1 ≤ last d then [sendM (got1 d m) (mFrom m)] else []) else [sendM (back1 d m) (mFrom m)] := if_pos h
  rw [h1, h2] at hV
  refine cut_at hV ⟨[(2, .ptr 2 0), (3, .ptr 3 0), (4, .ptr 4 0), (6, .int .i64 (atL (nMatch d) (mFrom m))), (7, .int .i64 (atL (nNext d) (mFrom m))), (8, .int .i64 (last d))], [(2, .box (cellsA tNode d [])), (3, .box (cellsA tMsg m [])), (4, .box zN)]⟩ ?_ (Ent_of [(2, 2), (3, 3), (4, 4)] rfl ?_ ?_)
  rotate_left
  · simp only [go_sem, reduceIte, Nat.reduceBEq, Nat.reduceMul, reduceCtorEq, Nat.reduceAdd, Nat.reduceEqDiff, decide_eq_true_eq, decide_eq_false_iff_not, Bool.not_eq_true', Bool.not_eq_false', Bool.and_eq_true, Bool.or_eq_true, Bool.and_eq_false_iff, Bool.or_eq_false_iff, Bool.cond_true_left, Bool.cond_false_right, Bool.cond_true_right, Bool.cond_false_left, Bool.or_false, Bool.and_true]
  · simp only [go_sem, reduceIte, Nat.reduceBEq, Nat.reduceMul, reduceCtorEq, Nat.reduceAdd, Nat.reduceEqDiff, decide_eq_true_eq, decide_eq_false_iff_not, Bool.not_eq_true', Bool.not_eq_false', Bool.and_eq_true, Bool.or_eq_true, Bool.and_eq_false_iff, Bool.or_eq_false_iff, Bool.cond_true_left, Bool.cond_false_right, Bool.cond_true_right, Bool.cond_false_left, Bool.or_false, Bool.and_true]
  clear hV V
  have hg : gotI d m = min (max (atL (nMatch d) (mFrom m)) (mIndex m)) (last d) := rfl
  have hb : backI d m = max (max 1 (atL (nMatch d) (mFrom m) + 1)) (min (atL (nNext d) (mFrom m) - 1) (mIndex m + 1)) := rfl
  simp only [okAt, okS] at hat
  generalize atL (nMatch d) (mFrom m) = ma at *
  generalize atL (nNext d) (mFrom m) = ne at *
  simp (maxSteps := 10000000) only [c74_36, go_sem, reduceIte, Nat.reduceBEq, Nat.reduceMul, reduceCtorEq, Nat.reduceAdd, Nat.reduceEqDiff, decide_eq_true_eq, decide_eq_false_iff_not, Bool.not_eq_true', Bool.not_eq_false', Bool.and_eq_true, Bool.or_eq_true, Bool.and_eq_false_iff, Bool.or_eq_false_iff, Bool.cond_true_left, Bool.cond_false_right, Bool.cond_true_right, Bool.cond_false_left, Bool.or_false, Bool.and_true, inR]
  simp only [mkPr]
  generalize hV : vc _ (C.cut c74_60) _ = V
  have hI : mIndex m = m.2.2.2.2.1 := rfl
  refine ⟨fun hy => ?_, fun hy => ?_⟩
  · generalize hq : mkN _ _ _ _ _ _ _ _ _ _ _ _ (putL _ _ (max _ _)) _ _ = q
    have eq : q = back1 d m := by
      rw [← hq]
      show setNext d (putL (nNext d) (mFrom m) (max (max 1 (ma + 1)) (min (ne - 1) (mIndex m + 1)))) = back1 d m
      unfold back1; rw [hb]
    clear hq
    subst eq
    have hy' : ¬ mYes m = true := by rw [show mYes m = false from hy]; decide
    rw [if_neg hy', if_neg hy']
    refine ⟨by omega, by omega, by omega, hrd.2.2.2.2.2.2.2.1, ⟨rgN_setNext hrd (putL_len ..), ?_⟩, by rfl, rfl, rfl⟩
    unfold nextOk
    have hnx : nNext (back1 d m) = putL (nNext d) (mFrom m) (backI d m) := rfl
    rw [hnx]
    show -4398046511104 ≤ atL (putL (nNext d) (mFrom m) (backI d m)) (mFrom m) ∧ atL (putL (nNext d) (mFrom m) (backI d m)) (mFrom m) ≤ 4398046511104
    rcases atL_put (nNext d) (mFrom m) (backI d m) with h | h
    · rw [h]; omega
    · rw [h]; decide
  rw [if_pos (show mYes m = true from hy), if_pos (show mYes m = true from hy)] at hV
  refine cut_at hV ⟨[(2, .ptr 2 0), (3, .ptr 3 0), (4, .ptr 4 0), (6, .int .i64 ma), (8, .int .i64 (last d))], [(2, .box (cellsA tNode d [])), (3, .box (cellsA tMsg m [])), (4, .box zN)]⟩ ?_ (Ent_of [(2, 2), (3, 3), (4, 4)] rfl ?_ ?_)
  rotate_left
  · simp only [go_sem, reduceIte, Nat.reduceBEq, Nat.reduceMul, reduceCtorEq, Nat.reduceAdd, Nat.reduceEqDiff, decide_eq_true_eq, decide_eq_false_iff_not, Bool.not_eq_true', Bool.not_eq_false', Bool.and_eq_true, Bool.or_eq_true, Bool.and_eq_false_iff, Bool.or_eq_false_iff, Bool.cond_true_left, Bool.cond_false_right, Bool.cond_true_right, Bool.cond_false_left, Bool.or_false, Bool.and_true]
  · simp only [go_sem, reduceIte, Nat.reduceBEq, Nat.reduceMul, reduceCtorEq, Nat.reduceAdd, Nat.reduceEqDiff, decide_eq_true_eq, decide_eq_false_iff_not, Bool.not_eq_true', Bool.not_eq_false', Bool.and_eq_true, Bool.or_eq_true, Bool.and_eq_false_iff, Bool.or_eq_false_iff, Bool.cond_true_left, Bool.cond_false_right, Bool.cond_true_right, Bool.cond_false_left, Bool.or_false, Bool.and_true]
  clear hV V
  have hg' : min (max ma m.2.2.2.2.1) (last d) = gotI d m := hg.symm
  simp (maxSteps := 10000000) only [c74_60, go_sem, reduceIte, Nat.reduceBEq, Nat.reduceMul, reduceCtorEq, Nat.reduceAdd, Nat.reduceEqDiff, decide_eq_true_eq, decide_eq_false_iff_not, Bool.not_eq_true', Bool.not_eq_false', Bool.and_eq_true, Bool.or_eq_true, Bool.and_eq_false_iff, Bool.or_eq_false_iff, Bool.cond_true_left, Bool.cond_false_right, Bool.cond_true_right, Bool.cond_false_left, Bool.or_false, Bool.and_true, inR, hg']
  simp only [mkPr]
  generalize hq : mkN _ _ _ _ _ _ _ _ _ _ _ _ (putL _ _ _) (putL _ _ _) _ = q
  have eq : q = setNext (setMatch d (putL (nMatch d) (mFrom m) (gotI d m))) (putL (nNext d) (mFrom m) (gotI d m + 1)) := by rw [← hq]; rfl
  have ea : adv q = got1 d m := by rw [eq]; rfl
  have hrq : rgN q := by
    rw [eq]
    exact rgN_setNext (rgN_setMatch hrd (putL_len ..)) (putL_len ..)
  have hnq : nNext (adv q) = putL (nNext d) (mFrom m) (gotI d m + 1) := by rw [adv_next, eq]; rfl
  clear hq eq
  simp only [ea] at hnq ⊢
  have hra : rgN (got1 d m) := by rw [← ea]; exact rgN_adv hrq
  refine ⟨hrd.2.2.2.2.2.2.2.2, by omega, hrd.2.2.2.2.2.2.2.1, by rfl, hrq, by omega, fun hc => ⟨⟨hra, ?_⟩, by rfl, trivial, (if_pos hc).symm⟩, fun hc => ⟨trivial, (if_neg hc).symm⟩⟩
  unfold nextOk
  rw [hnq]
  show -4398046511104 ≤ atL (putL (nNext d) (mFrom m) (gotI d m + 1)) (mFrom m) ∧ atL (putL (nNext d) (mFrom m) (gotI d m + 1)) (mFrom m) ≤ 4398046511104
  rcases atL_put (nNext d) (mFrom m) (gotI d m + 1) with h | h
  · rw [h]; omega
  · rw [h]; decide
end Go.AM
