import Derived.Test.YtbcbgfkojmligaaHK
import Derived.Test.YtbcbgfkojmligaaTL
/- What functions of the program answer, each under the conditions that its contract names. -/
set_option linter.unusedVariables false
set_option linter.unusedSimpArgs false
set_option maxRecDepth 100000
set_option maxHeartbeats 8000000
set_option linter.unusedSimpArgs false
namespace Go.AM
open Go.Proofs
attribute [local congr] vc_congr evOps_congr evTab_congr bind_congr condK_congr tabK_congr
def fn57 : Fn := { a := .unit, r := .pair .bool .unit, pre := fun _ => True, f := fun _ => (true, ()) }
theorem h57  : Holds Try.prog 57 (fn57) := by
  refine Holds.of_vc (T := [(31, fn31), (67, fn67)]) (TT := ttL) (rowAt := []) (c := c57) (ros := [.t 0]) (.cons _ h31 (.cons _ h67 (.nil _))) mixed Try.func57 (by decide +kernel) (by rfl) comp57 (by kernel_rfl) rfl rfl (fun h => by cases h) ?_
  rintro _ hpre
  simp only [fn57] at hpre ⊢
  simp only [c57, fn31, fn67, go_sem, reduceIte, Nat.reduceBEq, Nat.reduceMul, reduceCtorEq, Nat.reduceAdd, Nat.reduceEqDiff, decide_eq_true_eq, decide_eq_false_iff_not, Bool.not_eq_true', Bool.not_eq_false', Bool.and_eq_true, Bool.or_eq_true, Bool.and_eq_false_iff, Bool.or_eq_false_iff, Bool.cond_true_left, Bool.cond_false_right, Bool.cond_true_right, Bool.cond_false_left, Bool.or_false, Bool.and_true, inR]
  have f1 : rgL (newN 0 1) := by
    simp only [rgL, rgN, sm]
    decide
  have f2 : rgL (newN 1 3) := by
    simp only [rgL, rgN, sm]
    decide
  have f3 : (lead1 (newN 0 1)).2.2.2.2.2.2.2.2.1 = 2 := by rfl
  have f4 : (lead1 (newN 0 1)).2.2.2.2.2.2.2.2.2.2.1 = 1 := by rfl
  have f5 : (lead2 (newN 0 1)).length = 0 := by rfl
  have f6 : (lead1 (newN 1 3)).2.2.2.2.2.2.2.2.2.2.1 = 0 := by rfl
  have f7 : (lead2 (newN 1 3)).length = 2 := by rfl
  have f8 : ((lead2 (newN 1 3)).getD 0 (dflt tMsg)).1 = 3 := by rfl
  have f9 : ((lead2 (newN 1 3)).getD 0 (dflt tMsg)).2.2.2.2.2.2.2.2.1.length = 1 := by rfl
  simp only [f3, f4, f5, f6, f7, f8, f9]
  exact ⟨f1, f2, by decide⟩
end Go.AM

set_option maxRecDepth 100000
set_option maxHeartbeats 8000000
set_option linter.unusedSimpArgs false
namespace Go.AM
open Go.Proofs
attribute [local congr] vc_congr evOps_congr evTab_congr bind_congr condK_congr tabK_congr
def keepLog (n : Node) (m : Msg) : List E := if termOk n (mIndex m) = true ∧ termV n (mIndex m) = mAt m then behindN n (mIndex m) else []
def inst1 (n : Node) (m : Msg) : Node := if mIndex m ≤ nCommit n then n else
  mkN (nId n) (nNodes n) (nTerm n) (nVote n) (mIndex m) (mAt m) (mSnap m) (keepLog n m) (nRole n) (nLead n) (mIndex m) (nVotes n) (nNext n) (nMatch n) (nClock n)
def inst2 (n : Node) (m : Msg) : List Msg := takenM n m true (max (mIndex m) (nCommit n))
def okIdx (i : Int) : Prop := -4398046511104 ≤ i ∧ i ≤ 4398046511104
def fn107 : Fn := { a := .pair tNode (.pair tMsg .unit), r := .pair tNode (.pair (.list tMsg) .unit), pre := fun x => rgN x.1 ∧ okIdx (mIndex x.2.1), f := fun x => (inst1 x.1 x.2.1, inst2 x.1 x.2.1, ()) }
theorem h107  : Holds Try.prog 107 (fn107) := by
  refine Holds.of_vc (T := [(106, fn106), (48, fn48), (53, fn53), (105, fn105)]) (TT := ttL) (rowAt := []) (c := c107) (ros := [.c 4 15, .t 5]) (.cons _ h106 (.cons _ h48 (.cons _ h53 (.cons _ h105 (.nil _))))) mixed Try.func107 (by decide +kernel) (by rfl) comp107 (by kernel_rfl) rfl rfl (fun h => by cases h) ?_
  rintro ⟨(n : Node), (m : Msg), _⟩ hpre
  simp only [fn107] at hpre ⊢
  simp only [c107, fn106, fn48, fn53, fn105, go_sem, reduceIte, Nat.reduceBEq, Nat.reduceMul, reduceCtorEq, Nat.reduceAdd, Nat.reduceEqDiff, decide_eq_true_eq, decide_eq_false_iff_not, Bool.not_eq_true', Bool.not_eq_false', Bool.and_eq_true, Bool.or_eq_true, Bool.and_eq_false_iff, Bool.or_eq_false_iff, Bool.cond_true_left, Bool.cond_false_right, Bool.cond_true_right, Bool.cond_false_left, Bool.or_false, Bool.and_true, inR, fn48]
  simp only [mkPr]
  simp only [rgN, okIdx, sm] at hpre
  have hl : last n = nBase n + (nLog n).length := rfl
  have hB : (behindN n (mIndex m)).length ≤ (nLog n).length := by unfold behindN; rw [List.length_drop]; omega
  have hC : nCommit n = n.2.2.2.2.2.2.2.2.2.2.1 := rfl
  have hI : mIndex m = m.2.2.2.2.1 := rfl
  refine ⟨fun h => ⟨by rfl, (if_pos h).symm, ?_⟩, fun h => ⟨⟨by omega, by omega, by omega⟩, fun hk => ⟨by omega, ?_, by rfl, by rfl, ?_, ?_⟩, fun hk => ⟨by rfl, by rfl, ?_, ?_⟩⟩⟩
  · unfold inst2; rw [show max (mIndex m) (nCommit n) = nCommit n by omega]
  · rw [sm]; have : (behindN n m.2.2.2.2.1).length ≤ _ := hB; omega
  · have e : keepLog n m = behindN n (mIndex m) := if_pos hk
    unfold inst1; rw [if_neg h, e]
  · show takenM n m true (mIndex m) = _
    unfold inst2; rw [show max (mIndex m) (nCommit n) = mIndex m by omega]
  · have e : keepLog n m = [] := if_neg fun hc => by
      rcases hk with hk | hk
      · rw [show termOk n m.2.2.2.2.1 = true from hc.1] at hk; cases hk
      · exact hk hc.2
    unfold inst1; rw [if_neg h, e]
  · show takenM n m true (mIndex m) = _
    unfold inst2; rw [show max (mIndex m) (nCommit n) = mIndex m by omega]
def foll (n : Node) (m : Msg) : Node := mkN (nId n) (nNodes n) (nTerm n) (nVote n) (nBase n) (nBT n) (nSnap n) (nLog n) 0 (mFrom m) (nCommit n) (nVotes n) (nNext n) (nMatch n) 0
def putC (e : Node) (m : Msg) : Node := setCommit (put e (mIndex m) (mEntries m)) (max (nCommit (put e (mIndex m) (mEntries m))) (min (mCommit m) (mIndex m + (mEntries m).length)))
def take1' (d : Node) (m : Msg) : Node :=
  if mTerm m < nTerm d then d
  else if mKind m = 5 then inst1 (foll d m) m
  else if mIndex m < nBase d ∨ last d < mIndex m ∨ termV d (mIndex m) ≠ mAt m then foll d m
  else putC (foll d m) m
def take2' (d : Node) (m : Msg) : List Msg :=
  if mTerm m < nTerm d then takenM d m false (last d)
  else if mKind m = 5 then inst2 (foll d m) m
  else if mIndex m < nBase d then takenM (foll d m) m true (nBase d)
  else if last d < mIndex m ∨ termV d (mIndex m) ≠ mAt m then takenM (foll d m) m false (max 0 (min (last d) (mIndex m - 1)))
  else takenM (putC (foll d m) m) m true (mIndex m + (mEntries m).length)
def take1 (n : Node) (m : Msg) : Node := take1' (down n (mTerm m)) m
def take2 (n : Node) (m : Msg) : List Msg := take2' (down n (mTerm m)) m
theorem rgN_down {n : Node} {t : Int} (h : rgN n) : rgN (down n t) := by
  unfold down; split
  · exact h
  · exact h
def fn65 : Fn := { a := .pair tNode (.pair tMsg .unit), r := .pair tNode (.pair (.list tMsg) .unit), pre := fun x => rgN x.1 ∧ okIdx (mIndex x.2.1) ∧ smallL (mEntries x.2.1), f := fun x => (take1 x.1 x.2.1, take2 x.1 x.2.1, ()) }
theorem h65  : Holds Try.prog 65 (fn65) := by
  refine Holds.of_vc (T := [(32, fn32), (52, fn52), (106, fn106), (107, fn107), (48, fn48), (34, fn34)]) (TT := ttL) (rowAt := []) (c := c65) (ros := [.c 4 15, .t 5]) (.cons _ h32 (.cons _ h52 (.cons _ h106 (.cons _ h107 (.cons _ h48 (.cons _ h34 (.nil _))))))) mixed Try.func65 (by decide +kernel) (by rfl) comp65 (by kernel_rfl) rfl rfl (fun h => by cases h) ?_
  rintro ⟨(n : Node), (m : Msg), _⟩ hpre
  simp only [fn65] at hpre ⊢
  simp only [c65, fn32, fn52, fn106, fn107, fn48, fn34, go_sem, reduceIte, Nat.reduceBEq, Nat.reduceMul, reduceCtorEq, Nat.reduceAdd, Nat.reduceEqDiff, decide_eq_true_eq, decide_eq_false_iff_not, Bool.not_eq_true', Bool.not_eq_false', Bool.and_eq_true, Bool.or_eq_true, Bool.and_eq_false_iff, Bool.or_eq_false_iff, Bool.cond_true_left, Bool.cond_false_right, Bool.cond_true_right, Bool.cond_false_left, Bool.or_false, Bool.and_true, inR, fn48]
  simp only [mkPr]
  have hrd := rgN_down (t := mTerm m) hpre.1
  simp only [take1, take2]
  generalize hd : down n m.2.2.2.1 = d at *
  have hd2 : down n (mTerm m) = d := hd
  rw [hd2] at *
  have ef : mkN d.1 d.2.1 d.2.2.1 d.2.2.2.1 d.2.2.2.2.1 d.2.2.2.2.2.1 d.2.2.2.2.2.2.1 d.2.2.2.2.2.2.2.1 0 m.2.1 d.2.2.2.2.2.2.2.2.2.2.1 d.2.2.2.2.2.2.2.2.2.2.2.1 d.2.2.2.2.2.2.2.2.2.2.2.2.1 d.2.2.2.2.2.2.2.2.2.2.2.2.2.1 0 = foll d m := rfl
  simp only [ef]
  have hrf : rgN (foll d m) := hrd
  have hL : last (foll d m) = last d := rfl
  have hBf : nBase (foll d m) = nBase d := rfl
  have hTV : ∀ i, termV (foll d m) i = termV d i := fun _ => rfl
  have hTO : ∀ i, termOk (foll d m) i = decide (nBase d ≤ i ∧ i ≤ last d) := fun _ => rfl
  have hI : mIndex m = m.2.2.2.2.1 := rfl
  have hT : mTerm m = m.2.2.2.1 := rfl
  simp only [hL, hBf, hTV, hTO]
  have hR := hrd
  simp only [rgN, okIdx, sm] at hR hpre
  have hl : last d = nBase d + (nLog d).length := rfl
  have hBd : nBase d = d.2.2.2.2.1 := rfl
  have hEn : (mEntries m).length = m.2.2.2.2.2.2.2.2.1.length := rfl
  refine ⟨by omega, fun h => ⟨by rfl, (if_pos h).symm, (if_pos h).symm⟩, fun h => ⟨by rfl, fun h5 => ⟨⟨hrf, hpre.2.1⟩, ?_, ?_⟩, fun h5 => ⟨⟨by omega, by omega, by omega⟩, fun hb => ⟨by rfl, ?_, ?_⟩, fun hb => ⟨fun hc => ⟨by omega, by rfl, ?_, ?_⟩, fun hc => ⟨⟨hR.2.2.2.2.1, hpre.2.2, by omega, by omega⟩, by omega, by rfl, ?_, ?_⟩⟩⟩⟩⟩
  · unfold take1'; rw [if_neg h, if_pos h5]
  · unfold take2'; rw [if_neg h, if_pos h5]
  · unfold take1'; rw [if_neg h, if_neg h5, if_pos (.inl hb)]
  · unfold take2'; rw [if_neg h, if_neg h5, if_pos hb]
  · have hc' : last d < mIndex m ∨ termV d (mIndex m) ≠ mAt m := by
      rcases hc with (hc | hc) | hc
      · exact .inl hc
      · rw [decide_eq_false_iff_not] at hc; left; omega
      · exact .inr hc
    unfold take1'; rw [if_neg h, if_neg h5, if_pos (.inr hc')]
  · have hc' : last d < mIndex m ∨ termV d (mIndex m) ≠ mAt m := by
      rcases hc with (hc | hc) | hc
      · exact .inl hc
      · rw [decide_eq_false_iff_not] at hc; left; omega
      · exact .inr hc
    unfold take2'; rw [if_neg h, if_neg h5, if_neg hb, if_pos hc']
  · have hc' : ¬ (mIndex m < nBase d ∨ last d < mIndex m ∨ termV d (mIndex m) ≠ mAt m) := by
      rintro (hx | hx | hx)
      · exact hb hx
      · exact hc.1.1 hx
      · exact hx hc.2
    unfold take1'; rw [if_neg h, if_neg h5, if_neg hc']; rfl
  · have hc' : ¬ (last d < mIndex m ∨ termV d (mIndex m) ≠ mAt m) := by
      rintro (hx | hx)
      · exact hc.1.1 hx
      · exact hx hc.2
    unfold take2'; rw [if_neg h, if_neg h5, if_neg hb, if_neg hc']; rfl
end Go.AM
