import Derived.Test.YtbcbgfkojmligaaHX
import Derived.Test.YtbcbgfkojmligaaTY
/- What functions of the program answer, each under the conditions that its contract names. -/
set_option linter.unusedVariables false
set_option linter.unusedSimpArgs false
set_option maxRecDepth 100000
set_option maxHeartbeats 40000000
set_option linter.unusedSimpArgs false
namespace Go.AM
open Go.Proofs
attribute [local congr] vc_congr evOps_congr evTab_congr bind_congr condK_congr tabK_congr
def fn123 : Fn := { a := .pair tI .unit, r := .pair .bool .unit, pre := fun _ => True, f := fun x => (inB x.1 0 1099511627776, ()) }
theorem h123  : Holds Try.prog 123 (fn123) := by
  refine Holds.of_vc (T := []) (TT := ttL) (rowAt := []) (c := c123) (ros := [.t 2]) (.nil _) mixed Try.func123 (by decide +kernel) (by rfl) comp123 (by kernel_rfl) rfl rfl (fun h => by cases h) ?_
  rintro ⟨(v : Int), _⟩ hpre
  simp only [fn123] at hpre ⊢
  simp only [c123, go_sem, reduceIte, Nat.reduceBEq, Nat.reduceMul, reduceCtorEq, Nat.reduceAdd, Nat.reduceEqDiff, decide_eq_true_eq, decide_eq_false_iff_not, Bool.not_eq_true', Bool.not_eq_false', Bool.and_eq_true, Bool.or_eq_true, Bool.and_eq_false_iff, Bool.or_eq_false_iff, Bool.cond_true_left, Bool.cond_false_right, Bool.cond_true_right, Bool.cond_false_left, Bool.or_false, Bool.and_true, inR, inB]
theorem inBI {v a b : Int} : inB v a b = true ↔ a ≤ v ∧ v ≤ b := by simp [inB]
theorem rightB_iff {m : Msg} {nodes : Int} : rightB m nodes = true ↔ ((1 ≤ mKind m ∧ mKind m ≤ 5) ∧ mFrom m ≠ mTo m ∧ (0 ≤ mFrom m ∧ mFrom m ≤ nodes - 1) ∧ (0 ≤ mTo m ∧ mTo m ≤ nodes - 1) ∧ (1 ≤ mTerm m ∧ mTerm m ≤ 1099511627776) ∧ (0 ≤ mIndex m ∧ mIndex m ≤ 1099511627776) ∧ (0 ≤ mAt m ∧ mAt m ≤ 1099511627776) ∧ (0 ≤ mCommit m ∧ mCommit m ≤ 1099511627776) ∧ ((mEntries m).length : Int) ≤ 20 ∧ ∀ e ∈ mEntries m, 0 ≤ e.1 ∧ e.1 ≤ mTerm m) := by
  unfold rightB
  simp only [Bool.and_eq_true, inBI, decide_eq_true_eq, Bool.not_eq_true', decide_eq_false_iff_not, List.any_eq_false, Bool.not_eq_true, Bool.not_eq_false', and_assoc, ne_eq]
  have : ∀ b : Bool, (¬ b = false) = (b = true) := by decide
  simp only [this, inBI]
def fn85 : Fn := { a := .pair tMsg (.pair tI .unit), r := .pair .bool .unit, pre := fun x => smallL (mEntries x.1), f := fun x => (rightB x.1 x.2.1, ()) }
theorem h85  : Holds Try.prog 85 (fn85) := by
  refine Holds.of_vcc (T := [(123, fn123)]) (TT := ttL) (rowAt := []) (c := c85) (ros := [.t 4]) (.cons _ h123 (.nil _)) mixed Try.func85 (by decide +kernel) (by rfl) comp85 (by kernel_rfl) rfl rfl (fun h => by cases h) ?_
  rintro ⟨(m : Msg), (nodes : Int), _⟩ hpre
  simp only [fn85] at hpre ⊢
  simp (maxSteps := 10000000) only [c85, fn123, go_sem, reduceIte, Nat.reduceBEq, Nat.reduceMul, reduceCtorEq, Nat.reduceAdd, Nat.reduceEqDiff, decide_eq_true_eq, decide_eq_false_iff_not, Bool.not_eq_true', Bool.not_eq_false', Bool.and_eq_true, Bool.or_eq_true, Bool.and_eq_false_iff, Bool.or_eq_false_iff, Bool.cond_true_left, Bool.cond_false_right, Bool.cond_true_right, Bool.cond_false_left, Bool.or_false, Bool.and_true, inR]
  generalize hV : vc _ (C.cut c85_5) _ = V
  refine ⟨fun h => ?_, fun h => ?_⟩
  · cases hr : rightB m nodes with
    | false => rfl
    | true =>
      obtain ⟨⟨a1, a2⟩, a3, ⟨a4, a5⟩, ⟨a6, a7⟩, ⟨a8, a9⟩, a10, a11, a12, a13, _⟩ := rightB_iff.1 hr
      have i1 : inB (mTerm m) 0 1099511627776 = true := inBI.2 ⟨by omega, a9⟩
      have i2 : inB (mIndex m) 0 1099511627776 = true := inBI.2 a10
      have i3 : inB (mAt m) 0 1099511627776 = true := inBI.2 a11
      have i4 : inB (mCommit m) 0 1099511627776 = true := inBI.2 a12
      rw [i1, i2, i3, i4] at h
      exfalso
      clear i1 i2 i3 i4
      simp only [or_false, Bool.true_eq_false] at h
      have b1 : ¬ mKind m < 1 := by omega
      have b2 : ¬ 5 < mKind m := by omega
      have b4 : ¬ mFrom m < 0 := by omega
      have b5 : ¬ mTo m < 0 := by omega
      have b6 : ¬ nodes ≤ mFrom m := by omega
      have b7 : ¬ nodes ≤ mTo m := by omega
      have b8 : ¬ mTerm m < 1 := by omega
      have b9 : ¬ 20 < ((mEntries m).length : Int) := by omega
      rcases h with (((((((h | h) | h) | h) | h) | h) | h) | h) | h
      · exact b1 h
      · exact b2 h
      · exact a3 h
      · exact b4 h
      · exact b5 h
      · exact b6 h
      · exact b7 h
      · exact b8 h
      · exact b9 h
  obtain ⟨⟨⟨⟨⟨⟨⟨⟨⟨⟨⟨⟨g1, g2⟩, g3⟩, g4⟩, g5⟩, g6⟩, g7⟩, g8⟩, g9⟩, g10⟩, g11⟩, g12⟩, g13⟩ := h
  have hall : rightB m nodes = true ↔ ∀ e ∈ mEntries m, 0 ≤ e.1 ∧ e.1 ≤ mTerm m := by
    rw [rightB_iff]
    have j1 := inBI.1 g9
    have j2 := inBI.1 g10
    have j3 := inBI.1 g11
    have j4 := inBI.1 g12
    constructor
    · intro h; exact h.2.2.2.2.2.2.2.2.2
    · intro h
      have c1 : 1 ≤ mKind m := by have : ¬ mKind m < 1 := g1; omega
      have c2 : mKind m ≤ 5 := by have : ¬ 5 < mKind m := g2; omega
      have c4 : 0 ≤ mFrom m := by have : ¬ mFrom m < 0 := g4; omega
      have c5 : 0 ≤ mTo m := by have : ¬ mTo m < 0 := g5; omega
      have c6 : mFrom m ≤ nodes - 1 := by have : ¬ nodes ≤ mFrom m := g6; omega
      have c7 : mTo m ≤ nodes - 1 := by have : ¬ nodes ≤ mTo m := g7; omega
      have c8 : 1 ≤ mTerm m := by have : ¬ mTerm m < 1 := g8; omega
      have c9 : ((mEntries m).length : Int) ≤ 20 := by have : ¬ 20 < ((mEntries m).length : Int) := g13; omega
      exact ⟨⟨c1, c2⟩, g3, ⟨c4, c6⟩, ⟨c5, c7⟩, ⟨c8, j1.2⟩, j2, j3, j4, c9, h⟩
  clear g1 g2 g3 g4 g5 g6 g7 g8 g9 g10 g11 g12 g13
  generalize hb : rightB m nodes = b at *
  refine cut_at hV ⟨[(2, .ptr 2 0)], [(2, .box (cellsA tMsg m []))]⟩ ?_ (Ent_of [(2, 2)] rfl ?_ ?_)
  rotate_left
  · simp only [go_sem, reduceIte, Nat.reduceBEq, Nat.reduceMul, reduceCtorEq, Nat.reduceAdd, Nat.reduceEqDiff, decide_eq_true_eq, decide_eq_false_iff_not, Bool.not_eq_true', Bool.not_eq_false', Bool.and_eq_true, Bool.or_eq_true, Bool.and_eq_false_iff, Bool.or_eq_false_iff, Bool.cond_true_left, Bool.cond_false_right, Bool.cond_true_right, Bool.cond_false_left, Bool.or_false, Bool.and_true]
  · simp only [go_sem, reduceIte, Nat.reduceBEq, Nat.reduceMul, reduceCtorEq, Nat.reduceAdd, Nat.reduceEqDiff, decide_eq_true_eq, decide_eq_false_iff_not, Bool.not_eq_true', Bool.not_eq_false', Bool.and_eq_true, Bool.or_eq_true, Bool.and_eq_false_iff, Bool.or_eq_false_iff, Bool.cond_true_left, Bool.cond_false_right, Bool.cond_true_right, Bool.cond_false_left, Bool.or_false, Bool.and_true]
  clear hV V
  simp only [c85_5, go_sem, reduceIte, Nat.reduceBEq, Nat.reduceMul, reduceCtorEq, Nat.reduceAdd, Nat.reduceEqDiff, decide_eq_true_eq, decide_eq_false_iff_not, Bool.not_eq_true', Bool.not_eq_false', Bool.and_eq_true, Bool.or_eq_true, Bool.and_eq_false_iff, Bool.or_eq_false_iff, Bool.cond_true_left, Bool.cond_false_right, Bool.cond_true_right, Bool.cond_false_left, Bool.or_false, Bool.and_true, inR]
  refine loop_rule (β := Nat) (fun i => ⟨[(2, .ptr 2 0), (5, .int .i64 i)], [(2, .box (cellsA tMsg m []))]⟩) (fun i => i ≤ (mEntries m).length ∧ ∀ e ∈ (mEntries m).take i, 0 ≤ e.1 ∧ e.1 ≤ mTerm m) (fun i => (mEntries m).length - i) 0 ?_ ?_ ?_
  · refine Ent_of [(2, 2)] rfl ?_ ?_
    · simp only [go_sem, reduceIte, Nat.reduceBEq, Nat.reduceMul, reduceCtorEq, Nat.reduceAdd, Nat.reduceEqDiff, decide_eq_true_eq, decide_eq_false_iff_not, Bool.not_eq_true', Bool.not_eq_false', Bool.and_eq_true, Bool.or_eq_true, Bool.and_eq_false_iff, Bool.or_eq_false_iff, Bool.cond_true_left, Bool.cond_false_right, Bool.cond_true_right, Bool.cond_false_left, Bool.or_false, Bool.and_true]
    · simp only [go_sem, reduceIte, Nat.reduceBEq, Nat.reduceMul, reduceCtorEq, Nat.reduceAdd, Nat.reduceEqDiff, decide_eq_true_eq, decide_eq_false_iff_not, Bool.not_eq_true', Bool.not_eq_false', Bool.and_eq_true, Bool.or_eq_true, Bool.and_eq_false_iff, Bool.or_eq_false_iff, Bool.cond_true_left, Bool.cond_false_right, Bool.cond_true_right, Bool.cond_false_left, Bool.or_false, Bool.and_true]
      rfl
  · exact ⟨Nat.zero_le _, fun e he => by simp at he⟩
  rintro i ⟨hi, hpx⟩
  simp only [go_sem, reduceIte, Nat.reduceBEq, Nat.reduceMul, reduceCtorEq, Nat.reduceAdd, Nat.reduceEqDiff, decide_eq_true_eq, decide_eq_false_iff_not, Bool.not_eq_true', Bool.not_eq_false', Bool.and_eq_true, Bool.or_eq_true, Bool.and_eq_false_iff, Bool.or_eq_false_iff, Bool.cond_true_left, Bool.cond_false_right, Bool.cond_true_right, Bool.cond_false_left, Bool.or_false, Bool.and_true, inR]
  have hgd : ∀ h : i < (mEntries m).length, (mEntries m).getD i (dflt tEntry) = (mEntries m)[i] := fun h => by rw [List.getD_eq_getElem?_getD, List.getElem?_eq_getElem h]; rfl
  have hsm : (mEntries m).length ≤ 1048576 := hpre
  have hlen : (mEntries m).length = m.2.2.2.2.2.2.2.2.1.length := rfl
  have hgd2 : List.getD m.2.2.2.2.2.2.2.2.1 i (dflt tEntry) = (mEntries m).getD i (dflt tEntry) := rfl
  simp only [hgd2]
  refine ⟨fun h => ?_, fun h => ?_⟩
  · have hil : i < (mEntries m).length := by omega
    rw [hgd hil]
    generalize he : (mEntries m)[i] = e
    have hmem : e ∈ mEntries m := by rw [← he]; exact List.getElem_mem hil
    refine ⟨by omega, fun _ => by omega, by decide +kernel, fun hbad => ?_, fun hok => ⟨by omega, Again.intro (i + 1) (Ent_of [(2, 2)] rfl ?_ ?_) ?_ (show (mEntries m).length - (i + 1) < (mEntries m).length - i by omega)⟩⟩
    · cases b with
      | false => rfl
      | true =>
        have := hall.1 rfl e hmem
        exfalso
        exact hbad.elim (Int.not_lt.2 this.1) (Int.not_lt.2 this.2)
    · simp only [go_sem, reduceIte, Nat.reduceBEq, Nat.reduceMul, reduceCtorEq, Nat.reduceAdd, Nat.reduceEqDiff, decide_eq_true_eq, decide_eq_false_iff_not, Bool.not_eq_true', Bool.not_eq_false', Bool.and_eq_true, Bool.or_eq_true, Bool.and_eq_false_iff, Bool.or_eq_false_iff, Bool.cond_true_left, Bool.cond_false_right, Bool.cond_true_right, Bool.cond_false_left, Bool.or_false, Bool.and_true]
    · simp only [go_sem, reduceIte, Nat.reduceBEq, Nat.reduceMul, reduceCtorEq, Nat.reduceAdd, Nat.reduceEqDiff, decide_eq_true_eq, decide_eq_false_iff_not, Bool.not_eq_true', Bool.not_eq_false', Bool.and_eq_true, Bool.or_eq_true, Bool.and_eq_false_iff, Bool.or_eq_false_iff, Bool.cond_true_left, Bool.cond_false_right, Bool.cond_true_right, Bool.cond_false_left, Bool.or_false, Bool.and_true]
      rfl
    · refine ⟨by omega, fun x hx => ?_⟩
      rw [List.take_add_one, List.getElem?_eq_getElem hil, he] at hx
      rcases List.mem_append.1 hx with hx | hx
      · exact hpx x hx
      · have hx : x = e := by simpa using hx
        subst hx
        exact ⟨Int.not_lt.1 hok.1, Int.not_lt.1 hok.2⟩
  · have hi2 : i = (mEntries m).length := by omega
    subst hi2
    rw [List.take_length] at hpx
    exact (hall.2 hpx).symm
end Go.AM
