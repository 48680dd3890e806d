import Derived.Test.YtbcbgfkojmligaaHP
import Derived.Test.YtbcbgfkojmligaaTQ
/- What functions of the program answer, each under the conditions that its contract names. -/
set_option linter.unusedVariables false
set_option linter.unusedSimpArgs false
set_option maxRecDepth 100000
set_option maxHeartbeats 8000000
set_option linter.unusedSimpArgs false
namespace Go.AM
open Go.Proofs
attribute [local congr] vc_congr evOps_congr evTab_congr bind_congr condK_congr tabK_congr
def takenTo (n : Node) (to : Int) (yes : Bool) (index : Int) : List Msg := [mkM 4 (nId n) to (nTerm n) index 0 yes 0 [] noB]
def fn114 : Fn := { a := .pair tNode (.pair tI (.pair .bool (.pair tI .unit))), r := .pair (.list tMsg) .unit, pre := fun _ => True, f := fun x => (takenTo x.1 x.2.1 x.2.2.1 x.2.2.2.1, ()) }
theorem h114  : Holds Try.prog 114 (fn114) := by
  refine Holds.of_vc (T := []) (TT := ttL) (rowAt := []) (c := c114) (ros := [.t 8]) (.nil _) mixed Try.func114 (by decide +kernel) (by rfl) comp114 (by kernel_rfl) rfl rfl (fun h => by cases h) ?_
  rintro ⟨(n : Node), (to : Int), (yes : Bool), (index : Int), _⟩ hpre
  simp only [fn114] at hpre ⊢
  simp only [c114, go_sem, reduceIte, Nat.reduceBEq, Nat.reduceMul, reduceCtorEq, Nat.reduceAdd, Nat.reduceEqDiff, decide_eq_true_eq, decide_eq_false_iff_not, Bool.not_eq_true', Bool.not_eq_false', Bool.and_eq_true, Bool.or_eq_true, Bool.and_eq_false_iff, Bool.or_eq_false_iff, Bool.cond_true_left, Bool.cond_false_right, Bool.cond_true_right, Bool.cond_false_left, Bool.or_false, Bool.and_true, inR]
  rfl
/-- a node as the reference takes it -/
def wfR (n : Node) : Prop := rgN n ∧ 1 ≤ nNodes n ∧ nNodes n ≤ 5 ∧ 0 ≤ nId n ∧ nId n < nNodes n ∧ (nNext n).length = (nNodes n).toNat ∧ (nMatch n).length = (nNodes n).toNat
def fn71 : Fn := { a := .pair tNode (.pair tI .unit), r := .pair tMsg .unit, pre := fun x => rgN x.1 ∧ nextOk x.1 x.2.1 ∧ 0 ≤ x.2.1 ∧ x.2.1 < ((nNext x.1).length : Int), f := fun x => (sendM x.1 x.2.1, ()) }
theorem h71  : Holds Try.prog 71 (fn71) := by
  refine Holds.of_vc (T := [(29, fn29), (60, fn60)]) (TT := ttL) (rowAt := []) (c := c71) (ros := [.c 4 10]) (.cons _ h29 (.cons _ h60 (.nil _))) mixed Try.func71 (by decide +kernel) (by rfl) comp71 (by kernel_rfl) rfl rfl (fun h => by cases h) ?_
  rintro ⟨(n : Node), (to : Int), _⟩ hpre
  simp only [fn71] at hpre ⊢
  simp only [c71, fn29, fn60, go_sem, reduceIte, Nat.reduceBEq, Nat.reduceMul, reduceCtorEq, Nat.reduceAdd, Nat.reduceEqDiff, decide_eq_true_eq, decide_eq_false_iff_not, Bool.not_eq_true', Bool.not_eq_false', Bool.and_eq_true, Bool.or_eq_true, Bool.and_eq_false_iff, Bool.or_eq_false_iff, Bool.cond_true_left, Bool.cond_false_right, Bool.cond_true_right, Bool.cond_false_left, Bool.or_false, Bool.and_true, inR, fn48]
  simp only [rgN, nextOk, sm] at hpre
  have hto : 0 ≤ to ∧ to < ((nNext n).length : Int) := hpre.2.2
  have hz : atL (nNext n) to = (nNext n).getD to.toNat (dflt tI) := if_neg (by omega)
  have hnk : -4398046511104 ≤ atL (nNext n) to ∧ atL (nNext n) to ≤ 4398046511104 := hpre.2.1
  unfold sendM
  rw [← hz]
  have h1 : -4398046511105 ≤ atL (nNext n) to - 1 ∧ atL (nNext n) to - 1 ≤ 4398046511104 := by omega
  generalize (atL (nNext n) to - 1 : Int) = z at *
  have hl : last n = nBase n + (nLog n).length := rfl
  have hBs : nBase n = n.2.2.2.2.1 := rfl
  have hxl : (nNext n).length = n.2.2.2.2.2.2.2.2.2.2.2.2.1.length := rfl
  have ht : List.take (min ((behindN n z).length : Int) 20).toNat (behindN n z) = List.take 20 (behindN n z) := by
    rcases Nat.lt_or_ge (behindN n z).length 20 with h | h
    · rw [List.take_of_length_le (by omega), List.take_of_length_le (by omega)]
    · rw [show (min ((behindN n z).length : Int) 20).toNat = 20 by omega]
  have hB : (behindN n z).length ≤ (nLog n).length := by unfold behindN; rw [List.length_drop]; omega
  have hs0 : smallL (nLog n) := by rw [sm]; omega
  refine ⟨by omega, by omega, fun h => (if_pos h).symm, fun h => ⟨⟨by omega, by omega, by omega⟩, ⟨by omega, by omega, hs0⟩, by omega, by rfl, ?_⟩⟩
  rw [Nat.sub_zero, ht]
  exact (if_neg h).symm
def fn72 : Fn := { a := .pair tNode .unit, r := .pair tNode .unit, pre := fun x => wfR x.1, f := fun x => (adv x.1, ()) }
theorem h72  : Holds Try.prog 72 (fn72) := by
  refine Holds.of_vc (T := [(30, fn30), (29, fn29), (45, fn45)]) (TT := ttL) (rowAt := []) (c := c72) (ros := [.c 2 15]) (.cons _ h30 (.cons _ h29 (.cons _ h45 (.nil _)))) mixed Try.func72 (by decide +kernel) (by rfl) comp72 (by kernel_rfl) rfl rfl (fun h => by cases h) ?_
  rintro ⟨(n : Node), _⟩ hpre
  simp only [fn72] at hpre ⊢
  simp only [c72, fn30, fn29, fn45, go_sem, reduceIte, Nat.reduceBEq, Nat.reduceMul, reduceCtorEq, Nat.reduceAdd, Nat.reduceEqDiff, decide_eq_true_eq, decide_eq_false_iff_not, Bool.not_eq_true', Bool.not_eq_false', Bool.and_eq_true, Bool.or_eq_true, Bool.and_eq_false_iff, Bool.or_eq_false_iff, Bool.cond_true_left, Bool.cond_false_right, Bool.cond_true_right, Bool.cond_false_left, Bool.or_false, Bool.and_true, inR, fn48, fn44]
  refine ⟨fun h => (if_neg h).symm, fun hr => ?_⟩
  have hadv : adv n = setCommit n (advC n (last n - nCommit n).toNat) := if_pos hr
  rw [hadv]
  clear hadv
  simp only [wfR, rgN, sm] at hpre
  refine ⟨by dsimp only [den, nId, nNodes, nTerm, nVote, nBase, nBT, nSnap, nLog, nRole, nLead, nCommit, nVotes, nNext, nMatch, nClock, mKind, mFrom, mTo, mTerm, mIndex, mAt, mYes, mCommit, mEntries, mSnap, eTerm, eCmd, mkN, mkM, mkE, last, inR, sm, lastT] at *; omega, ?_⟩
  refine loop_rule (β := Int) (fun i => ⟨[(1, .ptr 1 0), (2, .ptr 2 0), (3, .int .i64 i)], [(1, .box (cellsA tNode n [])), (2, .box zN)]⟩)
    (fun i => i ≤ last n ∧ (nCommit n ≤ i ∨ i = last n) ∧ advC n (last n - nCommit n).toNat = advC n (i - nCommit n).toNat) (fun i => (i - nCommit n).toNat) (last n) ?_ ?_ ?_
  · refine Ent_of [(1, 1), (2, 2)] rfl ?_ ?_
    · simp only [go_sem, reduceIte, Nat.reduceBEq, Nat.reduceMul, reduceCtorEq, Nat.reduceAdd, Nat.reduceEqDiff, decide_eq_true_eq, decide_eq_false_iff_not, Bool.not_eq_true', Bool.not_eq_false', Bool.and_eq_true, Bool.or_eq_true, Bool.and_eq_false_iff, Bool.or_eq_false_iff, Bool.cond_true_left, Bool.cond_false_right, Bool.cond_true_right, Bool.cond_false_left, Bool.or_false, Bool.and_true]
    · simp only [go_sem, reduceIte, Nat.reduceBEq, Nat.reduceMul, reduceCtorEq, Nat.reduceAdd, Nat.reduceEqDiff, decide_eq_true_eq, decide_eq_false_iff_not, Bool.not_eq_true', Bool.not_eq_false', Bool.and_eq_true, Bool.or_eq_true, Bool.and_eq_false_iff, Bool.or_eq_false_iff, Bool.cond_true_left, Bool.cond_false_right, Bool.cond_true_right, Bool.cond_false_left, Bool.or_false, Bool.and_true]
  · exact ⟨Int.le_refl _, .inr rfl, rfl⟩
  rintro i ⟨hi, hci, hk⟩
  simp only [go_sem, reduceIte, Nat.reduceBEq, Nat.reduceMul, reduceCtorEq, Nat.reduceAdd, Nat.reduceEqDiff, decide_eq_true_eq, decide_eq_false_iff_not, Bool.not_eq_true', Bool.not_eq_false', Bool.and_eq_true, Bool.or_eq_true, Bool.and_eq_false_iff, Bool.or_eq_false_iff, Bool.cond_true_left, Bool.cond_false_right, Bool.cond_true_right, Bool.cond_false_left, Bool.or_false, Bool.and_true, inR]
  have hC : nCommit n = n.2.2.2.2.2.2.2.2.2.2.1 := rfl
  have hBs : nBase n = n.2.2.2.2.1 := rfl
  have hNo : nNodes n = n.2.1 := rfl
  have hml : (nMatch n).length = n.2.2.2.2.2.2.2.2.2.2.2.2.2.1.length := rfl
  refine ⟨fun h => ⟨⟨by omega, by omega, by omega⟩, ?_⟩, fun h => ?_⟩
  · refine loop_rule (β := Nat) (fun j => ⟨[(1, .ptr 1 0), (2, .ptr 2 0), (3, .int .i64 i), (4, .int .i64 (termV n i)), (6, .int .i64 (cntGe (nMatch n) i j)), (7, .int .i64 j)], [(1, .box (cellsA tNode n [])), (2, .box zN)]⟩)
      (fun j => j ≤ (nMatch n).length) (fun j => (nMatch n).length - j) 0 ?_ ?_ ?_
    · refine Ent_of [(1, 1), (2, 2)] rfl ?_ ?_
      · simp only [go_sem, reduceIte, Nat.reduceBEq, Nat.reduceMul, reduceCtorEq, Nat.reduceAdd, Nat.reduceEqDiff, decide_eq_true_eq, decide_eq_false_iff_not, Bool.not_eq_true', Bool.not_eq_false', Bool.and_eq_true, Bool.or_eq_true, Bool.and_eq_false_iff, Bool.or_eq_false_iff, Bool.cond_true_left, Bool.cond_false_right, Bool.cond_true_right, Bool.cond_false_left, Bool.or_false, Bool.and_true]
      · simp only [go_sem, reduceIte, Nat.reduceBEq, Nat.reduceMul, reduceCtorEq, Nat.reduceAdd, Nat.reduceEqDiff, decide_eq_true_eq, decide_eq_false_iff_not, Bool.not_eq_true', Bool.not_eq_false', Bool.and_eq_true, Bool.or_eq_true, Bool.and_eq_false_iff, Bool.or_eq_false_iff, Bool.cond_true_left, Bool.cond_false_right, Bool.cond_true_right, Bool.cond_false_left, Bool.or_false, Bool.and_true]
        exact ⟨rfl, rfl⟩
    · exact Nat.zero_le _
    intro j hj
    have hc := cntGe_le (nMatch n) i j
    simp only [go_sem, reduceIte, Nat.reduceBEq, Nat.reduceMul, reduceCtorEq, Nat.reduceAdd, Nat.reduceEqDiff, decide_eq_true_eq, decide_eq_false_iff_not, Bool.not_eq_true', Bool.not_eq_false', Bool.and_eq_true, Bool.or_eq_true, Bool.and_eq_false_iff, Bool.or_eq_false_iff, Bool.cond_true_left, Bool.cond_false_right, Bool.cond_true_right, Bool.cond_false_left, Bool.or_false, Bool.and_true, inR]
    have hlen : ((nMatch n).length : Int) = nNodes n := by omega
    refine ⟨fun hlt => ⟨⟨by omega, by omega⟩, fun hp => ⟨by omega, by omega, Again.intro (j + 1) (Ent_of [(1, 1), (2, 2)] rfl ?_ ?_) ?_ (show (nMatch n).length - (j + 1) < (nMatch n).length - j by omega)⟩, fun hp => ⟨by omega, Again.intro (j + 1) (Ent_of [(1, 1), (2, 2)] rfl ?_ ?_) ?_ (show (nMatch n).length - (j + 1) < (nMatch n).length - j by omega)⟩⟩, fun hge => ?_⟩
    · simp only [go_sem, reduceIte, Nat.reduceBEq, Nat.reduceMul, reduceCtorEq, Nat.reduceAdd, Nat.reduceEqDiff, decide_eq_true_eq, decide_eq_false_iff_not, Bool.not_eq_true', Bool.not_eq_false', Bool.and_eq_true, Bool.or_eq_true, Bool.and_eq_false_iff, Bool.or_eq_false_iff, Bool.cond_true_left, Bool.cond_false_right, Bool.cond_true_right, Bool.cond_false_left, Bool.or_false, Bool.and_true]
    · simp only [go_sem, reduceIte, Nat.reduceBEq, Nat.reduceMul, reduceCtorEq, Nat.reduceAdd, Nat.reduceEqDiff, decide_eq_true_eq, decide_eq_false_iff_not, Bool.not_eq_true', Bool.not_eq_false', Bool.and_eq_true, Bool.or_eq_true, Bool.and_eq_false_iff, Bool.or_eq_false_iff, Bool.cond_true_left, Bool.cond_false_right, Bool.cond_true_right, Bool.cond_false_left, Bool.or_false, Bool.and_true]
      rw [cntGe_succ (by omega), if_pos hp]
      omega
    · show j + 1 ≤ (nMatch n).length; omega
    · simp only [go_sem, reduceIte, Nat.reduceBEq, Nat.reduceMul, reduceCtorEq, Nat.reduceAdd, Nat.reduceEqDiff, decide_eq_true_eq, decide_eq_false_iff_not, Bool.not_eq_true', Bool.not_eq_false', Bool.and_eq_true, Bool.or_eq_true, Bool.and_eq_false_iff, Bool.or_eq_false_iff, Bool.cond_true_left, Bool.cond_false_right, Bool.cond_true_right, Bool.cond_false_left, Bool.or_false, Bool.and_true]
    · simp only [go_sem, reduceIte, Nat.reduceBEq, Nat.reduceMul, reduceCtorEq, Nat.reduceAdd, Nat.reduceEqDiff, decide_eq_true_eq, decide_eq_false_iff_not, Bool.not_eq_true', Bool.not_eq_false', Bool.and_eq_true, Bool.or_eq_true, Bool.and_eq_false_iff, Bool.or_eq_false_iff, Bool.cond_true_left, Bool.cond_false_right, Bool.cond_true_right, Bool.cond_false_left, Bool.or_false, Bool.and_true]
      rw [cntGe_succ (by omega), if_neg hp]
      omega
    · show j + 1 ≤ (nMatch n).length; omega
    have hjl : j = (nMatch n).length := by omega
    refine ⟨fun _ => ⟨by omega, by omega⟩, fun ho => ?_, fun ho => ⟨by omega, Again.intro (i - 1) (Ent_of [(1, 1), (2, 2)] rfl ?_ ?_) ⟨by omega, by omega, ?_⟩ (show (i - 1 - nCommit n).toNat < (i - nCommit n).toNat by omega)⟩⟩
    · have hok : advOk n i := ⟨ho.1, by rw [← hjl]; exact ho.2⟩
      rw [hk, advC_ok (by omega) hok]
      rfl
    · simp only [go_sem, reduceIte, Nat.reduceBEq, Nat.reduceMul, reduceCtorEq, Nat.reduceAdd, Nat.reduceEqDiff, decide_eq_true_eq, decide_eq_false_iff_not, Bool.not_eq_true', Bool.not_eq_false', Bool.and_eq_true, Bool.or_eq_true, Bool.and_eq_false_iff, Bool.or_eq_false_iff, Bool.cond_true_left, Bool.cond_false_right, Bool.cond_true_right, Bool.cond_false_left, Bool.or_false, Bool.and_true]
    · simp only [go_sem, reduceIte, Nat.reduceBEq, Nat.reduceMul, reduceCtorEq, Nat.reduceAdd, Nat.reduceEqDiff, decide_eq_true_eq, decide_eq_false_iff_not, Bool.not_eq_true', Bool.not_eq_false', Bool.and_eq_true, Bool.or_eq_true, Bool.and_eq_false_iff, Bool.or_eq_false_iff, Bool.cond_true_left, Bool.cond_false_right, Bool.cond_true_right, Bool.cond_false_left, Bool.or_false, Bool.and_true]
    · rw [hk, advC_no (by omega) fun hok => ?_]
      rcases ho with ho | ho
      · exact ho hok.1
      · rw [hjl] at ho; exact ho hok.2
  · rw [hk, show (i - nCommit n).toNat = 0 by omega]
    rfl
def fn118 : Fn := { a := .pair tNode .unit, r := .pair (.olist tMsg) .unit, pre := fun x => wfR x.1 ∧ nextsOk x.1, f := fun x => (othersN x.1, ()) }
theorem h118  : Holds Try.prog 118 (fn118) := by
  refine Holds.of_vc (T := [(71, fn71)]) (TT := ttL) (rowAt := []) (c := c118) (ros := [.t 2]) (.cons _ h71 (.nil _)) mixed Try.func118 (by decide +kernel) (by rfl) comp118 (by kernel_rfl) rfl rfl (fun h => by cases h) ?_
  rintro ⟨(n : Node), _⟩ hpre
  simp only [fn118] at hpre ⊢
  simp only [c118, fn71, go_sem, reduceIte, Nat.reduceBEq, Nat.reduceMul, reduceCtorEq, Nat.reduceAdd, Nat.reduceEqDiff, decide_eq_true_eq, decide_eq_false_iff_not, Bool.not_eq_true', Bool.not_eq_false', Bool.and_eq_true, Bool.or_eq_true, Bool.and_eq_false_iff, Bool.or_eq_false_iff, Bool.cond_true_left, Bool.cond_false_right, Bool.cond_true_right, Bool.cond_false_left, Bool.or_false, Bool.and_true, inR]
  have hw := hpre.1
  simp only [wfR] at hw
  have hn : nodesN n = nNodes n := by unfold nodesN; omega
  have hN : nNodes n = n.2.1 := rfl
  refine loop_rule (β := Nat) (fun i => ⟨[(1, .ptr 1 0), (3, .own 20 0 (sendsN n i).length), (4, .int .i64 i)], [(1, .box (cellsA tNode n [])), (20, .row tMsg (sendsN n i) false)]⟩) (fun i => (i : Int) ≤ nNodes n) (fun i => (nNodes n).toNat - i) 0 ?_ ?_ ?_
  · refine Ent_of [(1, 1)] rfl ?_ ?_
    · simp only [go_sem, reduceIte, Nat.reduceBEq, Nat.reduceMul, reduceCtorEq, Nat.reduceAdd, Nat.reduceEqDiff, decide_eq_true_eq, decide_eq_false_iff_not, Bool.not_eq_true', Bool.not_eq_false', Bool.and_eq_true, Bool.or_eq_true, Bool.and_eq_false_iff, Bool.or_eq_false_iff, Bool.cond_true_left, Bool.cond_false_right, Bool.cond_true_right, Bool.cond_false_left, Bool.or_false, Bool.and_true]
      exact ⟨rfl, by decide⟩
    · simp only [go_sem, reduceIte, Nat.reduceBEq, Nat.reduceMul, reduceCtorEq, Nat.reduceAdd, Nat.reduceEqDiff, decide_eq_true_eq, decide_eq_false_iff_not, Bool.not_eq_true', Bool.not_eq_false', Bool.and_eq_true, Bool.or_eq_true, Bool.and_eq_false_iff, Bool.or_eq_false_iff, Bool.cond_true_left, Bool.cond_false_right, Bool.cond_true_right, Bool.cond_false_left, Bool.or_false, Bool.and_true]
      exact ⟨rfl, rfl⟩
  · show ((0 : Nat) : Int) ≤ nNodes n; omega
  intro i hi
  have hl := sendsN_len n i
  simp only [go_sem, reduceIte, Nat.reduceBEq, Nat.reduceMul, reduceCtorEq, Nat.reduceAdd, Nat.reduceEqDiff, decide_eq_true_eq, decide_eq_false_iff_not, Bool.not_eq_true', Bool.not_eq_false', Bool.and_eq_true, Bool.or_eq_true, Bool.and_eq_false_iff, Bool.or_eq_false_iff, Bool.cond_true_left, Bool.cond_false_right, Bool.cond_true_right, Bool.cond_false_left, Bool.or_false, Bool.and_true, inR]
  have hi : (i : Int) ≤ nNodes n := hi
  have hxl : ((nNext n).length : Int) = nNodes n := by omega
  refine ⟨fun h => ⟨fun hne => ⟨⟨hw.1, hpre.2.at _, show (0 : Int) ≤ (i : Int) by omega, show (i : Int) < ((nNext n).length : Int) by omega⟩, by omega, by omega, Again.intro (i + 1) (Ent_of [(1, 1), (20, 20)] rfl ?_ ?_) (show ((i + 1 : Nat) : Int) ≤ nNodes n by omega) (show (nNodes n).toNat - (i + 1) < (nNodes n).toNat - i by omega)⟩, fun he => ⟨by omega, Again.intro (i + 1) (Ent_of [(1, 1), (20, 20)] rfl ?_ ?_) (show ((i + 1 : Nat) : Int) ≤ nNodes n by omega) (show (nNodes n).toNat - (i + 1) < (nNodes n).toNat - i by omega)⟩⟩, fun h => ?_⟩
  · simp only [go_sem, reduceIte, Nat.reduceBEq, Nat.reduceMul, reduceCtorEq, Nat.reduceAdd, Nat.reduceEqDiff, decide_eq_true_eq, decide_eq_false_iff_not, Bool.not_eq_true', Bool.not_eq_false', Bool.and_eq_true, Bool.or_eq_true, Bool.and_eq_false_iff, Bool.or_eq_false_iff, Bool.cond_true_left, Bool.cond_false_right, Bool.cond_true_right, Bool.cond_false_left, Bool.or_false, Bool.and_true]
    exact sendsN_yes n i hne
  · simp only [go_sem, reduceIte, Nat.reduceBEq, Nat.reduceMul, reduceCtorEq, Nat.reduceAdd, Nat.reduceEqDiff, decide_eq_true_eq, decide_eq_false_iff_not, Bool.not_eq_true', Bool.not_eq_false', Bool.and_eq_true, Bool.or_eq_true, Bool.and_eq_false_iff, Bool.or_eq_false_iff, Bool.cond_true_left, Bool.cond_false_right, Bool.cond_true_right, Bool.cond_false_left, Bool.or_false, Bool.and_true]
    rw [sendsN_yes n i hne, List.length_append]
    exact ⟨rfl, by omega⟩
  · simp only [go_sem, reduceIte, Nat.reduceBEq, Nat.reduceMul, reduceCtorEq, Nat.reduceAdd, Nat.reduceEqDiff, decide_eq_true_eq, decide_eq_false_iff_not, Bool.not_eq_true', Bool.not_eq_false', Bool.and_eq_true, Bool.or_eq_true, Bool.and_eq_false_iff, Bool.or_eq_false_iff, Bool.cond_true_left, Bool.cond_false_right, Bool.cond_true_right, Bool.cond_false_left, Bool.or_false, Bool.and_true]
    exact sendsN_no n i he
  · simp only [go_sem, reduceIte, Nat.reduceBEq, Nat.reduceMul, reduceCtorEq, Nat.reduceAdd, Nat.reduceEqDiff, decide_eq_true_eq, decide_eq_false_iff_not, Bool.not_eq_true', Bool.not_eq_false', Bool.and_eq_true, Bool.or_eq_true, Bool.and_eq_false_iff, Bool.or_eq_false_iff, Bool.cond_true_left, Bool.cond_false_right, Bool.cond_true_right, Bool.cond_false_left, Bool.or_false, Bool.and_true]
    rw [sendsN_no n i he]
    exact ⟨rfl, by omega⟩
  · unfold othersN; rw [hn, show i = (nNodes n).toNat by omega]
def addE (n : Node) (cmd : ByteArray) : Node := setLog n (nLog n ++ [mkE (nTerm n) cmd])
def moreN (n : Node) (cmd : ByteArray) : Node := ownM (addE n cmd)
theorem last_addE (n : Node) (cmd : ByteArray) : last (addE n cmd) = last n + 1 := by
  show nBase n + ((nLog n ++ [mkE (nTerm n) cmd]).length : Int) = nBase n + (nLog n).length + 1
  rw [List.length_append]
  show nBase n + (((nLog n).length + 1 : Nat) : Int) = _
  omega
theorem rgN_addE {n : Node} (h : rgL n) (cmd : ByteArray) : rgN (addE n cmd) := by
  have h2 := last_addE n cmd
  simp only [rgL, rgN, sm] at h
  simp only [rgN, sm]
  refine ⟨show 0 ≤ nBase n by omega, show nBase n ≤ nCommit n by omega, show nCommit n ≤ _ by omega, by omega, ?_, show 0 ≤ nNodes n by omega, show nNodes n ≤ 100 by omega, show (nNext n).length ≤ _ by omega, show (nMatch n).length ≤ _ by omega⟩
  show (nLog n ++ [mkE (nTerm n) cmd]).length ≤ _
  rw [List.length_append]
  show (nLog n).length + 1 ≤ _
  omega
def fn127 : Fn := { a := .pair tNode (.pair .str .unit), r := .pair tNode .unit, pre := fun x => wfR x.1 ∧ rgL x.1, f := fun x => (moreN x.1 x.2.1, ()) }
theorem h127  : Holds Try.prog 127 (fn127) := by
  refine Holds.of_vc (T := [(30, fn30), (72, fn72)]) (TT := ttL) (rowAt := []) (c := c127) (ros := [.c 4 15]) (.cons _ h30 (.cons _ h72 (.nil _))) mixed Try.func127 (by decide +kernel) (by rfl) comp127 (by kernel_rfl) rfl rfl (fun h => by cases h) ?_
  rintro ⟨(n : Node), (cmd : ByteArray), _⟩ hpre
  simp only [fn127] at hpre ⊢
  simp only [c127, fn30, fn72, go_sem, reduceIte, Nat.reduceBEq, Nat.reduceMul, reduceCtorEq, Nat.reduceAdd, Nat.reduceEqDiff, decide_eq_true_eq, decide_eq_false_iff_not, Bool.not_eq_true', Bool.not_eq_false', Bool.and_eq_true, Bool.or_eq_true, Bool.and_eq_false_iff, Bool.or_eq_false_iff, Bool.cond_true_left, Bool.cond_false_right, Bool.cond_true_right, Bool.cond_false_left, Bool.or_false, Bool.and_true, inR]
  simp only [mkPr, mkPrE]
  generalize hq : mkN _ _ _ _ _ _ _ (List.take _ _) _ _ _ _ _ _ _ = q
  have eq : q = addE n cmd := by
    rw [← hq, List.take_of_length_le (by rw [List.length_append]; exact Nat.le_refl _)]; rfl
  clear hq
  subst eq
  generalize hp : mkN _ _ _ _ _ _ _ (List.take _ _) _ _ _ _ _ (List.set _ _ _) _ = p
  have hw := hpre.1
  have hL := hpre.2
  simp only [wfR] at hw
  have hI : nId n = n.1 := rfl
  have hxl : (nMatch n).length = n.2.2.2.2.2.2.2.2.2.2.2.2.2.1.length := rfl
  have hll : (nLog n).length = n.2.2.2.2.2.2.2.1.length := rfl
  have hput : putL (nMatch n) (nId n) (last (addE n cmd)) = (nMatch n).set (nId n).toNat (last (addE n cmd)) := if_pos (by omega)
  have ep : p = setMatch (addE n cmd) (putL (nMatch (addE n cmd)) (nId (addE n cmd)) (last (addE n cmd))) := by
    have e2 : putL (nMatch (addE n cmd)) (nId (addE n cmd)) (last (addE n cmd)) = (nMatch n).set (nId n).toNat (last (addE n cmd)) := hput
    rw [← hp, e2, List.take_of_length_le (by rw [List.length_append]; exact Nat.le_refl _)]; rfl
  clear hp
  subst ep
  have h1 := rgN_addE hL cmd
  have h2 := last_addE n cmd
  simp only [rgL, rgN, sm] at hL
  have hl : last n = nBase n + (nLog n).length := rfl
  refine ⟨by omega, by omega, by rfl, by omega, by omega, by omega, by rfl, ⟨rgN_setMatch h1 (putL_len ..), hw.2.1, hw.2.2.1, hw.2.2.2.1, hw.2.2.2.2.1, hw.2.2.2.2.2.1, ?_⟩, rfl⟩
  show (putL (nMatch n) (nId n) (last (addE n cmd))).length = (nNodes n).toNat
  rw [putL_len]; exact hw.2.2.2.2.2.2
theorem wfR_adv {n : Node} (h : wfR n) : wfR (adv n) := by
  have h1 := rgN_adv h.1
  have h2 : nNext (adv n) = nNext n := adv_next n
  have h3 : nMatch (adv n) = nMatch n := adv_match n
  have h4 : nNodes (adv n) = nNodes n := by unfold adv; split <;> rfl
  have h5 : nId (adv n) = nId n := by unfold adv; split <;> rfl
  unfold wfR
  rw [h2, h3, h4, h5]
  exact ⟨h1, h.2⟩
theorem wfR_own {n : Node} (h : wfR n) : wfR (ownM n) := by
  refine wfR_adv ⟨rgN_setMatch h.1 (putL_len ..), h.2.1, h.2.2.1, h.2.2.2.1, h.2.2.2.2.1, h.2.2.2.2.2.1, ?_⟩
  show (putL (nMatch n) (nId n) (last n)).length = _
  rw [putL_len]; exact h.2.2.2.2.2.2
theorem wfR_more {n : Node} (h : wfR n) (hL : rgL n) (cmd : ByteArray) : wfR (moreN n cmd) := wfR_own ⟨rgN_addE hL cmd, h.2⟩
theorem more_next (n : Node) (cmd : ByteArray) : nNext (moreN n cmd) = nNext n := adv_next _
def fn112 : Fn := { a := .pair tNode (.pair .str .unit), r := .pair tNode (.pair (.olist tMsg) .unit), pre := fun x => wfR x.1 ∧ rgL x.1 ∧ nextsOk x.1, f := fun x => (moreN x.1 x.2.1, othersN (moreN x.1 x.2.1), ()) }
theorem h112  : Holds Try.prog 112 (fn112) := by
  refine Holds.of_vc (T := [(127, fn127), (118, fn118)]) (TT := ttL) (rowAt := []) (c := c112) (ros := [.c 4 15, .t 5]) (.cons _ h127 (.cons _ h118 (.nil _))) mixed Try.func112 (by decide +kernel) (by rfl) comp112 (by kernel_rfl) rfl rfl (fun h => by cases h) ?_
  rintro ⟨(n : Node), (cmd : ByteArray), _⟩ hpre
  simp only [fn112] at hpre ⊢
  simp only [c112, fn127, fn118, go_sem, reduceIte, Nat.reduceBEq, Nat.reduceMul, reduceCtorEq, Nat.reduceAdd, Nat.reduceEqDiff, decide_eq_true_eq, decide_eq_false_iff_not, Bool.not_eq_true', Bool.not_eq_false', Bool.and_eq_true, Bool.or_eq_true, Bool.and_eq_false_iff, Bool.or_eq_false_iff, Bool.cond_true_left, Bool.cond_false_right, Bool.cond_true_right, Bool.cond_false_left, Bool.or_false, Bool.and_true, inR]
  have hw := wfR_more hpre.1 hpre.2.1 cmd
  exact ⟨⟨hpre.1, hpre.2.1⟩, ⟨hw, by unfold nextsOk; rw [more_next]; exact hpre.2.2⟩, by rfl⟩
def leadX (n : Node) : Node := mkN (nId n) (nNodes n) (nTerm n) (nVote n) (nBase n) (nBT n) (nSnap n) (nLog n) 2 (nId n) (nCommit n) (nVotes n) (List.replicate (nodesN n).toNat (last n + 1)) (List.replicate (nodesN n).toNat 0) 0
theorem leadX_more (n : Node) : moreN (leadX n) noB = lead1 n := rfl
def fn68 : Fn := { a := .pair tNode .unit, r := .pair tNode (.pair (.olist tMsg) .unit), pre := fun x => rgL x.1 ∧ 1 ≤ nNodes x.1 ∧ nNodes x.1 ≤ 5 ∧ 0 ≤ nId x.1 ∧ nId x.1 < nNodes x.1, f := fun x => (lead1 x.1, lead2 x.1, ()) }
theorem h68  : Holds Try.prog 68 (fn68) := by
  refine Holds.of_vcc (T := [(30, fn30), (112, fn112)]) (TT := ttL) (rowAt := []) (c := c68) (ros := [.c 2 15, .t 3]) (.cons _ h30 (.cons _ h112 (.nil _))) mixed Try.func68 (by decide +kernel) (by rfl) comp68 (by kernel_rfl) rfl rfl (fun h => by cases h) ?_
  rintro ⟨(n : Node), _⟩ hpre
  simp only [fn68] at hpre ⊢
  simp only [c68, fn30, fn112, go_sem, reduceIte, Nat.reduceBEq, Nat.reduceMul, reduceCtorEq, Nat.reduceAdd, Nat.reduceEqDiff, decide_eq_true_eq, decide_eq_false_iff_not, Bool.not_eq_true', Bool.not_eq_false', Bool.and_eq_true, Bool.or_eq_true, Bool.and_eq_false_iff, Bool.or_eq_false_iff, Bool.cond_true_left, Bool.cond_false_right, Bool.cond_true_right, Bool.cond_false_left, Bool.or_false, Bool.and_true, inR]
  obtain ⟨hL, hn1, hn5, hi0, hi1⟩ := hpre
  have hnd : nodesN n = nNodes n := by unfold nodesN; omega
  have hN : nNodes n = n.2.1 := rfl
  have hL2 := hL
  simp only [rgL, rgN, sm] at hL2
  have hl : last n = nBase n + (nLog n).length := rfl
  refine ⟨by omega, by omega, by rfl, ?_⟩
  generalize hq : nNodes n = q at *
  rw [← hN]
  refine loop_rule (β := Nat) (fun i => ⟨[(1, .ptr 1 0), (2, .ptr 2 0), (4, .int .i64 i)], [(1, .box [.int .i64 (nId n), .int .i64 q, .int .i64 (nTerm n), .int .i64 (nVote n), .int .i64 (nBase n), .int .i64 (nBT n), .str (nSnap n), .sl tEntry (nLog n) false, .int .i64 2, .int .i64 (nId n), .int .i64 (nCommit n), .sl .bool (nVotes n) false, .own 12 0 q.toNat, .own 15 0 q.toNat, .int .i64 0]), (2, .box zN),
      (12, .row tI (List.replicate i (last n + 1) ++ List.replicate (q.toNat - i) 0) false), (15, .row tI (List.replicate q.toNat 0) false)]⟩)
    (fun i => i ≤ q.toNat) (fun i => q.toNat - i) 0 ?_ ?_ ?_
  · refine Ent_of [(1, 1), (2, 2), (12, 12), (15, 15)] rfl ?_ ?_
    · simp only [go_sem, reduceIte, Nat.reduceBEq, Nat.reduceMul, reduceCtorEq, Nat.reduceAdd, Nat.reduceEqDiff, decide_eq_true_eq, decide_eq_false_iff_not, Bool.not_eq_true', Bool.not_eq_false', Bool.and_eq_true, Bool.or_eq_true, Bool.and_eq_false_iff, Bool.or_eq_false_iff, Bool.cond_true_left, Bool.cond_false_right, Bool.cond_true_right, Bool.cond_false_left, Bool.or_false, Bool.and_true]
      exact ⟨rfl, rfl⟩
    · simp only [go_sem, reduceIte, Nat.reduceBEq, Nat.reduceMul, reduceCtorEq, Nat.reduceAdd, Nat.reduceEqDiff, decide_eq_true_eq, decide_eq_false_iff_not, Bool.not_eq_true', Bool.not_eq_false', Bool.and_eq_true, Bool.or_eq_true, Bool.and_eq_false_iff, Bool.or_eq_false_iff, Bool.cond_true_left, Bool.cond_false_right, Bool.cond_true_right, Bool.cond_false_left, Bool.or_false, Bool.and_true]
      rfl
  · exact Nat.zero_le _
  intro i hi
  simp only [go_sem, reduceIte, Nat.reduceBEq, Nat.reduceMul, reduceCtorEq, Nat.reduceAdd, Nat.reduceEqDiff, decide_eq_true_eq, decide_eq_false_iff_not, Bool.not_eq_true', Bool.not_eq_false', Bool.and_eq_true, Bool.or_eq_true, Bool.and_eq_false_iff, Bool.or_eq_false_iff, Bool.cond_true_left, Bool.cond_false_right, Bool.cond_true_right, Bool.cond_false_left, Bool.or_false, Bool.and_true, inR, nodesN_pr, last_pr]
  simp only [mkPr, mkPrE]
  generalize hV : vc _ (C.cut c68_31) _ = V
  refine ⟨fun h => ⟨show InR .i64 (last n) from by rw [inR]; omega, show InR .i64 (last n + 1) from by rw [inR]; omega, by omega, by rfl, by omega, Again.intro (i + 1) (Ent_of [(1, 1), (2, 2), (12, 12), (15, 15)] rfl ?_ ?_) ?_ (show q.toNat - (i + 1) < q.toNat - i by omega)⟩, fun h => ?_⟩
  · simp only [go_sem, reduceIte, Nat.reduceBEq, Nat.reduceMul, reduceCtorEq, Nat.reduceAdd, Nat.reduceEqDiff, decide_eq_true_eq, decide_eq_false_iff_not, Bool.not_eq_true', Bool.not_eq_false', Bool.and_eq_true, Bool.or_eq_true, Bool.and_eq_false_iff, Bool.or_eq_false_iff, Bool.cond_true_left, Bool.cond_false_right, Bool.cond_true_right, Bool.cond_false_left, Bool.or_false, Bool.and_true]
    exact (reps_set (a := last n + 1) (b := 0) i q.toNat (by omega)).symm
  · simp only [go_sem, reduceIte, Nat.reduceBEq, Nat.reduceMul, reduceCtorEq, Nat.reduceAdd, Nat.reduceEqDiff, decide_eq_true_eq, decide_eq_false_iff_not, Bool.not_eq_true', Bool.not_eq_false', Bool.and_eq_true, Bool.or_eq_true, Bool.and_eq_false_iff, Bool.or_eq_false_iff, Bool.cond_true_left, Bool.cond_false_right, Bool.cond_true_right, Bool.cond_false_left, Bool.or_false, Bool.and_true]
    omega
  · show i + 1 ≤ q.toNat; omega
  have hiq : i = q.toNat := by omega
  refine cut_at hV ⟨[(1, .ptr 1 0), (2, .ptr 2 0)], [(1, .box [.int .i64 (nId n), .int .i64 q, .int .i64 (nTerm n), .int .i64 (nVote n), .int .i64 (nBase n), .int .i64 (nBT n), .str (nSnap n), .sl tEntry (nLog n) false, .int .i64 2, .int .i64 (nId n), .int .i64 (nCommit n), .sl .bool (nVotes n) false, .own 12 0 q.toNat, .own 15 0 q.toNat, .int .i64 0]), (2, .box zN),
      (12, .row tI (List.replicate q.toNat (last n + 1)) false), (15, .row tI (List.replicate q.toNat 0) false)]⟩ ?_ (Ent_of [(1, 1), (2, 2), (12, 12), (15, 15)] rfl ?_ ?_)
  rotate_left
  · simp only [go_sem, reduceIte, Nat.reduceBEq, Nat.reduceMul, reduceCtorEq, Nat.reduceAdd, Nat.reduceEqDiff, decide_eq_true_eq, decide_eq_false_iff_not, Bool.not_eq_true', Bool.not_eq_false', Bool.and_eq_true, Bool.or_eq_true, Bool.and_eq_false_iff, Bool.or_eq_false_iff, Bool.cond_true_left, Bool.cond_false_right, Bool.cond_true_right, Bool.cond_false_left, Bool.or_false, Bool.and_true]
    rw [hiq, Nat.sub_self, List.replicate_zero, List.append_nil]
  · simp only [go_sem, reduceIte, Nat.reduceBEq, Nat.reduceMul, reduceCtorEq, Nat.reduceAdd, Nat.reduceEqDiff, decide_eq_true_eq, decide_eq_false_iff_not, Bool.not_eq_true', Bool.not_eq_false', Bool.and_eq_true, Bool.or_eq_true, Bool.and_eq_false_iff, Bool.or_eq_false_iff, Bool.cond_true_left, Bool.cond_false_right, Bool.cond_true_right, Bool.cond_false_left, Bool.or_false, Bool.and_true]
  clear hV V
  simp (maxSteps := 10000000) only [c68_31, go_sem, reduceIte, Nat.reduceBEq, Nat.reduceMul, reduceCtorEq, Nat.reduceAdd, Nat.reduceEqDiff, decide_eq_true_eq, decide_eq_false_iff_not, Bool.not_eq_true', Bool.not_eq_false', Bool.and_eq_true, Bool.or_eq_true, Bool.and_eq_false_iff, Bool.or_eq_false_iff, Bool.cond_true_left, Bool.cond_false_right, Bool.cond_true_right, Bool.cond_false_left, Bool.or_false, Bool.and_true, inR]
  simp only [mkPr]
  have ex : mkN (nId n) q (nTerm n) (nVote n) (nBase n) (nBT n) (nSnap n) (nLog n) 2 (nId n) (nCommit n) (nVotes n) (List.replicate q.toNat (last n + 1)) (List.replicate q.toNat 0) 0 = leadX n := by
    unfold leadX; rw [hnd, hq]
  simp only [ex, leadX_more]
  have hrx : rgN (leadX n) := by
    simp only [rgN, sm]
    refine ⟨show 0 ≤ nBase n by omega, show nBase n ≤ nCommit n by omega, show nCommit n ≤ _ by omega, show last n ≤ _ by omega, show (nLog n).length ≤ _ by omega, show 0 ≤ nNodes n by omega, show nNodes n ≤ 100 by omega, ?_, ?_⟩
    · show (List.replicate _ _).length ≤ _; rw [List.length_replicate]; omega
    · show (List.replicate _ _).length ≤ _; rw [List.length_replicate]; omega
  refine ⟨⟨⟨hrx, show 1 ≤ nNodes n by omega, show nNodes n ≤ 5 by omega, hi0, show nId n < nNodes n by omega, ?_, ?_⟩, ⟨hrx, hL.2.1, hL.2.2⟩, ?_⟩, trivial, rfl⟩
  · show (List.replicate _ _).length = (nNodes n).toNat; rw [List.length_replicate, hnd, hq]
  · show (List.replicate _ _).length = (nNodes n).toNat; rw [List.length_replicate, hnd, hq]
  · intro v hv
    have := List.eq_of_mem_replicate hv
    omega
end Go.AM

set_option maxRecDepth 100000
set_option maxHeartbeats 8000000
set_option linter.unusedSimpArgs false
namespace Go.AM
open Go.Proofs
attribute [local congr] vc_congr evOps_congr evTab_congr bind_congr condK_congr tabK_congr
def fn115 : Fn := fn107
theorem h115  : Holds Try.prog 115 (fn115) := by
  refine Holds.of_vc (T := [(29, fn29), (60, fn60), (114, fn114)]) (TT := ttL) (rowAt := []) (c := c115) (ros := [.c 4 15, .t 5]) (.cons _ h29 (.cons _ h60 (.cons _ h114 (.nil _)))) mixed Try.func115 (by decide +kernel) (by rfl) comp115 (by kernel_rfl) rfl rfl (fun h => by cases h) ?_
  rintro ⟨(n : Node), (m : Msg), _⟩ hpre
  simp only [fn115, fn107] at hpre ⊢
  simp only [c115, fn29, fn60, fn114, go_sem, reduceIte, Nat.reduceBEq, Nat.reduceMul, reduceCtorEq, Nat.reduceAdd, Nat.reduceEqDiff, decide_eq_true_eq, decide_eq_false_iff_not, Bool.not_eq_true', Bool.not_eq_false', Bool.and_eq_true, Bool.or_eq_true, Bool.and_eq_false_iff, Bool.or_eq_false_iff, Bool.cond_true_left, Bool.cond_false_right, Bool.cond_true_right, Bool.cond_false_left, Bool.or_false, Bool.and_true, inR, fn48]
  simp only [mkPr]
  simp only [rgN, okIdx, sm] at hpre
  have hl : last n = nBase n + (nLog n).length := rfl
  have hC : nCommit n = n.2.2.2.2.2.2.2.2.2.2.1 := rfl
  have hI : mIndex m = m.2.2.2.2.1 := rfl
  have hs0 : smallL (nLog n) := by rw [sm]; omega
  refine ⟨fun h => ⟨⟨by omega, by omega, by omega⟩, fun hk => ⟨⟨by omega, by omega, hs0⟩, by rfl, by rfl, ?_, ?_⟩, fun hk => ⟨by rfl, by rfl, ?_, ?_⟩⟩, fun h => ⟨by rfl, ?_, rfl⟩⟩
  · have e : keepLog n m = behindN n (mIndex m) := if_pos hk
    unfold inst1; rw [if_neg (by omega), e]
  · show takenM n m true (max (mIndex m) (mIndex m)) = _
    unfold inst2; rw [show max (mIndex m) (nCommit n) = max (mIndex m) (mIndex m) by omega]
  · have e : keepLog n m = [] := if_neg fun hc => by
      rcases hk with hk | hk
      · rw [show termOk n m.2.2.2.2.1 = true from hc.1] at hk; cases hk
      · exact hk hc.2
    unfold inst1; rw [if_neg (by omega), e]
  · show takenM n m true (max (mIndex m) (mIndex m)) = _
    unfold inst2; rw [show max (mIndex m) (nCommit n) = max (mIndex m) (mIndex m) by omega]
  · exact (if_pos (by omega)).symm
def fn73 : Fn := { a := .pair tNode (.pair tMsg .unit), r := .pair tNode (.pair (.list tMsg) .unit), pre := fun x => rgN x.1 ∧ okIdx (mIndex x.2.1) ∧ smallL (mEntries x.2.1) ∧ 0 ≤ nNodes x.1 ∧ nNodes x.1 ≤ 5, f := fun x => (take1 x.1 x.2.1, take2 x.1 x.2.1, ()) }
theorem h73  : Holds Try.prog 73 (fn73) := by
  refine Holds.of_vc (T := [(43, fn43), (30, fn30), (114, fn114), (115, fn115), (29, fn29), (58, fn58)]) (TT := ttL) (rowAt := []) (c := c73) (ros := [.c 4 15, .t 5]) (.cons _ h43 (.cons _ h30 (.cons _ h114 (.cons _ h115 (.cons _ h29 (.cons _ h58 (.nil _))))))) mixed Try.func73 (by decide +kernel) (by rfl) comp73 (by kernel_rfl) rfl rfl (fun h => by cases h) ?_
  rintro ⟨(n : Node), (m : Msg), _⟩ hpre
  simp only [fn73] at hpre ⊢
  simp only [c73, fn43, fn30, fn114, fn115, fn29, fn58, go_sem, reduceIte, Nat.reduceBEq, Nat.reduceMul, reduceCtorEq, Nat.reduceAdd, Nat.reduceEqDiff, decide_eq_true_eq, decide_eq_false_iff_not, Bool.not_eq_true', Bool.not_eq_false', Bool.and_eq_true, Bool.or_eq_true, Bool.and_eq_false_iff, Bool.or_eq_false_iff, Bool.cond_true_left, Bool.cond_false_right, Bool.cond_true_right, Bool.cond_false_left, Bool.or_false, Bool.and_true, inR, fn48, fn107]
  simp only [take1, take2]
  have e0 : m.2.2.2.1 = mTerm m := rfl
  simp only [e0]
  have hrd := rgN_down (t := mTerm m) hpre.1
  generalize down n (mTerm m) = d at *
  simp only [mkPr]
  generalize hq : mkN _ _ _ _ _ _ _ _ 0 _ _ _ _ _ 0 = q
  have eq : q = foll d m := by rw [← hq]; rfl
  clear hq
  subst eq
  have hrf : rgN (foll d m) := hrd
  have hL : last (foll d m) = last d := rfl
  have hBf : nBase (foll d m) = nBase d := rfl
  have hTV : ∀ i, termV (foll d m) i = termV d i := fun _ => rfl
  have hTO : ∀ i, termOk (foll d m) i = decide (nBase d ≤ i ∧ i ≤ last d) := fun _ => rfl
  have hI : mIndex m = m.2.2.2.2.1 := rfl
  have hR := hrd
  simp only [hL, hBf, hTV, hTO]
  simp only [rgN, okIdx, sm] at hR hpre
  have hl : last d = nBase d + (nLog d).length := rfl
  have hBd : nBase d = d.2.2.2.2.1 := rfl
  have hEn : (mEntries m).length = m.2.2.2.2.2.2.2.2.1.length := rfl
  refine ⟨by omega, fun h => ⟨by omega, by rfl, (if_pos h).symm, (if_pos h).symm⟩, fun h => ⟨by rfl, fun h5 => ⟨⟨hrf, hpre.2.1⟩, ?_, ?_⟩, fun h5 => ?_⟩⟩
  · unfold take1'; rw [if_neg h, if_pos h5]
  · unfold take2'; rw [if_neg h, if_pos h5]
  refine ⟨by omega, fun hb => ⟨by rfl, ?_, ?_⟩, fun hb => ⟨⟨by omega, by omega, by omega⟩, fun hc => ⟨by omega, by rfl, ?_, ?_⟩, fun hc => ⟨⟨hR.2.2.2.2.1, hpre.2.2.1, by omega, by omega⟩, by omega, by rfl, ?_, ?_⟩⟩⟩
  · unfold take1'; rw [if_neg h, if_neg h5, if_pos (.inl hb)]
  · unfold take2'; rw [if_neg h, if_neg h5, if_pos hb]; rfl
  · have hc' : last d < mIndex m ∨ termV d (mIndex m) ≠ mAt m := by
      rcases hc with hc | hc
      · rw [decide_eq_false_iff_not] at hc; left; omega
      · exact .inr hc
    unfold take1'; rw [if_neg h, if_neg h5, if_pos (.inr hc')]
  · have hc' : last d < mIndex m ∨ termV d (mIndex m) ≠ mAt m := by
      rcases hc with hc | hc
      · rw [decide_eq_false_iff_not] at hc; left; omega
      · exact .inr hc
    unfold take2'; rw [if_neg h, if_neg h5, if_neg hb, if_pos hc']
    show takenM (foll d m) m false (max (min (last d) (mIndex m - 1)) 0) = _
    rw [show max (min (last d) (mIndex m - 1)) 0 = max 0 (min (last d) (mIndex m - 1)) by omega]
  · have hc1 := of_decide_eq_true hc.1
    have hc' : ¬ (mIndex m < nBase d ∨ last d < mIndex m ∨ termV d (mIndex m) ≠ mAt m) := by
      rintro (hx | hx | hx)
      · exact hb hx
      · omega
      · exact hx hc.2
    unfold take1'; rw [if_neg h, if_neg h5, if_neg hc']; rfl
  · have hc1 := of_decide_eq_true hc.1
    have hc' : ¬ (last d < mIndex m ∨ termV d (mIndex m) ≠ mAt m) := by
      rintro (hx | hx)
      · omega
      · exact hx hc.2
    unfold take2'; rw [if_neg h, if_neg h5, if_neg hb, if_neg hc']; rfl
def fn75 : Fn := { a := .pair tNode (.pair tMsg .unit), r := .pair tNode (.pair (.list tMsg) .unit), pre := fun x => wfR x.1 ∧ okAt x.1 (mFrom x.2.1) ∧ -4398046511000 ≤ mIndex x.2.1 ∧ mIndex x.2.1 ≤ 4398046511000 ∧ last x.1 ≤ 4398046511000 ∧ 0 ≤ mFrom x.2.1 ∧ mFrom x.2.1 < nNodes x.1, f := fun x => (heard1 x.1 x.2.1, heard2 x.1 x.2.1, ()) }
theorem wfR_down {n : Node} {t : Int} (h : wfR n) : wfR (down n t) := by
  have h1 := rgN_down (t := t) h.1
  unfold down at h1 ⊢; split
  · rename_i hc; rw [if_pos hc] at h1; exact ⟨h1, h.2⟩
  · exact h
theorem h75  : Holds Try.prog 75 (fn75) := by
  refine Holds.of_vcc (T := [(43, fn43), (72, fn72), (30, fn30), (71, fn71)]) (TT := ttL) (rowAt := []) (c := c75) (ros := [.c 4 15, .t 5]) (.cons _ h43 (.cons _ h72 (.cons _ h30 (.cons _ h71 (.nil _))))) mixed Try.func75 (by decide +kernel) (by rfl) comp75 (by kernel_rfl) rfl rfl (fun h => by cases h) ?_
  rintro ⟨(n : Node), (m : Msg), _⟩ hpre
  simp only [fn75] at hpre ⊢
  simp only [c75, fn43, fn72, fn30, fn71, go_sem, reduceIte, Nat.reduceBEq, Nat.reduceMul, reduceCtorEq, Nat.reduceAdd, Nat.reduceEqDiff, decide_eq_true_eq, decide_eq_false_iff_not, Bool.not_eq_true', Bool.not_eq_false', Bool.and_eq_true, Bool.or_eq_true, Bool.and_eq_false_iff, Bool.or_eq_false_iff, Bool.cond_true_left, Bool.cond_false_right, Bool.cond_true_right, Bool.cond_false_left, Bool.or_false, Bool.and_true, inR]
  simp only [heard1, heard2]
  have e0 : m.2.2.2.1 = mTerm m := rfl
  simp only [e0]
  have hw := wfR_down (t := mTerm m) hpre.1
  have hat : okAt (down n (mTerm m)) (mFrom m) := by
    unfold down; split
    · exact hpre.2.1
    · exact hpre.2.1
  have hla : last (down n (mTerm m)) = last n := last_down ..
  have hnn : nNodes (down n (mTerm m)) = nNodes n := down_nodes ..
  generalize down n (mTerm m) = d at *
  generalize hV : vc _ (C.cut c75_22) _ = V
  have hw2 := hw
  simp only [wfR, rgN, sm] at hw2
  obtain ⟨hnp, hpi, hpj, hpl, hf0', hf1'⟩ := hpre.2
  have hf0 : 0 ≤ mFrom m := hf0'
  have hf1 : mFrom m < nNodes n := hf1'
  have hl : last d = nBase d + (nLog d).length := rfl
  refine ⟨by omega, fun h => ?_, fun h => ?_⟩
  · have hn : ¬ (nRole d = 2 ∧ mTerm m = nTerm d) := fun hc => h.elim (fun h => h hc.1) (fun h => h hc.2)
    exact ⟨(if_neg hn).symm, (if_neg hn).symm⟩
  have h1 : heard1' d m = if mYes m = true then got1 d m else back1 d m := if_pos h
  have h2 : heard2' d m = if mYes m = true then (if gotI d m + 1 ≤ last d then [sendM (got1 d m) (mFrom m)] else []) else [sendM (back1 d m) (mFrom m)] := if_pos h
  rw [h1, h2] at hV
  refine cut_at hV ⟨[(2, .ptr 2 0), (3, .ptr 3 0), (4, .ptr 4 0)], [(2, .box (cellsA tNode d [])), (3, .box (cellsA tMsg m [])), (4, .box zN)]⟩ ?_ (Ent_of [(2, 2), (3, 3), (4, 4)] rfl ?_ ?_)
  rotate_left
  · simp only [go_sem, reduceIte, Nat.reduceBEq, Nat.reduceMul, reduceCtorEq, Nat.reduceAdd, Nat.reduceEqDiff, decide_eq_true_eq, decide_eq_false_iff_not, Bool.not_eq_true', Bool.not_eq_false', Bool.and_eq_true, Bool.or_eq_true, Bool.and_eq_false_iff, Bool.or_eq_false_iff, Bool.cond_true_left, Bool.cond_false_right, Bool.cond_true_right, Bool.cond_false_left, Bool.or_false, Bool.and_true]
  · simp only [go_sem, reduceIte, Nat.reduceBEq, Nat.reduceMul, reduceCtorEq, Nat.reduceAdd, Nat.reduceEqDiff, decide_eq_true_eq, decide_eq_false_iff_not, Bool.not_eq_true', Bool.not_eq_false', Bool.and_eq_true, Bool.or_eq_true, Bool.and_eq_false_iff, Bool.or_eq_false_iff, Bool.cond_true_left, Bool.cond_false_right, Bool.cond_true_right, Bool.cond_false_left, Bool.or_false, Bool.and_true]
  clear hV V
  simp (maxSteps := 10000000) only [c75_22, go_sem, reduceIte, Nat.reduceBEq, Nat.reduceMul, reduceCtorEq, Nat.reduceAdd, Nat.reduceEqDiff, decide_eq_true_eq, decide_eq_false_iff_not, Bool.not_eq_true', Bool.not_eq_false', Bool.and_eq_true, Bool.or_eq_true, Bool.and_eq_false_iff, Bool.or_eq_false_iff, Bool.cond_true_left, Bool.cond_false_right, Bool.cond_true_right, Bool.cond_false_left, Bool.or_false, Bool.and_true, inR]
  generalize hV : vc _ (C.cut c75_32) _ = V
  have hxl : (nNext d).length = d.2.2.2.2.2.2.2.2.2.2.2.2.1.length := rfl
  have hml : (nMatch d).length = d.2.2.2.2.2.2.2.2.2.2.2.2.2.1.length := rfl
  refine ⟨by omega, by omega, by decide +kernel, ?_⟩
  refine cut_at hV ⟨[(2, .ptr 2 0), (3, .ptr 3 0), (4, .ptr 4 0), (6, .int .i64 (mFrom m))], [(2, .box [.int .i64 (nId d), .int .i64 (nNodes d), .int .i64 (nTerm d), .int .i64 (nVote d), .int .i64 (nBase d), .int .i64 (nBT d), .str (nSnap d), .sl tEntry (nLog d) false, .int .i64 (nRole d), .int .i64 (nLead d), .int .i64 (nCommit d), .sl .bool (nVotes d) false, .own 24 0 (nNext d).length, .own 27 0 (nMatch d).length, .int .i64 (nClock d)]), (3, .box (cellsA tMsg m [])), (4, .box zN), (24, .row tI (nNext d) false), (27, .row tI (nMatch d) false)]⟩ ?_ (Ent_of [(2, 2), (3, 3), (4, 4), (24, 24), (27, 27)] rfl ?_ ?_)
  rotate_left
  · simp only [go_sem, reduceIte, Nat.reduceBEq, Nat.reduceMul, reduceCtorEq, Nat.reduceAdd, Nat.reduceEqDiff, decide_eq_true_eq, decide_eq_false_iff_not, Bool.not_eq_true', Bool.not_eq_false', Bool.and_eq_true, Bool.or_eq_true, Bool.and_eq_false_iff, Bool.or_eq_false_iff, Bool.cond_true_left, Bool.cond_false_right, Bool.cond_true_right, Bool.cond_false_left, Bool.or_false, Bool.and_true]
  · simp only [go_sem, reduceIte, Nat.reduceBEq, Nat.reduceMul, reduceCtorEq, Nat.reduceAdd, Nat.reduceEqDiff, decide_eq_true_eq, decide_eq_false_iff_not, Bool.not_eq_true', Bool.not_eq_false', Bool.and_eq_true, Bool.or_eq_true, Bool.and_eq_false_iff, Bool.or_eq_false_iff, Bool.cond_true_left, Bool.cond_false_right, Bool.cond_true_right, Bool.cond_false_left, Bool.or_false, Bool.and_true]
  clear hV V
  have hg : gotI d m = min (max (atL (nMatch d) (mFrom m)) (mIndex m)) (last d) := rfl
  have hb : backI d m = max (max 1 (atL (nMatch d) (mFrom m) + 1)) (min (atL (nNext d) (mFrom m) - 1) (mIndex m + 1)) := rfl
  have hma : atL (nMatch d) (mFrom m) = (nMatch d).getD (mFrom m).toNat (dflt tI) := if_neg (by omega)
  have hne : atL (nNext d) (mFrom m) = (nNext d).getD (mFrom m).toNat (dflt tI) := if_neg (by omega)
  simp only [okAt, okS] at hat
  have hg' : min (max (atL (nMatch d) (mFrom m)) m.2.2.2.2.1) (last d) = gotI d m := hg.symm
  have hgs : ((nMatch d).set (mFrom m).toNat (gotI d m)).getD (mFrom m).toNat (dflt tI) = gotI d m := by
    rw [List.getD_eq_getElem?_getD, List.getElem?_set_self (by omega)]; rfl
  have hns : ((nNext d).set (mFrom m).toNat (gotI d m + 1)).getD (mFrom m).toNat (dflt tI) = gotI d m + 1 := by
    rw [List.getD_eq_getElem?_getD, List.getElem?_set_self (by omega)]; rfl
  have hp1 : putL (nMatch d) (mFrom m) (gotI d m) = (nMatch d).set (mFrom m).toNat (gotI d m) := if_pos (by omega)
  have hp2 : putL (nNext d) (mFrom m) (gotI d m + 1) = (nNext d).set (mFrom m).toNat (gotI d m + 1) := if_pos (by omega)
  have hp3 : putL (nNext d) (mFrom m) (backI d m) = (nNext d).set (mFrom m).toNat (backI d m) := if_pos (by omega)
  have hIm : mIndex m = m.2.2.2.2.1 := rfl
  have hb' : max (max (min (atL (nNext d) (mFrom m) - 1) (m.2.2.2.2.1 + 1)) 1) (atL (nMatch d) (mFrom m) + 1) = backI d m := by clear hg hg'; rw [hb]; omega
  simp (maxSteps := 10000000) only [c75_32, go_sem, reduceIte, Nat.reduceBEq, Nat.reduceMul, reduceCtorEq, Nat.reduceAdd, Nat.reduceEqDiff, decide_eq_true_eq, decide_eq_false_iff_not, Bool.not_eq_true', Bool.not_eq_false', Bool.and_eq_true, Bool.or_eq_true, Bool.and_eq_false_iff, Bool.or_eq_false_iff, Bool.cond_true_left, Bool.cond_false_right, Bool.cond_true_right, Bool.cond_false_left, Bool.or_false, Bool.and_true, inR, ← hma, ← hne, hg', hgs, hb']
  simp only [mkPr]
  have hgb : -4398046511000 ≤ gotI d m ∧ gotI d m ≤ 4398046511000 := by clear hb hb' hg'; rw [hg]; omega
  have hbb : -4398046511104 ≤ backI d m ∧ backI d m ≤ 4398046511104 := by clear hg hg' hb'; rw [hb]; omega
  clear hb hb' hg hg'
  refine ⟨fun hy => ?_, fun hy => ?_⟩
  · rw [if_pos (show mYes m = true from hy), if_pos (show mYes m = true from hy)]
    generalize hq : mkN _ _ _ _ _ _ _ _ _ _ _ _ (List.set _ _ _) (List.set _ _ _) _ = q
    have eq : q = setNext (setMatch d (putL (nMatch d) (mFrom m) (gotI d m))) (putL (nNext d) (mFrom m) (gotI d m + 1)) := by rw [← hq, hp1, hp2]; rfl
    clear hq
    have ea : adv q = got1 d m := by rw [eq]; rfl
    have hwq : wfR q := by
      rw [eq]
      refine ⟨rgN_setNext (rgN_setMatch hw.1 (putL_len ..)) (putL_len ..), hw.2.1, hw.2.2.1, hw.2.2.2.1, hw.2.2.2.2.1, ?_, ?_⟩
      · show (putL (nNext d) (mFrom m) (gotI d m + 1)).length = _; rw [putL_len]; exact hw.2.2.2.2.2.1
      · show (putL (nMatch d) (mFrom m) (gotI d m)).length = _; rw [putL_len]; exact hw.2.2.2.2.2.2
    have hwa := wfR_adv hwq
    have n1 : nNext (adv q) = (nNext d).set (mFrom m).toNat (gotI d m + 1) := by rw [adv_next, eq, ← hp2]; rfl
    have n2 : last (adv q) = last d := by rw [adv_last, eq]; rfl
    rw [ea] at hwa n1 n2
    have n3 : (got1 d m).2.2.2.2.2.2.2.2.2.2.2.2.1 = (nNext d).set (mFrom m).toNat (gotI d m + 1) := n1
    clear eq
    have n4 : atL (nNext (got1 d m)) (mFrom m) = gotI d m + 1 ∨ atL (nNext (got1 d m)) (mFrom m) = 0 := by rw [n1, ← hp2]; exact atL_put ..
    simp only [ea, n2, n3, hns, List.length_set]
    refine ⟨⟨hf0, by omega⟩, by omega, ⟨hf0, by omega⟩, by decide +kernel, ⟨hf0, by omega⟩, by omega, ⟨hf0, by omega⟩, by decide +kernel, hwq, ⟨hf0, by omega⟩, by omega, by decide +kernel, fun hc => ⟨trivial, (if_neg (by omega)).symm⟩, fun hc => ⟨⟨hwa.1, ?_, hf0, show mFrom m < ((nNext d).length : Int) by omega⟩, by decide +kernel, trivial, (if_pos (by omega)).symm⟩⟩
    unfold nextOk
    rcases n4 with h | h
    · rw [h]; omega
    · rw [h]; decide
  · have hy' : ¬ mYes m = true := by rw [show mYes m = false from hy]; decide
    rw [if_neg hy', if_neg hy']
    generalize hq : mkN _ _ _ _ _ _ _ _ _ _ _ _ (List.set _ _ _) _ _ = q
    have eq : q = back1 d m := by rw [← hq, ← hp3]; rfl
    clear hq
    subst eq
    have n4 : atL (nNext (back1 d m)) (mFrom m) = backI d m ∨ atL (nNext (back1 d m)) (mFrom m) = 0 := atL_put ..
    refine ⟨⟨hf0, by omega⟩, by omega, by omega, ⟨hf0, by omega⟩, by omega, ⟨hf0, by omega⟩, by decide +kernel, ⟨rgN_setNext hw.1 (putL_len ..), ?_, hf0, ?_⟩, by decide +kernel, rfl, rfl⟩
    · unfold nextOk
      rcases n4 with h | h
      · rw [h]; omega
      · rw [h]; decide
    · show mFrom m < ((putL (nNext d) (mFrom m) (backI d m)).length : Int)
      rw [putL_len]; omega
def fn66 : Fn := fn24
theorem h66  : Holds Try.prog 66 (fn66) := by
  refine Holds.of_vc (T := [(23, fn23), (29, fn29), (35, fn35), (50, fn50)]) (TT := ttL) (rowAt := []) (c := c66) (ros := [.c 8 10]) (.cons _ h23 (.cons _ h29 (.cons _ h35 (.cons _ h50 (.nil _))))) mixed Try.func66 (by decide +kernel) (by rfl) comp66 (by kernel_rfl) rfl rfl (fun h => by cases h) ?_
  rintro ⟨(v : Int), (w : Int), (n : Node), (es : List Int), _⟩ hpre
  simp only [fn66, fn24] at hpre ⊢
  simp only [c66, fn23, fn29, fn35, fn50, go_sem, reduceIte, Nat.reduceBEq, Nat.reduceMul, reduceCtorEq, Nat.reduceAdd, Nat.reduceEqDiff, decide_eq_true_eq, decide_eq_false_iff_not, Bool.not_eq_true', Bool.not_eq_false', Bool.and_eq_true, Bool.or_eq_true, Bool.and_eq_false_iff, Bool.or_eq_false_iff, Bool.cond_true_left, Bool.cond_false_right, Bool.cond_true_right, Bool.cond_false_left, Bool.or_false, Bool.and_true, fn48, inR, p19, tq1, tm1, nn1, nn2, Int.reduceLE]
  simp only [wfN] at hpre
  have hk1 : 0 ≤ v % 1073741824 / 5 % max (nNodes n - 1) 1 := Int.emod_nonneg _ (by omega)
  have hk2 : v % 1073741824 / 5 % max (nNodes n - 1) 1 < max (nNodes n - 1) 1 := Int.emod_lt_of_pos _ (by omega)
  have hsz := digits_size (w % 1073741824 % 100)
  dsimp only [den, nId, nNodes, nTerm, nVote, nBase, nBT, nSnap, nLog, nRole, nLead, nCommit, nVotes, nNext, nMatch, nClock, mKind, mFrom, mTo, mTerm, mIndex, mAt, mYes, mCommit, mEntries, mSnap, eTerm, eCmd, mkN, mkM, mkE, last, inR, sm, lastT] at *
  have e1 : (n.1 + 1 + v % 1073741824 / 5 % max (n.2.1 - 1) 1).tmod n.2.1 = (n.1 + 1 + v % 1073741824 / 5 % max (n.2.1 - 1) 1) % n.2.1 := tm1 (by omega)
  simp only [e1]
  repeat (first | refine ⟨by omega, ?_⟩ | refine ⟨by rfl, ?_⟩ | refine ⟨fun h => h, ?_⟩ | refine ⟨fun h => ⟨h, by omega⟩, ?_⟩)
  refine ⟨fun h1 => ⟨fun h2 => ⟨by omega, fun h3 => absurd h3 (by omega), fun h3 => ?_⟩, fun h2 => ⟨fun h3 => ⟨by omega, by omega, ?_, ?_⟩, fun h3 => ?_⟩⟩, fun h1 => ?_⟩
  · unfold message; rw [if_pos h1, if_pos h2, if_neg h3]; rfl
  · have : (#[115, 110, 97, 112] : Array UInt8).size = 4 := rfl
    omega
  · unfold message; rw [if_pos h1, if_neg h2, if_pos h3]; rfl
  · unfold message; rw [if_pos h1, if_neg h2, if_neg h3]; rfl
  have h1 : ¬ (termOk n (max (last n - 3 + w % 1073741824 % 6) 0) = true ∧ w % 1073741824 / 2700 % 2 = 0) := by
    rintro ⟨a, b⟩
    rcases h1 with h | h
    · rw [a] at h; cases h
    · exact h b
  refine ⟨fun h2 => ⟨by omega, fun h3 => absurd h3 (by omega), fun h3 => ?_⟩, fun h2 => ⟨fun h3 => ⟨by omega, by omega, ?_, ?_⟩, fun h3 => ?_⟩⟩
  · unfold message; rw [if_neg h1, if_pos h2, if_neg h3]; rfl
  · have : (#[115, 110, 97, 112] : Array UInt8).size = 4 := rfl
    omega
  · unfold message; rw [if_neg h1, if_neg h2, if_pos h3]; rfl
  · unfold message; rw [if_neg h1, if_neg h2, if_neg h3]; rfl
end Go.AM
