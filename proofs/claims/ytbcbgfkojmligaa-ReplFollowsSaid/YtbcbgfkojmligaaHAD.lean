import Derived.Test.YtbcbgfkojmligaaHAC
import Derived.Test.YtbcbgfkojmligaaTAD
/- What functions of the program answer, each under the conditions that its contract names. -/
set_option linter.unusedVariables false
set_option linter.unusedSimpArgs false
set_option maxRecDepth 100000
set_option maxHeartbeats 40000000
set_option linter.unusedSimpArgs false
namespace Go.AM
open Go.Proofs
attribute [local congr] vc_congr evOps_congr evTab_congr bind_congr condK_congr tabK_congr
theorem take_set {A l : List E} (h : A.length = l.length) {i : Nat} (hi : i < l.length) {x : E} (hx : A[i]? = some x) : (A.take i ++ l.drop i).set i x = A.take (i + 1) ++ l.drop (i + 1) := by
  have e : (A.take i).length = i := by rw [List.length_take]; omega
  rw [List.set_append_right _ _ (by omega), e, Nat.sub_self, List.drop_eq_getElem_cons hi, List.set_cons_zero, List.take_add_one, hx, List.append_assoc]
  rfl
theorem mix_get {A l : List E} (h : A.length = l.length) {i : Nat} (hi : i < l.length) : (A.take i ++ l.drop i).getD i (dflt tEntry) = l[i] := by
  have e : (A.take i).length = i := by rw [List.length_take]; omega
  rw [List.getD_eq_getElem?_getD, List.getElem?_append_right (by omega), e, Nat.sub_self, List.getElem?_drop, Nat.add_zero, List.getElem?_eq_getElem hi]
  rfl
theorem mix_len {A l : List E} (h : A.length = l.length) (i : Nat) : (A.take i ++ l.drop i).length = l.length := by
  rw [List.length_append, List.length_take, List.length_drop]; omega
theorem made_terms0 (l : List Int) (id nodes : Int) : ∀ e ∈ nLog (made l id nodes), 0 ≤ eTerm e := by
  have hf : ∀ (l : List Int) (n : Node), (0 ≤ nTerm n ∧ ∀ e ∈ nLog n, 0 ≤ eTerm e) → (0 ≤ nTerm (l.foldl madeStep n) ∧ ∀ e ∈ nLog (l.foldl madeStep n), 0 ≤ eTerm e) := by
    intro l
    induction l with
    | nil => intro n h; exact h
    | cons v l ih =>
      intro n h
      refine ih _ ?_
      unfold madeStep
      split
      · exact ⟨show 0 ≤ nTerm n + 1 by omega, h.2⟩
      split
      · exact h
      split
      · unfold cutN
        split
        · exact h
        · exact ⟨h.1, fun e he => h.2 e (List.mem_of_mem_drop he)⟩
      split
      · exact h
      split
      · exact h
      split
      · exact h
      · refine ⟨h.1, fun e he => ?_⟩
        have he : e ∈ nLog n ++ [mkE (nTerm n) (digits (mkK v / 12 % 1000))] := he
        rcases List.mem_append.1 he with he | he
        · exact h.2 e he
        · rw [List.mem_singleton.1 he]; exact h.1
  exact (hf _ _ ⟨Int.le_refl _, fun e he => by cases he⟩).2
def replFollowsFn : Fn := { a := .pair (.list tI) (.pair (.list tI) .unit), r := .pair .bool .unit, pre := fun _ => True, f := fun _ => (true, ()) }
theorem h15  : Holds Try.prog 15 (replFollowsFn) := by
  refine Holds.of_vcc (T := [(22, fn22), (57, fn57), (67, fn67), (65, fn65), (74, fn74), (37, fn37)]) (TT := ttL) (rowAt := []) (c := c15) (ros := [.t 4]) (.cons _ h22 (.cons _ h57 (.cons _ h67 (.cons _ h65 (.cons _ h74 (.cons _ h37 (.nil _))))))) mixed Try.func15 (by decide +kernel) (by rfl) comp15 (by kernel_rfl) rfl rfl (fun h => by cases h) ?_
  rintro ⟨(a : List Int), (b : List Int), _⟩ hpre
  simp only [replFollowsFn] at hpre ⊢
  simp only [c15, fn22, fn57, fn67, fn65, fn74, fn37, go_sem, reduceIte, Nat.reduceBEq, Nat.reduceMul, reduceCtorEq, Nat.reduceAdd, Nat.reduceEqDiff, decide_eq_true_eq, decide_eq_false_iff_not, Bool.not_eq_true', Bool.not_eq_false', Bool.and_eq_true, Bool.or_eq_true, Bool.and_eq_false_iff, Bool.or_eq_false_iff, Bool.cond_true_left, Bool.cond_false_right, Bool.cond_true_right, Bool.cond_false_left, Bool.or_false, Bool.and_true, inR]
  generalize hV : vc _ (C.cut c15_29) _ = V
  have hrun := fun s => fol_run (a := a) (b := b) (s := s)
  have m1 := MI_made a 0 2
  have m2 := MI_made b 1 2
  have u1 := made_terms a 0 2
  have u2 := made_terms b 1 2
  have w1 := made_terms0 a 0 2
  have w2 := made_terms0 b 1 2
  generalize made a 0 2 = n at *
  generalize made b 1 2 = f at *
  simp only [MI] at m1 m2
  have hla : last n = nBase n + (nLog n).length := rfl
  have hlb : last f = nBase f + (nLog f).length := rfl
  intro hh
  have h0 : ¬ 0 < nBase n := hh.1
  have h0' : ¬ 0 < nBase f := hh.2
  have hln : (nLog n).length = n.2.2.2.2.2.2.2.1.length := rfl
  have hlf : (nLog f).length = f.2.2.2.2.2.2.2.1.length := rfl
  clear hh
  have hrun := fun s => hrun s (by omega) (by omega)
  refine cut_at hV ⟨[(5, .ptr 5 0), (6, .ptr 6 0)], [(5, .box (cellsA tNode n [])), (6, .box (cellsA tNode f []))]⟩ ?_ (Ent_of [(5, 5), (6, 6)] rfl ?_ ?_)
  rotate_left
  · simp only [go_sem, reduceIte, Nat.reduceBEq, Nat.reduceMul, reduceCtorEq, Nat.reduceAdd, Nat.reduceEqDiff, decide_eq_true_eq, decide_eq_false_iff_not, Bool.not_eq_true', Bool.not_eq_false', Bool.and_eq_true, Bool.or_eq_true, Bool.and_eq_false_iff, Bool.or_eq_false_iff, Bool.cond_true_left, Bool.cond_false_right, Bool.cond_true_right, Bool.cond_false_left, Bool.or_false, Bool.and_true]
  · simp only [go_sem, reduceIte, Nat.reduceBEq, Nat.reduceMul, reduceCtorEq, Nat.reduceAdd, Nat.reduceEqDiff, decide_eq_true_eq, decide_eq_false_iff_not, Bool.not_eq_true', Bool.not_eq_false', Bool.and_eq_true, Bool.or_eq_true, Bool.and_eq_false_iff, Bool.or_eq_false_iff, Bool.cond_true_left, Bool.cond_false_right, Bool.cond_true_right, Bool.cond_false_left, Bool.or_false, Bool.and_true]
  clear hV V
  simp (maxSteps := 10000000) only [c15_29, go_sem, reduceIte, Nat.reduceBEq, Nat.reduceMul, reduceCtorEq, Nat.reduceAdd, Nat.reduceEqDiff, decide_eq_true_eq, decide_eq_false_iff_not, Bool.not_eq_true', Bool.not_eq_false', Bool.and_eq_true, Bool.or_eq_true, Bool.and_eq_false_iff, Bool.or_eq_false_iff, Bool.cond_true_left, Bool.cond_false_right, Bool.cond_true_right, Bool.cond_false_left, Bool.or_false, Bool.and_true, inR]
  refine ⟨by omega, by omega, by decide +kernel, ?_⟩
  refine loop_rule (β := Nat) (fun i => ⟨[(5, .ptr 5 0), (6, .ptr 6 0), (7, .int .i64 i)], [(5, .box [.int .i64 (nId n), .int .i64 (nNodes n), .int .i64 (nTerm n), .int .i64 (nVote n), .int .i64 (nBase n), .int .i64 (nBT n), .str (nSnap n), .own 31 0 (nLog n).length, .int .i64 (nRole n), .int .i64 (nLead n), .int .i64 (nCommit n), .sl .bool (nVotes n) false, .sl tI (nNext n) false, .sl tI (nMatch n) false, .int .i64 (nClock n)]), (6, .box [.int .i64 (nId f), .int .i64 (nNodes f), .int .i64 (nTerm f), .int .i64 (nVote f), .int .i64 (nBase f), .int .i64 (nBT f), .str (nSnap f), .own 34 0 (nLog f).length, .int .i64 (nRole f), .int .i64 (nLead f), .int .i64 (nCommit f), .sl .bool (nVotes f) false, .sl tI (nNext f) false, .sl tI (nMatch f) false, .int .i64 (nClock f)]), (31, .row tEntry (nLog n) false), (34, .row tEntry (nLog f) false)]⟩) (fun i => i ≤ (nLog n).length ∧ i ≤ (nLog f).length) (fun i => (nLog n).length - i) 0 ?_ ?_ ?_
  · refine Ent_of [(5, 5), (6, 6), (31, 31), (34, 34)] rfl ?_ ?_
    · simp only [go_sem, reduceIte, Nat.reduceBEq, Nat.reduceMul, reduceCtorEq, Nat.reduceAdd, Nat.reduceEqDiff, decide_eq_true_eq, decide_eq_false_iff_not, Bool.not_eq_true', Bool.not_eq_false', Bool.and_eq_true, Bool.or_eq_true, Bool.and_eq_false_iff, Bool.or_eq_false_iff, Bool.cond_true_left, Bool.cond_false_right, Bool.cond_true_right, Bool.cond_false_left, Bool.or_false, Bool.and_true]
    · simp only [go_sem, reduceIte, Nat.reduceBEq, Nat.reduceMul, reduceCtorEq, Nat.reduceAdd, Nat.reduceEqDiff, decide_eq_true_eq, decide_eq_false_iff_not, Bool.not_eq_true', Bool.not_eq_false', Bool.and_eq_true, Bool.or_eq_true, Bool.and_eq_false_iff, Bool.or_eq_false_iff, Bool.cond_true_left, Bool.cond_false_right, Bool.cond_true_right, Bool.cond_false_left, Bool.or_false, Bool.and_true]
      rfl
  · exact ⟨Nat.zero_le _, Nat.zero_le _⟩
  rintro i ⟨hi1, hi2⟩
  simp (maxSteps := 10000000) only [go_sem, reduceIte, Nat.reduceBEq, Nat.reduceMul, reduceCtorEq, Nat.reduceAdd, Nat.reduceEqDiff, decide_eq_true_eq, decide_eq_false_iff_not, Bool.not_eq_true', Bool.not_eq_false', Bool.and_eq_true, Bool.or_eq_true, Bool.and_eq_false_iff, Bool.or_eq_false_iff, Bool.cond_true_left, Bool.cond_false_right, Bool.cond_true_right, Bool.cond_false_left, Bool.or_false, Bool.and_true, inR]
  generalize hV : vc _ (C.cut c15_8) _ = V
  refine ⟨fun h => ⟨by omega, by omega⟩, fun h => ⟨by omega, by omega⟩, by decide +kernel, fun h => ⟨by omega, Again.intro (i + 1) (Ent_of [(5, 5), (6, 6), (31, 31), (34, 34)] rfl ?_ ?_) (show i + 1 ≤ (nLog n).length ∧ i + 1 ≤ (nLog f).length from ⟨by omega, by omega⟩) (show (nLog n).length - (i + 1) < (nLog n).length - i by omega)⟩, fun _ => ?_⟩
  · simp only [go_sem, reduceIte, Nat.reduceBEq, Nat.reduceMul, reduceCtorEq, Nat.reduceAdd, Nat.reduceEqDiff, decide_eq_true_eq, decide_eq_false_iff_not, Bool.not_eq_true', Bool.not_eq_false', Bool.and_eq_true, Bool.or_eq_true, Bool.and_eq_false_iff, Bool.or_eq_false_iff, Bool.cond_true_left, Bool.cond_false_right, Bool.cond_true_right, Bool.cond_false_left, Bool.or_false, Bool.and_true]
  · simp only [go_sem, reduceIte, Nat.reduceBEq, Nat.reduceMul, reduceCtorEq, Nat.reduceAdd, Nat.reduceEqDiff, decide_eq_true_eq, decide_eq_false_iff_not, Bool.not_eq_true', Bool.not_eq_false', Bool.and_eq_true, Bool.or_eq_true, Bool.and_eq_false_iff, Bool.or_eq_false_iff, Bool.cond_true_left, Bool.cond_false_right, Bool.cond_true_right, Bool.cond_false_left, Bool.or_false, Bool.and_true]
    rfl
  obtain ⟨hrl, sF, hend, hrun⟩ := hrun i hi1 hi2
  have hA := folF_len hi1 hi2
  have hB : (folN (nLog n)).length = (nLog n).length := by unfold folN; rw [List.length_map]
  refine cut_at hV ⟨[(5, .ptr 5 0), (6, .ptr 6 0), (7, .int .i64 i)], [(5, .box [.int .i64 (nId n), .int .i64 (nNodes n), .int .i64 (nTerm n), .int .i64 (nVote n), .int .i64 (nBase n), .int .i64 (nBT n), .str (nSnap n), .own 31 0 (nLog n).length, .int .i64 (nRole n), .int .i64 (nLead n), .int .i64 (nCommit n), .sl .bool (nVotes n) false, .sl tI (nNext n) false, .sl tI (nMatch n) false, .int .i64 (nClock n)]), (6, .box [.int .i64 (nId f), .int .i64 (nNodes f), .int .i64 (nTerm f), .int .i64 (nVote f), .int .i64 (nBase f), .int .i64 (nBT f), .str (nSnap f), .own 34 0 (nLog f).length, .int .i64 (nRole f), .int .i64 (nLead f), .int .i64 (nCommit f), .sl .bool (nVotes f) false, .sl tI (nNext f) false, .sl tI (nMatch f) false, .int .i64 (nClock f)]), (31, .row tEntry (nLog n) false), (34, .row tEntry (nLog f) false)]⟩ ?_ (Ent_of [(5, 5), (6, 6), (31, 31), (34, 34)] rfl ?_ ?_)
  rotate_left
  · simp only [go_sem, reduceIte, Nat.reduceBEq, Nat.reduceMul, reduceCtorEq, Nat.reduceAdd, Nat.reduceEqDiff, decide_eq_true_eq, decide_eq_false_iff_not, Bool.not_eq_true', Bool.not_eq_false', Bool.and_eq_true, Bool.or_eq_true, Bool.and_eq_false_iff, Bool.or_eq_false_iff, Bool.cond_true_left, Bool.cond_false_right, Bool.cond_true_right, Bool.cond_false_left, Bool.or_false, Bool.and_true]
  · simp only [go_sem, reduceIte, Nat.reduceBEq, Nat.reduceMul, reduceCtorEq, Nat.reduceAdd, Nat.reduceEqDiff, decide_eq_true_eq, decide_eq_false_iff_not, Bool.not_eq_true', Bool.not_eq_false', Bool.and_eq_true, Bool.or_eq_true, Bool.and_eq_false_iff, Bool.or_eq_false_iff, Bool.cond_true_left, Bool.cond_false_right, Bool.cond_true_right, Bool.cond_false_left, Bool.or_false, Bool.and_true]
  clear hV V
  simp (maxSteps := 10000000) only [c15_8, go_sem, reduceIte, Nat.reduceBEq, Nat.reduceMul, reduceCtorEq, Nat.reduceAdd, Nat.reduceEqDiff, decide_eq_true_eq, decide_eq_false_iff_not, Bool.not_eq_true', Bool.not_eq_false', Bool.and_eq_true, Bool.or_eq_true, Bool.and_eq_false_iff, Bool.or_eq_false_iff, Bool.cond_true_left, Bool.cond_false_right, Bool.cond_true_right, Bool.cond_false_left, Bool.or_false, Bool.and_true, inR]
  refine loop_rule (β := Nat) (fun j => ⟨[(5, .ptr 5 0), (6, .ptr 6 0), (7, .int .i64 i), (8, .int .i64 j)], [(5, .box [.int .i64 (nId n), .int .i64 (nNodes n), .int .i64 (nTerm n), .int .i64 (nVote n), .int .i64 (nBase n), .int .i64 (nBT n), .str (nSnap n), .own 31 0 (nLog n).length, .int .i64 (nRole n), .int .i64 (nLead n), .int .i64 (nCommit n), .sl .bool (nVotes n) false, .sl tI (nNext n) false, .sl tI (nMatch n) false, .int .i64 (nClock n)]), (6, .box [.int .i64 (nId f), .int .i64 (nNodes f), .int .i64 (nTerm f), .int .i64 (nVote f), .int .i64 (nBase f), .int .i64 (nBT f), .str (nSnap f), .own 34 0 (nLog f).length, .int .i64 (nRole f), .int .i64 (nLead f), .int .i64 (nCommit f), .sl .bool (nVotes f) false, .sl tI (nNext f) false, .sl tI (nMatch f) false, .int .i64 (nClock f)]), (31, .row tEntry ((folN (nLog n)).take j ++ (nLog n).drop j) false), (34, .row tEntry (nLog f) false)]⟩) (fun j => j ≤ (nLog n).length) (fun j => (nLog n).length - j) 0 ?_ ?_ ?_
  · refine Ent_of [(5, 5), (6, 6), (31, 31), (34, 34)] rfl ?_ ?_
    · simp only [go_sem, reduceIte, Nat.reduceBEq, Nat.reduceMul, reduceCtorEq, Nat.reduceAdd, Nat.reduceEqDiff, decide_eq_true_eq, decide_eq_false_iff_not, Bool.not_eq_true', Bool.not_eq_false', Bool.and_eq_true, Bool.or_eq_true, Bool.and_eq_false_iff, Bool.or_eq_false_iff, Bool.cond_true_left, Bool.cond_false_right, Bool.cond_true_right, Bool.cond_false_left, Bool.or_false, Bool.and_true]
      rfl
    · simp only [go_sem, reduceIte, Nat.reduceBEq, Nat.reduceMul, reduceCtorEq, Nat.reduceAdd, Nat.reduceEqDiff, decide_eq_true_eq, decide_eq_false_iff_not, Bool.not_eq_true', Bool.not_eq_false', Bool.and_eq_true, Bool.or_eq_true, Bool.and_eq_false_iff, Bool.or_eq_false_iff, Bool.cond_true_left, Bool.cond_false_right, Bool.cond_true_right, Bool.cond_false_left, Bool.or_false, Bool.and_true]
      rfl
  · exact Nat.zero_le _
  intro j hj
  simp (maxSteps := 10000000) only [go_sem, reduceIte, Nat.reduceBEq, Nat.reduceMul, reduceCtorEq, Nat.reduceAdd, Nat.reduceEqDiff, decide_eq_true_eq, decide_eq_false_iff_not, Bool.not_eq_true', Bool.not_eq_false', Bool.and_eq_true, Bool.or_eq_true, Bool.and_eq_false_iff, Bool.or_eq_false_iff, Bool.cond_true_left, Bool.cond_false_right, Bool.cond_true_right, Bool.cond_false_left, Bool.or_false, Bool.and_true, inR]
  generalize hV : vc _ (C.cut c15_9) _ = V
  refine ⟨fun h => ?_, fun h => ?_⟩
  · have hjl : j < (nLog n).length := by omega
    have v1 := u1 _ (List.getElem_mem hjl)
    have v2 := w1 _ (List.getElem_mem hjl)
    rw [mix_get hB hjl]
    generalize hx : (nLog n)[j] = x at *
    have hx1 : x.1 = eTerm x := rfl
    simp only [hx1]
    refine ⟨by omega, by omega, by omega, by decide +kernel, by omega, Again.intro (j + 1) (Ent_of [(5, 5), (6, 6), (31, 31), (34, 34)] rfl ?_ ?_) (show j + 1 ≤ (nLog n).length by omega) (show (nLog n).length - (j + 1) < (nLog n).length - j by omega)⟩
    · simp only [go_sem, reduceIte, Nat.reduceBEq, Nat.reduceMul, reduceCtorEq, Nat.reduceAdd, Nat.reduceEqDiff, decide_eq_true_eq, decide_eq_false_iff_not, Bool.not_eq_true', Bool.not_eq_false', Bool.and_eq_true, Bool.or_eq_true, Bool.and_eq_false_iff, Bool.or_eq_false_iff, Bool.cond_true_left, Bool.cond_false_right, Bool.cond_true_right, Bool.cond_false_left, Bool.or_false, Bool.and_true]
      refine (take_set hB hjl ?_).symm
      unfold folN
      rw [List.getElem?_map, List.getElem?_eq_getElem hjl, hx]
      rfl
    · simp only [go_sem, reduceIte, Nat.reduceBEq, Nat.reduceMul, reduceCtorEq, Nat.reduceAdd, Nat.reduceEqDiff, decide_eq_true_eq, decide_eq_false_iff_not, Bool.not_eq_true', Bool.not_eq_false', Bool.and_eq_true, Bool.or_eq_true, Bool.and_eq_false_iff, Bool.or_eq_false_iff, Bool.cond_true_left, Bool.cond_false_right, Bool.cond_true_right, Bool.cond_false_left, Bool.or_false, Bool.and_true]
      rfl
  have hjn : j = (nLog n).length := by omega
  subst hjn
  rw [List.drop_length, List.append_nil, List.take_of_length_le (by omega)]
  refine cut_at hV ⟨[(5, .ptr 5 0), (6, .ptr 6 0), (7, .int .i64 i)], [(5, .box [.int .i64 (nId n), .int .i64 (nNodes n), .int .i64 (nTerm n), .int .i64 (nVote n), .int .i64 (nBase n), .int .i64 (nBT n), .str (nSnap n), .own 31 0 (nLog n).length, .int .i64 (nRole n), .int .i64 (nLead n), .int .i64 (nCommit n), .sl .bool (nVotes n) false, .sl tI (nNext n) false, .sl tI (nMatch n) false, .int .i64 (nClock n)]), (6, .box [.int .i64 (nId f), .int .i64 (nNodes f), .int .i64 (nTerm f), .int .i64 (nVote f), .int .i64 (nBase f), .int .i64 (nBT f), .str (nSnap f), .own 34 0 (nLog f).length, .int .i64 (nRole f), .int .i64 (nLead f), .int .i64 (nCommit f), .sl .bool (nVotes f) false, .sl tI (nNext f) false, .sl tI (nMatch f) false, .int .i64 (nClock f)]), (31, .row tEntry (folN (nLog n)) false), (34, .row tEntry (nLog f) false)]⟩ ?_ (Ent_of [(5, 5), (6, 6), (31, 31), (34, 34)] rfl ?_ ?_)
  rotate_left
  · simp only [go_sem, reduceIte, Nat.reduceBEq, Nat.reduceMul, reduceCtorEq, Nat.reduceAdd, Nat.reduceEqDiff, decide_eq_true_eq, decide_eq_false_iff_not, Bool.not_eq_true', Bool.not_eq_false', Bool.and_eq_true, Bool.or_eq_true, Bool.and_eq_false_iff, Bool.or_eq_false_iff, Bool.cond_true_left, Bool.cond_false_right, Bool.cond_true_right, Bool.cond_false_left, Bool.or_false, Bool.and_true]
  · simp only [go_sem, reduceIte, Nat.reduceBEq, Nat.reduceMul, reduceCtorEq, Nat.reduceAdd, Nat.reduceEqDiff, decide_eq_true_eq, decide_eq_false_iff_not, Bool.not_eq_true', Bool.not_eq_false', Bool.and_eq_true, Bool.or_eq_true, Bool.and_eq_false_iff, Bool.or_eq_false_iff, Bool.cond_true_left, Bool.cond_false_right, Bool.cond_true_right, Bool.cond_false_left, Bool.or_false, Bool.and_true]
  clear hV V
  simp (maxSteps := 10000000) only [c15_9, go_sem, reduceIte, Nat.reduceBEq, Nat.reduceMul, reduceCtorEq, Nat.reduceAdd, Nat.reduceEqDiff, decide_eq_true_eq, decide_eq_false_iff_not, Bool.not_eq_true', Bool.not_eq_false', Bool.and_eq_true, Bool.or_eq_true, Bool.and_eq_false_iff, Bool.or_eq_false_iff, Bool.cond_true_left, Bool.cond_false_right, Bool.cond_true_right, Bool.cond_false_left, Bool.or_false, Bool.and_true, inR]
  refine loop_rule (β := Nat) (fun j => ⟨[(5, .ptr 5 0), (6, .ptr 6 0), (7, .int .i64 i), (9, .int .i64 j)], [(5, .box [.int .i64 (nId n), .int .i64 (nNodes n), .int .i64 (nTerm n), .int .i64 (nVote n), .int .i64 (nBase n), .int .i64 (nBT n), .str (nSnap n), .own 31 0 (nLog n).length, .int .i64 (nRole n), .int .i64 (nLead n), .int .i64 (nCommit n), .sl .bool (nVotes n) false, .sl tI (nNext n) false, .sl tI (nMatch n) false, .int .i64 (nClock n)]), (6, .box [.int .i64 (nId f), .int .i64 (nNodes f), .int .i64 (nTerm f), .int .i64 (nVote f), .int .i64 (nBase f), .int .i64 (nBT f), .str (nSnap f), .own 34 0 (nLog f).length, .int .i64 (nRole f), .int .i64 (nLead f), .int .i64 (nCommit f), .sl .bool (nVotes f) false, .sl tI (nNext f) false, .sl tI (nMatch f) false, .int .i64 (nClock f)]), (31, .row tEntry (folN (nLog n)) false), (34, .row tEntry ((folF (nLog n) (nLog f) i).take j ++ (nLog f).drop j) false)]⟩) (fun j => j ≤ (nLog f).length) (fun j => (nLog f).length - j) 0 ?_ ?_ ?_
  · refine Ent_of [(5, 5), (6, 6), (31, 31), (34, 34)] rfl ?_ ?_
    · simp only [go_sem, reduceIte, Nat.reduceBEq, Nat.reduceMul, reduceCtorEq, Nat.reduceAdd, Nat.reduceEqDiff, decide_eq_true_eq, decide_eq_false_iff_not, Bool.not_eq_true', Bool.not_eq_false', Bool.and_eq_true, Bool.or_eq_true, Bool.and_eq_false_iff, Bool.or_eq_false_iff, Bool.cond_true_left, Bool.cond_false_right, Bool.cond_true_right, Bool.cond_false_left, Bool.or_false, Bool.and_true]
      rfl
    · simp only [go_sem, reduceIte, Nat.reduceBEq, Nat.reduceMul, reduceCtorEq, Nat.reduceAdd, Nat.reduceEqDiff, decide_eq_true_eq, decide_eq_false_iff_not, Bool.not_eq_true', Bool.not_eq_false', Bool.and_eq_true, Bool.or_eq_true, Bool.and_eq_false_iff, Bool.or_eq_false_iff, Bool.cond_true_left, Bool.cond_false_right, Bool.cond_true_right, Bool.cond_false_left, Bool.or_false, Bool.and_true]
      rfl
  · exact Nat.zero_le _
  intro j hj
  simp (maxSteps := 10000000) only [go_sem, reduceIte, Nat.reduceBEq, Nat.reduceMul, reduceCtorEq, Nat.reduceAdd, Nat.reduceEqDiff, decide_eq_true_eq, decide_eq_false_iff_not, Bool.not_eq_true', Bool.not_eq_false', Bool.and_eq_true, Bool.or_eq_true, Bool.and_eq_false_iff, Bool.or_eq_false_iff, Bool.cond_true_left, Bool.cond_false_right, Bool.cond_true_right, Bool.cond_false_left, Bool.or_false, Bool.and_true, inR]
  generalize hV : vc _ (C.cut c15_117) _ = V
  refine ⟨fun h => ?_, fun h => ?_⟩
  · have hjl : j < (nLog f).length := by omega
    have v1 := u2 _ (List.getElem_mem hjl)
    have v2 := w2 _ (List.getElem_mem hjl)
    rw [mix_get hA hjl]
    generalize hx : (nLog f)[j] = x at *
    have hx1 : x.1 = eTerm x := rfl
    simp only [hx1]
    refine ⟨by omega, by omega, by omega, by omega, by decide +kernel, fun hji => ⟨by omega, by omega, by decide +kernel, by omega, Again.intro (j + 1) (Ent_of [(5, 5), (6, 6), (31, 31), (34, 34)] rfl ?_ ?_) (show j + 1 ≤ (nLog f).length by omega) (show (nLog f).length - (j + 1) < (nLog f).length - j by omega)⟩,
      fun hji => ⟨by omega, Again.intro (j + 1) (Ent_of [(5, 5), (6, 6), (31, 31), (34, 34)] rfl ?_ ?_) (show j + 1 ≤ (nLog f).length by omega) (show (nLog f).length - (j + 1) < (nLog f).length - j by omega)⟩⟩
    · simp only [go_sem, reduceIte, Nat.reduceBEq, Nat.reduceMul, reduceCtorEq, Nat.reduceAdd, Nat.reduceEqDiff, decide_eq_true_eq, decide_eq_false_iff_not, Bool.not_eq_true', Bool.not_eq_false', Bool.and_eq_true, Bool.or_eq_true, Bool.and_eq_false_iff, Bool.or_eq_false_iff, Bool.cond_true_left, Bool.cond_false_right, Bool.cond_true_right, Bool.cond_false_left, Bool.or_false, Bool.and_true]
      rw [List.set_set]
      have hjn : j < (folN (nLog n)).length := by omega
      rw [List.getD_eq_getElem?_getD, List.getElem?_eq_getElem hjn]
      refine (take_set hA hjl ?_).symm
      rw [folF_lo hi1 (by omega)]
      exact List.getElem?_eq_getElem hjn
    · simp only [go_sem, reduceIte, Nat.reduceBEq, Nat.reduceMul, reduceCtorEq, Nat.reduceAdd, Nat.reduceEqDiff, decide_eq_true_eq, decide_eq_false_iff_not, Bool.not_eq_true', Bool.not_eq_false', Bool.and_eq_true, Bool.or_eq_true, Bool.and_eq_false_iff, Bool.or_eq_false_iff, Bool.cond_true_left, Bool.cond_false_right, Bool.cond_true_right, Bool.cond_false_left, Bool.or_false, Bool.and_true]
      rfl
    · simp only [go_sem, reduceIte, Nat.reduceBEq, Nat.reduceMul, reduceCtorEq, Nat.reduceAdd, Nat.reduceEqDiff, decide_eq_true_eq, decide_eq_false_iff_not, Bool.not_eq_true', Bool.not_eq_false', Bool.and_eq_true, Bool.or_eq_true, Bool.and_eq_false_iff, Bool.or_eq_false_iff, Bool.cond_true_left, Bool.cond_false_right, Bool.cond_true_right, Bool.cond_false_left, Bool.or_false, Bool.and_true]
      refine (take_set hA hjl ?_).symm
      rw [folF_hi hi1 (by omega), List.getElem?_eq_getElem hjl, hx]
      rfl
    · simp only [go_sem, reduceIte, Nat.reduceBEq, Nat.reduceMul, reduceCtorEq, Nat.reduceAdd, Nat.reduceEqDiff, decide_eq_true_eq, decide_eq_false_iff_not, Bool.not_eq_true', Bool.not_eq_false', Bool.and_eq_true, Bool.or_eq_true, Bool.and_eq_false_iff, Bool.or_eq_false_iff, Bool.cond_true_left, Bool.cond_false_right, Bool.cond_true_right, Bool.cond_false_left, Bool.or_false, Bool.and_true]
      rfl
  have hjn : j = (nLog f).length := by omega
  subst hjn
  rw [List.drop_length, List.append_nil, List.take_of_length_le (by omega)]
  refine cut_at hV ⟨[(5, .ptr 5 0), (6, .ptr 6 0), (7, .int .i64 i)], [(5, .box [.int .i64 (nId n), .int .i64 (nNodes n), .int .i64 (nTerm n), .int .i64 (nVote n), .int .i64 (nBase n), .int .i64 (nBT n), .str (nSnap n), .own 31 0 (nLog n).length, .int .i64 (nRole n), .int .i64 (nLead n), .int .i64 (nCommit n), .sl .bool (nVotes n) false, .sl tI (nNext n) false, .sl tI (nMatch n) false, .int .i64 (nClock n)]), (6, .box [.int .i64 (nId f), .int .i64 (nNodes f), .int .i64 (nTerm f), .int .i64 (nVote f), .int .i64 (nBase f), .int .i64 (nBT f), .str (nSnap f), .own 34 0 (nLog f).length, .int .i64 (nRole f), .int .i64 (nLead f), .int .i64 (nCommit f), .sl .bool (nVotes f) false, .sl tI (nNext f) false, .sl tI (nMatch f) false, .int .i64 (nClock f)]), (31, .row tEntry (folN (nLog n)) false), (34, .row tEntry (folF (nLog n) (nLog f) i) false)]⟩ ?_ (Ent_of [(5, 5), (6, 6), (31, 31), (34, 34)] rfl ?_ ?_)
  rotate_left
  · simp only [go_sem, reduceIte, Nat.reduceBEq, Nat.reduceMul, reduceCtorEq, Nat.reduceAdd, Nat.reduceEqDiff, decide_eq_true_eq, decide_eq_false_iff_not, Bool.not_eq_true', Bool.not_eq_false', Bool.and_eq_true, Bool.or_eq_true, Bool.and_eq_false_iff, Bool.or_eq_false_iff, Bool.cond_true_left, Bool.cond_false_right, Bool.cond_true_right, Bool.cond_false_left, Bool.or_false, Bool.and_true]
  · simp only [go_sem, reduceIte, Nat.reduceBEq, Nat.reduceMul, reduceCtorEq, Nat.reduceAdd, Nat.reduceEqDiff, decide_eq_true_eq, decide_eq_false_iff_not, Bool.not_eq_true', Bool.not_eq_false', Bool.and_eq_true, Bool.or_eq_true, Bool.and_eq_false_iff, Bool.or_eq_false_iff, Bool.cond_true_left, Bool.cond_false_right, Bool.cond_true_right, Bool.cond_false_left, Bool.or_false, Bool.and_true]
  clear hV V
  simp (maxSteps := 10000000) only [c15_117, go_sem, reduceIte, Nat.reduceBEq, Nat.reduceMul, reduceCtorEq, Nat.reduceAdd, Nat.reduceEqDiff, decide_eq_true_eq, decide_eq_false_iff_not, Bool.not_eq_true', Bool.not_eq_false', Bool.and_eq_true, Bool.or_eq_true, Bool.and_eq_false_iff, Bool.or_eq_false_iff, Bool.cond_true_left, Bool.cond_false_right, Bool.cond_true_right, Bool.cond_false_left, Bool.or_false, Bool.and_true, inR]
  generalize hV : vc _ (C.cut c15_126) _ = V
  refine ⟨by omega, by omega, by omega, by decide +kernel, ?_⟩
  refine cut_at hV ⟨[(5, .ptr 5 0), (6, .ptr 6 0), (7, .int .i64 i)], [(5, .box [.int .i64 (nId n), .int .i64 (nNodes n), .int .i64 (2 * nTerm n), .int .i64 (nVote n), .int .i64 (nBase n), .int .i64 (nBT n), .str (nSnap n), .own 31 0 (nLog n).length, .int .i64 (nRole n), .int .i64 (nLead n), .int .i64 (nCommit n), .sl .bool (nVotes n) false, .sl tI (nNext n) false, .sl tI (nMatch n) false, .int .i64 (nClock n)]), (6, .box [.int .i64 (nId f), .int .i64 (nNodes f), .int .i64 (2 * nTerm f + 1), .int .i64 (nVote f), .int .i64 (nBase f), .int .i64 (nBT f), .str (nSnap f), .own 34 0 (nLog f).length, .int .i64 (nRole f), .int .i64 (nLead f), .int .i64 (nCommit f), .sl .bool (nVotes f) false, .sl tI (nNext f) false, .sl tI (nMatch f) false, .int .i64 (nClock f)]), (31, .row tEntry (folN (nLog n)) false), (34, .row tEntry (folF (nLog n) (nLog f) i) false)]⟩ ?_ (Ent_of [(5, 5), (6, 6), (31, 31), (34, 34)] rfl ?_ ?_)
  rotate_left
  · simp only [go_sem, reduceIte, Nat.reduceBEq, Nat.reduceMul, reduceCtorEq, Nat.reduceAdd, Nat.reduceEqDiff, decide_eq_true_eq, decide_eq_false_iff_not, Bool.not_eq_true', Bool.not_eq_false', Bool.and_eq_true, Bool.or_eq_true, Bool.and_eq_false_iff, Bool.or_eq_false_iff, Bool.cond_true_left, Bool.cond_false_right, Bool.cond_true_right, Bool.cond_false_left, Bool.or_false, Bool.and_true]
    repeat (first | exact rfl | refine ⟨rfl, ?_⟩)
  · simp only [go_sem, reduceIte, Nat.reduceBEq, Nat.reduceMul, reduceCtorEq, Nat.reduceAdd, Nat.reduceEqDiff, decide_eq_true_eq, decide_eq_false_iff_not, Bool.not_eq_true', Bool.not_eq_false', Bool.and_eq_true, Bool.or_eq_true, Bool.and_eq_false_iff, Bool.or_eq_false_iff, Bool.cond_true_left, Bool.cond_false_right, Bool.cond_true_right, Bool.cond_false_left, Bool.or_false, Bool.and_true]
  clear hV V
  simp (maxSteps := 10000000) only [c15_126, go_sem, reduceIte, Nat.reduceBEq, Nat.reduceMul, reduceCtorEq, Nat.reduceAdd, Nat.reduceEqDiff, decide_eq_true_eq, decide_eq_false_iff_not, Bool.not_eq_true', Bool.not_eq_false', Bool.and_eq_true, Bool.or_eq_true, Bool.and_eq_false_iff, Bool.or_eq_false_iff, Bool.cond_true_left, Bool.cond_false_right, Bool.cond_true_right, Bool.cond_false_left, Bool.or_false, Bool.and_true, inR]
  generalize hV : vc _ (C.cut c15_144) _ = V
  refine ⟨by decide +kernel, by omega, ?_⟩
  refine cut_at hV ⟨[(5, .ptr 5 0), (6, .ptr 6 0)], [(5, .box [.int .i64 (nId n), .int .i64 (nNodes n), .int .i64 (max (2 * nTerm n) (2 * nTerm f + 1) + 1), .int .i64 (nVote n), .int .i64 (nBase n), .int .i64 (nBT n), .str (nSnap n), .own 31 0 (nLog n).length, .int .i64 (nRole n), .int .i64 (nLead n), .int .i64 (min (nCommit n) i), .sl .bool (nVotes n) false, .sl tI (nNext n) false, .sl tI (nMatch n) false, .int .i64 (nClock n)]), (6, .box [.int .i64 (nId f), .int .i64 (nNodes f), .int .i64 (2 * nTerm f + 1), .int .i64 (nVote f), .int .i64 (nBase f), .int .i64 (nBT f), .str (nSnap f), .own 34 0 (nLog f).length, .int .i64 (nRole f), .int .i64 (nLead f), .int .i64 (min (nCommit f) i), .sl .bool (nVotes f) false, .sl tI (nNext f) false, .sl tI (nMatch f) false, .int .i64 (nClock f)]), (31, .row tEntry (folN (nLog n)) false), (34, .row tEntry (folF (nLog n) (nLog f) i) false)]⟩ ?_ (Ent_of [(5, 5), (6, 6), (31, 31), (34, 34)] rfl ?_ ?_)
  rotate_left
  · simp only [go_sem, reduceIte, Nat.reduceBEq, Nat.reduceMul, reduceCtorEq, Nat.reduceAdd, Nat.reduceEqDiff, decide_eq_true_eq, decide_eq_false_iff_not, Bool.not_eq_true', Bool.not_eq_false', Bool.and_eq_true, Bool.or_eq_true, Bool.and_eq_false_iff, Bool.or_eq_false_iff, Bool.cond_true_left, Bool.cond_false_right, Bool.cond_true_right, Bool.cond_false_left, Bool.or_false, Bool.and_true]
    repeat (first | exact rfl | refine ⟨rfl, ?_⟩)
  · simp only [go_sem, reduceIte, Nat.reduceBEq, Nat.reduceMul, reduceCtorEq, Nat.reduceAdd, Nat.reduceEqDiff, decide_eq_true_eq, decide_eq_false_iff_not, Bool.not_eq_true', Bool.not_eq_false', Bool.and_eq_true, Bool.or_eq_true, Bool.and_eq_false_iff, Bool.or_eq_false_iff, Bool.cond_true_left, Bool.cond_false_right, Bool.cond_true_right, Bool.cond_false_left, Bool.or_false, Bool.and_true]
  clear hV V
  simp (maxSteps := 10000000) only [c15_144, go_sem, reduceIte, Nat.reduceBEq, Nat.reduceMul, reduceCtorEq, Nat.reduceAdd, Nat.reduceEqDiff, decide_eq_true_eq, decide_eq_false_iff_not, Bool.not_eq_true', Bool.not_eq_false', Bool.and_eq_true, Bool.or_eq_true, Bool.and_eq_false_iff, Bool.or_eq_false_iff, Bool.cond_true_left, Bool.cond_false_right, Bool.cond_true_right, Bool.cond_false_left, Bool.or_false, Bool.and_true, inR]
  simp only [mkPr]
  generalize hV : vc _ (C.cut c15_11) _ = V
  generalize hq : mkN _ _ _ _ _ _ _ (List.take _ (folN _)) _ _ _ _ _ _ _ = q
  have eq : q = folA n f i := by
    rw [← hq, List.take_of_length_le (by omega)]
    rfl
  clear hq
  subst eq
  refine ⟨hrl, ?_⟩
  refine cut_at hV ⟨[(5, .ptr 5 0), (6, .ptr 6 0), (10, .own 24501 0 (lead2 (folA n f i)).length)], [(5, .box (cellsA tNode (lead1 (folA n f i)) [])), (6, .box (cellsA tNode (folB n f i) [])), (24501, .row tMsg (lead2 (folA n f i)) false)]⟩ ?_ (Ent_fz [34] [(5, 5), (6, 6), (24501, 24501)] rfl ?_ ?_)
  rotate_left
  · simp only [go_sem, reduceIte, Nat.reduceBEq, Nat.reduceMul, reduceCtorEq, Nat.reduceAdd, Nat.reduceEqDiff, decide_eq_true_eq, decide_eq_false_iff_not, Bool.not_eq_true', Bool.not_eq_false', Bool.and_eq_true, Bool.or_eq_true, Bool.and_eq_false_iff, Bool.or_eq_false_iff, Bool.cond_true_left, Bool.cond_false_right, Bool.cond_true_right, Bool.cond_false_left, Bool.or_false, Bool.and_true]
    refine ⟨rfl, rfl, rfl, rfl, rfl, rfl, rfl, List.take_of_length_le (by omega), rfl, rfl, rfl, rfl, rfl, rfl, rfl⟩
  · simp only [go_sem, reduceIte, Nat.reduceBEq, Nat.reduceMul, reduceCtorEq, Nat.reduceAdd, Nat.reduceEqDiff, decide_eq_true_eq, decide_eq_false_iff_not, Bool.not_eq_true', Bool.not_eq_false', Bool.and_eq_true, Bool.or_eq_true, Bool.and_eq_false_iff, Bool.or_eq_false_iff, Bool.cond_true_left, Bool.cond_false_right, Bool.cond_true_right, Bool.cond_false_left, Bool.or_false, Bool.and_true]
  clear hV V
  simp (maxSteps := 10000000) only [c15_11, go_sem, reduceIte, Nat.reduceBEq, Nat.reduceMul, reduceCtorEq, Nat.reduceAdd, Nat.reduceEqDiff, decide_eq_true_eq, decide_eq_false_iff_not, Bool.not_eq_true', Bool.not_eq_false', Bool.and_eq_true, Bool.or_eq_true, Bool.and_eq_false_iff, Bool.or_eq_false_iff, Bool.cond_true_left, Bool.cond_false_right, Bool.cond_true_right, Bool.cond_false_left, Bool.or_false, Bool.and_true, inR]
  refine loop_rule (β := Nat × RS) (fun p => ⟨[(5, .ptr 5 0), (6, .ptr 6 0), (10, .own 24501 0 p.2.l.length), (11, .int .i64 p.1)], [(5, .box (cellsA tNode p.2.n [])), (6, .box (cellsA tNode p.2.f [])), (24501, .row tMsg p.2.l false)]⟩) (fun p => ∃ j, p.1 + j ≤ 200 ∧ Path p.2 j sF) (fun p => 200 - p.1) (0, ⟨lead1 (folA n f i), folB n f i, lead2 (folA n f i), 0⟩) ?_ ?_ ?_
  · refine Ent_of [(5, 5), (6, 6), (24501, 24501)] rfl ?_ ?_
    · simp only [go_sem, reduceIte, Nat.reduceBEq, Nat.reduceMul, reduceCtorEq, Nat.reduceAdd, Nat.reduceEqDiff, decide_eq_true_eq, decide_eq_false_iff_not, Bool.not_eq_true', Bool.not_eq_false', Bool.and_eq_true, Bool.or_eq_true, Bool.and_eq_false_iff, Bool.or_eq_false_iff, Bool.cond_true_left, Bool.cond_false_right, Bool.cond_true_right, Bool.cond_false_left, Bool.or_false, Bool.and_true]
    · simp only [go_sem, reduceIte, Nat.reduceBEq, Nat.reduceMul, reduceCtorEq, Nat.reduceAdd, Nat.reduceEqDiff, decide_eq_true_eq, decide_eq_false_iff_not, Bool.not_eq_true', Bool.not_eq_false', Bool.and_eq_true, Bool.or_eq_true, Bool.and_eq_false_iff, Bool.or_eq_false_iff, Bool.cond_true_left, Bool.cond_false_right, Bool.cond_true_right, Bool.cond_false_left, Bool.or_false, Bool.and_true]
      rfl
  · obtain ⟨j, h1, h2⟩ := hrun
    exact ⟨j, by show 0 + j ≤ 200; omega, h2⟩
  clear hrun hrl hA hB hi1 hi2 m1 m2 u1 u2 w1 w2 hln hlf hla hlb h0 h0'
  rintro ⟨q, n, f, l, k⟩ ⟨j, hj, hp⟩
  have hj : q + j ≤ 200 := hj
  simp (maxSteps := 10000000) only [go_sem, reduceIte, Nat.reduceBEq, Nat.reduceMul, reduceCtorEq, Nat.reduceAdd, Nat.reduceEqDiff, decide_eq_true_eq, decide_eq_false_iff_not, Bool.not_eq_true', Bool.not_eq_false', Bool.and_eq_true, Bool.or_eq_true, Bool.and_eq_false_iff, Bool.or_eq_false_iff, Bool.cond_true_left, Bool.cond_false_right, Bool.cond_true_right, Bool.cond_false_left, Bool.or_false, Bool.and_true, inR]
  generalize hV : vc _ (C.cut c15_188) _ = V
  have hg := hp.good
  rcases hp.drop hend.1 with ⟨h0, rfl⟩ | ⟨hne, j', rfl, hp'⟩
  · have h0 : l = [] := h0
    subst h0
    refine ⟨fun h => absurd h (by simp), fun _ => ?_⟩
    refine cut_at hV ⟨[(5, .ptr 5 0), (6, .ptr 6 0), (10, .own 24501 0 0)], [(5, .box (cellsA tNode n [])), (6, .box (cellsA tNode f [])), (24501, .row tMsg [] false)]⟩ ?_ (Ent_of [(5, 5), (6, 6), (24501, 24501)] rfl ?_ ?_)
    rotate_left
    · simp only [go_sem, reduceIte, Nat.reduceBEq, Nat.reduceMul, reduceCtorEq, Nat.reduceAdd, Nat.reduceEqDiff, decide_eq_true_eq, decide_eq_false_iff_not, Bool.not_eq_true', Bool.not_eq_false', Bool.and_eq_true, Bool.or_eq_true, Bool.and_eq_false_iff, Bool.or_eq_false_iff, Bool.cond_true_left, Bool.cond_false_right, Bool.cond_true_right, Bool.cond_false_left, Bool.or_false, Bool.and_true]
    · simp only [go_sem, reduceIte, Nat.reduceBEq, Nat.reduceMul, reduceCtorEq, Nat.reduceAdd, Nat.reduceEqDiff, decide_eq_true_eq, decide_eq_false_iff_not, Bool.not_eq_true', Bool.not_eq_false', Bool.and_eq_true, Bool.or_eq_true, Bool.and_eq_false_iff, Bool.or_eq_false_iff, Bool.cond_true_left, Bool.cond_false_right, Bool.cond_true_right, Bool.cond_false_left, Bool.or_false, Bool.and_true]
    clear hV V
    simp (maxSteps := 10000000) only [c15_188, go_sem, reduceIte, Nat.reduceBEq, Nat.reduceMul, reduceCtorEq, Nat.reduceAdd, Nat.reduceEqDiff, decide_eq_true_eq, decide_eq_false_iff_not, Bool.not_eq_true', Bool.not_eq_false', Bool.and_eq_true, Bool.or_eq_true, Bool.and_eq_false_iff, Bool.or_eq_false_iff, Bool.cond_true_left, Bool.cond_false_right, Bool.cond_true_right, Bool.cond_false_left, Bool.or_false, Bool.and_true, inR]
    obtain ⟨_, e1, e2, e3, e4, e5⟩ := hend
    have e1 : n.2.2.2.2.2.2.2.1 = f.2.2.2.2.2.2.2.1 := e1
    exact ⟨fun _ => hg.1.2.2.2.2.1, ⟨⟨⟨⟨⟨rfl, by rw [e1]; exact eqB_self _⟩, e2⟩, e3⟩, e4⟩, e5⟩⟩
  · have hl1 := hg.2.2.2.2.1
    have hl1 : l.length ≤ 1 := hl1
    obtain ⟨m, rfl⟩ : ∃ m, l = [m] := by
      cases l with
      | nil => exact absurd rfl hne
      | cons m r => cases r with
        | nil => exact ⟨m, rfl⟩
        | cons a r => simp at hl1
    have hmg := hg.2.2.2.2.2 m (List.mem_singleton.2 rfl)
    have hm0 : List.getD [m] 0 (dflt tMsg) = m := rfl
    simp only [hm0]
    have hsmE : smallL (mEntries m) := by rw [sm]; omega
    have ht2 : (take2 f m).length ≤ 1048576 := (take2_small f m).1
    have hh2 : (heard2 n m).length ≤ 1048576 := (heard2_small n m).1
    have hA : (0 : Int) ≤ 0 ∧ (0 : Int) < ([m].length : Int) := ⟨by decide, by show (0 : Int) < 1; decide⟩
    have hB : (0 : Int) ≤ 1 ∧ (1 : Int) ≤ ([m].length : Int) ∧ ([m].length : Int) ≤ ([m].length : Int) := ⟨by decide, by show (1 : Int) ≤ 1; decide, Int.le_refl _⟩
    have hC : [m].length - Int.toNat 1 = 0 := rfl
    simp only [hC, Nat.zero_add]
    have hq200 : q < 200 := by omega
    have hKr : okIdx (mIndex m) := ⟨by omega, by omega⟩
    have take_done : mTo m = 1 → ∃ k', Path ⟨n, take1 f m, take2 f m, k'⟩ j' sF := by
      intro hto
      rw [rstep_f hto] at hp'
      exact ⟨_, hp'⟩
    refine ⟨fun h => ⟨hA, fun hto => ?_,
      fun hto => ⟨hA, ⟨hg.1, hg.2.2.1 _, by omega, by omega, hg.2.2.2.1⟩, by decide +kernel, hB, ⟨by omega, by omega⟩, by decide +kernel, by omega, Again.intro (q + 1, ⟨heard1 n m, f, heard2 n m, k⟩) (Ent_of [(5, 5), (6, 6), (24501, 187)] rfl ?_ ?_) ⟨j', show q + 1 + j' ≤ 200 by omega, by rw [rstep_n hto] at hp'; exact hp'⟩ (show 200 - (q + 1) < 200 - q by omega)⟩⟩, fun h => ?_⟩
    · obtain ⟨k', hpk⟩ := take_done hto
      refine ⟨hA, ⟨hg.2.1, hKr, hsmE⟩, by decide +kernel, hB, ⟨by omega, by omega⟩, by decide +kernel, by omega, Again.intro (q + 1, ⟨n, take1 f m, take2 f m, k'⟩) (Ent_of [(5, 5), (6, 6), (24501, 174)] rfl ?_ ?_) ⟨j', show q + 1 + j' ≤ 200 by omega, hpk⟩ (show 200 - (q + 1) < 200 - q by omega)⟩
      · simp only [go_sem, reduceIte, Nat.reduceBEq, Nat.reduceMul, reduceCtorEq, Nat.reduceAdd, Nat.reduceEqDiff, decide_eq_true_eq, decide_eq_false_iff_not, Bool.not_eq_true', Bool.not_eq_false', Bool.and_eq_true, Bool.or_eq_true, Bool.and_eq_false_iff, Bool.or_eq_false_iff, Bool.cond_true_left, Bool.cond_false_right, Bool.cond_true_right, Bool.cond_false_left, Bool.or_false, Bool.and_true]
        rfl
      · simp only [go_sem, reduceIte, Nat.reduceBEq, Nat.reduceMul, reduceCtorEq, Nat.reduceAdd, Nat.reduceEqDiff, decide_eq_true_eq, decide_eq_false_iff_not, Bool.not_eq_true', Bool.not_eq_false', Bool.and_eq_true, Bool.or_eq_true, Bool.and_eq_false_iff, Bool.or_eq_false_iff, Bool.cond_true_left, Bool.cond_false_right, Bool.cond_true_right, Bool.cond_false_left, Bool.or_false, Bool.and_true]
        rfl
    · simp only [go_sem, reduceIte, Nat.reduceBEq, Nat.reduceMul, reduceCtorEq, Nat.reduceAdd, Nat.reduceEqDiff, decide_eq_true_eq, decide_eq_false_iff_not, Bool.not_eq_true', Bool.not_eq_false', Bool.and_eq_true, Bool.or_eq_true, Bool.and_eq_false_iff, Bool.or_eq_false_iff, Bool.cond_true_left, Bool.cond_false_right, Bool.cond_true_right, Bool.cond_false_left, Bool.or_false, Bool.and_true]
      rfl
    · simp only [go_sem, reduceIte, Nat.reduceBEq, Nat.reduceMul, reduceCtorEq, Nat.reduceAdd, Nat.reduceEqDiff, decide_eq_true_eq, decide_eq_false_iff_not, Bool.not_eq_true', Bool.not_eq_false', Bool.and_eq_true, Bool.or_eq_true, Bool.and_eq_false_iff, Bool.or_eq_false_iff, Bool.cond_true_left, Bool.cond_false_right, Bool.cond_true_right, Bool.cond_false_left, Bool.or_false, Bool.and_true]
      rfl
    · exfalso
      omega
end Go.AM
