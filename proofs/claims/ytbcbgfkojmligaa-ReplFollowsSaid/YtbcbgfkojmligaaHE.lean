import Derived.Test.YtbcbgfkojmligaaHD
import Derived.Test.YtbcbgfkojmligaaTE
/- What functions of the program answer, each under the conditions that its contract names. -/
set_option linter.unusedVariables false
set_option linter.unusedSimpArgs false
set_option maxRecDepth 100000
set_option maxHeartbeats 4000000
set_option linter.unusedSimpArgs false
namespace Go.AM
open Go.Proofs
attribute [local congr] vc_congr evOps_congr evTab_congr bind_congr condK_congr tabK_congr
def MM : Int := 1099511627776
def checkA (n : Node) : Bool := inB (nNodes n) 1 5 && inB (nId n) 0 (nNodes n - 1) && decide (((nVotes n).length : Int) = nNodes n) && decide (((nNext n).length : Int) = nNodes n) && decide (((nMatch n).length : Int) = nNodes n)
def checkB (n : Node) : Bool := eachB [nTerm n, nBase n, nBT n, nCommit n, nClock n] 0 MM && eachB [nVote n, nLead n] (-1) (nNodes n - 1) && inB (nRole n) 0 2
def checkC (n : Node) : Bool := inB (nCommit n) (nBase n) (last n) && eachB (nNext n) 1 MM && eachB (nMatch n) 0 MM && !((nLog n).any fun e => !inB e.1 0 (nTerm n))
def checkN (n : Node) : Bool := checkA n && checkB n && checkC n
def fn46 : Fn := { a := .pair tNode .unit, r := .pair .bool .unit, pre := fun x => InR .i64 (last x.1) ∧ smallL (nLog x.1) ∧ smallL (nNext x.1) ∧ smallL (nMatch x.1), f := fun x => (checkN x.1, ()) }
theorem h46  : Holds Try.prog 46 (fn46) := by
  refine Holds.of_vc (T := [(97, fn97), (98, fn98), (99, fn99), (52, fn52), (100, fn100)]) (TT := ttL) (rowAt := []) (c := c46) (ros := [.t 2]) (.cons _ h97 (.cons _ h98 (.cons _ h99 (.cons _ h52 (.cons _ h100 (.nil _)))))) mixed Try.func46 (by decide +kernel) (by rfl) comp46 (by kernel_rfl) rfl rfl (fun h => by cases h) ?_
  rintro ⟨(n : Node), _⟩ hpre
  simp only [fn46] at hpre ⊢
  simp only [c46, fn97, fn98, fn99, fn52, fn100, go_sem, reduceIte, Nat.reduceBEq, Nat.reduceMul, reduceCtorEq, Nat.reduceAdd, Nat.reduceEqDiff, decide_eq_true_eq, decide_eq_false_iff_not, Bool.not_eq_true', Bool.not_eq_false', Bool.and_eq_true, Bool.or_eq_true, Bool.and_eq_false_iff, Bool.or_eq_false_iff, Bool.cond_true_left, Bool.cond_false_right, Bool.cond_true_right, Bool.cond_false_left, Bool.or_false, Bool.and_true, inR]
  have hin : inB (nNodes n) 1 5 = true → 1 ≤ nNodes n ∧ nNodes n ≤ 5 := by unfold inB; simp only [Bool.and_eq_true, Bool.or_eq_true, decide_eq_true_eq, decide_eq_false_iff_not, Bool.and_eq_false_iff, Bool.or_eq_false_iff, Bool.not_eq_true', Bool.not_eq_false']; exact id
  refine ⟨fun h => by have := hin h; dsimp only [den, nId, nNodes, nTerm, nVote, nBase, nBT, nSnap, nLog, nRole, nLead, nCommit, nVotes, nNext, nMatch, nClock, mKind, mFrom, mTo, mTerm, mIndex, mAt, mYes, mCommit, mEntries, mSnap, eTerm, eCmd, mkN, mkM, mkE, last, inR, sm, lastT] at *; omega, fun h => ?_, fun h => ?_⟩
  · have : checkA n = false := by unfold checkA; simp only [Bool.and_eq_true, Bool.or_eq_true, decide_eq_true_eq, decide_eq_false_iff_not, Bool.and_eq_false_iff, Bool.or_eq_false_iff, Bool.not_eq_true', Bool.not_eq_false']; exact h
    unfold checkN; rw [this]; rfl
  have hA : checkA n = true := by unfold checkA; simp only [Bool.and_eq_true, Bool.or_eq_true, decide_eq_true_eq, decide_eq_false_iff_not, Bool.and_eq_false_iff, Bool.or_eq_false_iff, Bool.not_eq_true', Bool.not_eq_false']; exact h
  have hN5 := hin h.1.1.1.1
  refine ⟨by rw [sm]; simp, fun _ => by dsimp only [den, nId, nNodes, nTerm, nVote, nBase, nBT, nSnap, nLog, nRole, nLead, nCommit, nVotes, nNext, nMatch, nClock, mKind, mFrom, mTo, mTerm, mIndex, mAt, mYes, mCommit, mEntries, mSnap, eTerm, eCmd, mkN, mkM, mkE, last, inR, sm, lastT] at *; omega, fun _ => by rw [sm]; simp, fun h => ?_, fun h => ?_⟩
  · have : checkB n = false := by unfold checkB; simp only [Bool.and_eq_true, Bool.or_eq_true, decide_eq_true_eq, decide_eq_false_iff_not, Bool.and_eq_false_iff, Bool.or_eq_false_iff, Bool.not_eq_true', Bool.not_eq_false']; exact h
    unfold checkN; rw [this, Bool.and_false]; rfl
  have hB : checkB n = true := by unfold checkB; simp only [Bool.and_eq_true, Bool.or_eq_true, decide_eq_true_eq, decide_eq_false_iff_not, Bool.and_eq_false_iff, Bool.or_eq_false_iff, Bool.not_eq_true', Bool.not_eq_false']; exact h
  refine ⟨hpre.1, fun _ => hpre.2.2.1, fun _ => hpre.2.2.2, fun _ => hpre.2.1, by rfl, ?_⟩
  unfold checkN
  rw [hA, hB]
  rfl
def fn64 : Fn := { a := .pair tI (.pair tI .unit), r := .pair tNode .unit, pre := fun _ => True, f := fun x => (newN x.1 x.2.1, ()) }
theorem h64  : Holds Try.prog 64 (fn64) := by
  refine Holds.of_vc (T := []) (TT := ttL) (rowAt := []) (c := c64) (ros := [.c 4 15]) (.nil _) mixed Try.func64 (by decide +kernel) (by rfl) comp64 (by kernel_rfl) rfl rfl (fun h => by cases h) ?_
  rintro ⟨(id : Int), (nodes : Int), _⟩ hpre
  simp only [fn64] at hpre ⊢
  simp only [c64, go_sem, reduceIte, Nat.reduceBEq, Nat.reduceMul, reduceCtorEq, Nat.reduceAdd, Nat.reduceEqDiff, decide_eq_true_eq, decide_eq_false_iff_not, Bool.not_eq_true', Bool.not_eq_false', Bool.and_eq_true, Bool.or_eq_true, Bool.and_eq_false_iff, Bool.or_eq_false_iff, Bool.cond_true_left, Bool.cond_false_right, Bool.cond_true_right, Bool.cond_false_left, Bool.or_false, Bool.and_true, inR]
  have hk1 : 1 ≤ max 1 (min nodes 5) := by omega
  have hk5 : max 1 (min nodes 5) ≤ 5 := by omega
  have hke : max 1 (min nodes 5) = min (max nodes 1) 5 := by omega
  simp only [newN]
  rw [← hke]
  generalize max 1 (min nodes 5) = k at *
  refine ⟨by omega, by omega, by omega, by omega, by rfl, ?_⟩
  refine loop_rule (β := Nat) (fun i => ⟨[(4, .ptr 4 0), (5, .ptr 5 0), (28, .int .i64 k.toNat), (29, .int .i64 i)], [(4, .box zN),
    (5, .box [.int .i64 (max 0 (min id (k - 1))), .int .i64 k, .int .i64 0, .int .i64 (-1), .int .i64 0, .int .i64 0, .str ⟨#[]⟩, .sl tEntry [] true, .int .i64 0, .int .i64 (-1), .int .i64 0, .own 18 0 k.toNat, .own 20 0 k.toNat, .own 22 0 k.toNat, .int .i64 0]),
    (18, .row .bool (List.replicate k.toNat false) false), (20, .row tI (List.replicate i (1 : Int) ++ List.replicate (k.toNat - i) (0 : Int)) false), (22, .row tI (List.replicate k.toNat (0 : Int)) false)]⟩)
    (fun i => i ≤ k.toNat) (fun i => k.toNat - i) 0 ?_ ?_ ?_
  · refine Ent_of [(4, 4), (5, 5), (18, 18), (20, 20), (22, 22)] rfl ?_ ?_
    · simp only [go_sem, reduceIte, Nat.reduceBEq, Nat.reduceMul, reduceCtorEq, Nat.reduceAdd, Nat.reduceEqDiff, decide_eq_true_eq, decide_eq_false_iff_not, Bool.not_eq_true', Bool.not_eq_false', Bool.and_eq_true, Bool.or_eq_true, Bool.and_eq_false_iff, Bool.or_eq_false_iff, Bool.cond_true_left, Bool.cond_false_right, Bool.cond_true_right, Bool.cond_false_left, Bool.or_false, Bool.and_true]
      exact ⟨rfl, rfl, rfl⟩
    · simp only [go_sem, reduceIte, Nat.reduceBEq, Nat.reduceMul, reduceCtorEq, Nat.reduceAdd, Nat.reduceEqDiff, decide_eq_true_eq, decide_eq_false_iff_not, Bool.not_eq_true', Bool.not_eq_false', Bool.and_eq_true, Bool.or_eq_true, Bool.and_eq_false_iff, Bool.or_eq_false_iff, Bool.cond_true_left, Bool.cond_false_right, Bool.cond_true_right, Bool.cond_false_left, Bool.or_false, Bool.and_true]
      trivial
  · exact Nat.zero_le _
  · intro i hi
    simp only [go_sem, reduceIte, Nat.reduceBEq, Nat.reduceMul, reduceCtorEq, Nat.reduceAdd, Nat.reduceEqDiff, decide_eq_true_eq, decide_eq_false_iff_not, Bool.not_eq_true', Bool.not_eq_false', Bool.and_eq_true, Bool.or_eq_true, Bool.and_eq_false_iff, Bool.or_eq_false_iff, Bool.cond_true_left, Bool.cond_false_right, Bool.cond_true_right, Bool.cond_false_left, Bool.or_false, Bool.and_true, inR]
    refine ⟨fun h => ⟨by omega, by omega, Again.intro (i + 1) (Ent_of [(4, 4), (5, 5), (18, 18), (20, 20), (22, 22)] rfl ?_ ?_) ?_ ?_⟩, fun h => ?_⟩
    · simp only [go_sem, reduceIte, Nat.reduceBEq, Nat.reduceMul, reduceCtorEq, Nat.reduceAdd, Nat.reduceEqDiff, decide_eq_true_eq, decide_eq_false_iff_not, Bool.not_eq_true', Bool.not_eq_false', Bool.and_eq_true, Bool.or_eq_true, Bool.and_eq_false_iff, Bool.or_eq_false_iff, Bool.cond_true_left, Bool.cond_false_right, Bool.cond_true_right, Bool.cond_false_left, Bool.or_false, Bool.and_true]
      exact (ones_set i k.toNat (by omega)).symm
    · simp only [go_sem, reduceIte, Nat.reduceBEq, Nat.reduceMul, reduceCtorEq, Nat.reduceAdd, Nat.reduceEqDiff, decide_eq_true_eq, decide_eq_false_iff_not, Bool.not_eq_true', Bool.not_eq_false', Bool.and_eq_true, Bool.or_eq_true, Bool.and_eq_false_iff, Bool.or_eq_false_iff, Bool.cond_true_left, Bool.cond_false_right, Bool.cond_true_right, Bool.cond_false_left, Bool.or_false, Bool.and_true]
      omega
    · show i + 1 ≤ k.toNat; omega
    · show k.toNat - (i + 1) < k.toNat - i; omega
    · rw [show i = k.toNat by omega, Nat.sub_self, List.replicate_zero, List.append_nil, List.take_replicate, Nat.min_self, show max 0 (min id (k - 1)) = min (max id 0) (k - 1) by omega]
      rfl
theorem put'_ne {m l : List E} {k i : Nat} (hi : i < l.length) (h : m.length ≤ k ∨ ¬ (m.getD k (dflt tEntry)).1 = (l.getD i (dflt tEntry)).1) : put' m k (l.drop i) = m.take k ++ l.drop i := by
  rw [List.drop_eq_getElem_cons hi]
  rw [List.getD_eq_getElem?_getD, List.getD_eq_getElem?_getD, List.getElem?_eq_getElem hi] at h
  refine if_neg fun e => ?_
  rcases h with h | h
  · rw [List.getElem?_eq_none h] at e
    cases e
  · rcases Nat.lt_or_ge k m.length with hk | hk
    · rw [List.getElem?_eq_getElem hk] at e h
      simp only [Option.map_some, Option.some.injEq, Option.getD_some] at e h
      exact h e
    · rw [List.getElem?_eq_none hk] at e
      cases e
theorem put'_eq {m l : List E} {k i : Nat} (hi : i < l.length) (hk : k < m.length) (h : (m.getD k (dflt tEntry)).1 = (l.getD i (dflt tEntry)).1) : put' m k (l.drop i) = put' m (k + 1) (l.drop (i + 1)) := by
  rw [List.drop_eq_getElem_cons hi]
  rw [List.getD_eq_getElem?_getD, List.getD_eq_getElem?_getD, List.getElem?_eq_getElem hi, List.getElem?_eq_getElem hk] at h
  simp only [Option.getD_some] at h
  refine if_pos ?_
  rw [List.getElem?_eq_getElem hk]
  simp only [Option.map_some, h]
theorem put'_nil {m : List E} {k : Nat} : put' m k [] = m := rfl
def fn34 : Fn := { a := .pair tNode (.pair tI (.pair (.list tEntry) .unit)), r := .pair tNode .unit, pre := fun x => smallL (nLog x.1) ∧ smallL x.2.2.1 ∧ InR .i64 (x.2.1 - nBase x.1) ∧ InR .i64 (last x.1), f := fun x => (put x.1 x.2.1 x.2.2.1, ()) }
theorem h34  : Holds Try.prog 34 (fn34) := by
  refine Holds.of_vc (T := [(52, fn52)]) (TT := ttL) (rowAt := []) (c := c34) (ros := [.c 6 15]) (.cons _ h52 (.nil _)) mixed Try.func34 (by decide +kernel) (by rfl) comp34 (by kernel_rfl) rfl rfl (fun h => by cases h) ?_
  rintro ⟨(n : Node), (prev : Int), (l : List E), _⟩ hpre
  simp only [fn34] at hpre ⊢
  simp only [c34, fn52, go_sem, reduceIte, Nat.reduceBEq, Nat.reduceMul, reduceCtorEq, Nat.reduceAdd, Nat.reduceEqDiff, decide_eq_true_eq, decide_eq_false_iff_not, Bool.not_eq_true', Bool.not_eq_false', Bool.and_eq_true, Bool.or_eq_true, Bool.and_eq_false_iff, Bool.or_eq_false_iff, Bool.cond_true_left, Bool.cond_false_right, Bool.cond_true_right, Bool.cond_false_left, Bool.or_false, Bool.and_true, inR]
  obtain ⟨p1, p2, p3, p4⟩ := hpre
  refine ⟨p3, fun _ => p4, fun h => ?_, fun h => ?_⟩
  · exact (if_pos (by dsimp only [den, nId, nNodes, nTerm, nVote, nBase, nBT, nSnap, nLog, nRole, nLead, nCommit, nVotes, nNext, nMatch, nClock, mKind, mFrom, mTo, mTerm, mIndex, mAt, mYes, mCommit, mEntries, mSnap, eTerm, eCmd, mkN, mkM, mkE, last, inR, sm, lastT] at *; omega)).symm
  have hput : put n prev l = setLog n (put' (nLog n) (prev - nBase n).toNat l) := if_neg (by dsimp only [den, nId, nNodes, nTerm, nVote, nBase, nBT, nSnap, nLog, nRole, nLead, nCommit, nVotes, nNext, nMatch, nClock, mKind, mFrom, mTo, mTerm, mIndex, mAt, mYes, mCommit, mEntries, mSnap, eTerm, eCmd, mkN, mkM, mkE, last, inR, sm, lastT] at *; omega)
  rw [hput]
  clear hput
  have hat : 0 ≤ prev - nBase n ∧ prev - nBase n ≤ (nLog n).length := by dsimp only [den, nId, nNodes, nTerm, nVote, nBase, nBT, nSnap, nLog, nRole, nLead, nCommit, nVotes, nNext, nMatch, nClock, mKind, mFrom, mTo, mTerm, mIndex, mAt, mYes, mCommit, mEntries, mSnap, eTerm, eCmd, mkN, mkM, mkE, last, inR, sm, lastT] at *; omega
  generalize hat' : prev - n.2.2.2.2.1 = at_ at *
  refine loop_rule (β := Nat) (fun i => ⟨[(2, .sl tEntry l false), (3, .ptr 3 0), (6, .ptr 6 0), (7, .int .i64 at_), (37, .sl tEntry l false), (38, .int .i64 l.length), (39, .int .i64 i)], [(3, .box (cellsA tNode n [])), (6, .box zN)]⟩)
    (fun i => i ≤ l.length ∧ at_.toNat + i ≤ (nLog n).length ∧ put' (nLog n) (at_.toNat + i) (l.drop i) = put' (nLog n) at_.toNat l) (fun i => l.length - i) 0 ?_ ?_ ?_
  · refine Ent_of [(3, 3), (6, 6)] rfl ?_ ?_
    · simp only [go_sem, reduceIte, Nat.reduceBEq, Nat.reduceMul, reduceCtorEq, Nat.reduceAdd, Nat.reduceEqDiff, decide_eq_true_eq, decide_eq_false_iff_not, Bool.not_eq_true', Bool.not_eq_false', Bool.and_eq_true, Bool.or_eq_true, Bool.and_eq_false_iff, Bool.or_eq_false_iff, Bool.cond_true_left, Bool.cond_false_right, Bool.cond_true_right, Bool.cond_false_left, Bool.or_false, Bool.and_true]
    · simp only [go_sem, reduceIte, Nat.reduceBEq, Nat.reduceMul, reduceCtorEq, Nat.reduceAdd, Nat.reduceEqDiff, decide_eq_true_eq, decide_eq_false_iff_not, Bool.not_eq_true', Bool.not_eq_false', Bool.and_eq_true, Bool.or_eq_true, Bool.and_eq_false_iff, Bool.or_eq_false_iff, Bool.cond_true_left, Bool.cond_false_right, Bool.cond_true_right, Bool.cond_false_left, Bool.or_false, Bool.and_true]
      trivial
  · refine ⟨Nat.zero_le _, ?_, rfl⟩
    dsimp only [den, nId, nNodes, nTerm, nVote, nBase, nBT, nSnap, nLog, nRole, nLead, nCommit, nVotes, nNext, nMatch, nClock, mKind, mFrom, mTo, mTerm, mIndex, mAt, mYes, mCommit, mEntries, mSnap, eTerm, eCmd, mkN, mkM, mkE, last, inR, sm, lastT] at *; omega
  rintro i ⟨hi, hki, hk⟩
  simp only [sm] at p1 p2
  simp only [go_sem, reduceIte, Nat.reduceBEq, Nat.reduceMul, reduceCtorEq, Nat.reduceAdd, Nat.reduceEqDiff, decide_eq_true_eq, decide_eq_false_iff_not, Bool.not_eq_true', Bool.not_eq_false', Bool.and_eq_true, Bool.or_eq_true, Bool.and_eq_false_iff, Bool.or_eq_false_iff, Bool.cond_true_left, Bool.cond_false_right, Bool.cond_true_right, Bool.cond_false_left, Bool.or_false, Bool.and_true, inR, decide_true]
  have hki' : at_.toNat + i ≤ n.2.2.2.2.2.2.2.1.length := hki
  have p1' : n.2.2.2.2.2.2.2.1.length ≤ 1048576 := p1
  have hat1 : 0 ≤ at_ := hat.1
  have e0 : (at_ + (i : Int)).toNat = at_.toNat + i := by omega
  have hl1 : (List.take (at_.toNat + i) n.2.2.2.2.2.2.2.1).length ≤ 1048576 := by rw [List.length_take]; omega
  have hl2 : (List.drop i l).length ≤ 1048576 := by rw [List.length_drop]; omega
  simp only [e0]
  refine ⟨fun h => ⟨by omega, by omega, fun h2 => by omega, by rfl, fun h2 => ⟨by omega, by omega, ⟨.inr ?_, by omega, by omega⟩, by rfl, ?_⟩, fun h2 => ⟨by omega, Again.intro (i + 1) (Ent_of [(3, 3), (6, 6)] rfl ?_ ?_) ⟨?_, ?_, ?_⟩ (show l.length - (i + 1) < l.length - i by omega)⟩⟩, fun h => ?_⟩
  · intro e
    have := congrArg List.length e
    rw [List.length_drop] at this
    simp only [List.length_nil] at this
    omega
  · rw [← hk, put'_ne (by omega) ?_, List.take_of_length_le (by rw [List.length_append]; exact Nat.le_refl _)]
    · rfl
    · rcases h2 with h2 | h2
      · left; show n.2.2.2.2.2.2.2.1.length ≤ _; omega
      · exact .inr h2
  · simp only [go_sem, reduceIte, Nat.reduceBEq, Nat.reduceMul, reduceCtorEq, Nat.reduceAdd, Nat.reduceEqDiff, decide_eq_true_eq, decide_eq_false_iff_not, Bool.not_eq_true', Bool.not_eq_false', Bool.and_eq_true, Bool.or_eq_true, Bool.and_eq_false_iff, Bool.or_eq_false_iff, Bool.cond_true_left, Bool.cond_false_right, Bool.cond_true_right, Bool.cond_false_left, Bool.or_false, Bool.and_true]
  · simp only [go_sem, reduceIte, Nat.reduceBEq, Nat.reduceMul, reduceCtorEq, Nat.reduceAdd, Nat.reduceEqDiff, decide_eq_true_eq, decide_eq_false_iff_not, Bool.not_eq_true', Bool.not_eq_false', Bool.and_eq_true, Bool.or_eq_true, Bool.and_eq_false_iff, Bool.or_eq_false_iff, Bool.cond_true_left, Bool.cond_false_right, Bool.cond_true_right, Bool.cond_false_left, Bool.or_false, Bool.and_true]
    omega
  · show i + 1 ≤ l.length; omega
  · show at_.toNat + (i + 1) ≤ n.2.2.2.2.2.2.2.1.length; omega
  · rw [← hk, put'_eq (by omega) (show at_.toNat + i < n.2.2.2.2.2.2.2.1.length by omega) h2.2]
    rfl
  · rw [← hk, show i = l.length by omega, List.drop_length, put'_nil]
    rfl
end Go.AM
