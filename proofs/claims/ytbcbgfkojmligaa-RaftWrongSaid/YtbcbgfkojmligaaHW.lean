import Derived.Test.YtbcbgfkojmligaaHV
import Derived.Test.YtbcbgfkojmligaaTW
/- What functions of the program answer, each under the conditions that its contract names. -/
set_option linter.unusedVariables false
set_option linter.unusedSimpArgs false
set_option maxRecDepth 100000
set_option maxHeartbeats 40000000
set_option linter.unusedSimpArgs false
namespace Go.AM
open Go.Proofs
attribute [local congr] vc_congr evOps_congr evTab_congr bind_congr condK_congr tabK_congr
def wrN : Node := mkN (nId (newN 0 3)) (nNodes (newN 0 3)) 4 (nVote (newN 0 3)) (nBase (newN 0 3)) (nBT (newN 0 3)) (nSnap (newN 0 3)) (nLog (newN 0 3)) 2 0 (nCommit (newN 0 3)) (nVotes (newN 0 3)) (nNext (newN 0 3)) (nMatch (newN 0 3)) (nClock (newN 0 3))
theorem right_parts {m : Msg} {nodes : Int} (h : rightB m nodes = true) : (1 ≤ mKind m ∧ mKind m ≤ 5) ∧ mFrom m ≠ mTo m ∧ (0 ≤ mFrom m ∧ mFrom m ≤ nodes - 1) ∧ (1 ≤ mTerm m ∧ mTerm m ≤ 1099511627776) ∧ 0 ≤ mIndex m ∧ ((mEntries m).length : Int) ≤ 20 ∧ (∀ e ∈ mEntries m, e.1 ≤ mTerm m) := by
  unfold rightB inB at h
  simp only [Bool.and_eq_true, decide_eq_true_eq, Bool.not_eq_true', decide_eq_false_iff_not, List.any_eq_false] at h
  obtain ⟨⟨⟨⟨⟨⟨⟨⟨⟨qq1, qq2⟩, qq3⟩, qq4⟩, qq5⟩, qq6⟩, qq7⟩, qq8⟩, qq9⟩, qq10⟩ := h
  refine ⟨qq1, qq2, qq3, qq5, qq6.1, qq9, fun e he => ?_⟩
  have := qq10 e he
  have qq11 : 0 ≤ e.1 ∧ e.1 ≤ mTerm m := by
    apply Classical.byContradiction
    intro hn
    apply this
    rw [Bool.and_eq_false_iff, decide_eq_false_iff_not, decide_eq_false_iff_not]
    by_cases qq0 : 0 ≤ e.1
    · exact .inr fun qq12 => hn ⟨qq0, qq12⟩
    · exact .inl qq0
  exact qq11.2
theorem right_no {m : Msg} {nodes : Int} (h : rightB m nodes = true → False) : rightB m nodes = false := by
  cases hb : rightB m nodes with
  | false => rfl
  | true => exact (h hb).elim
def raftWrongFn : Fn := { a := .pair tI (.pair tI .unit), r := .pair .bool .unit, pre := fun _ => True, f := fun _ => (true, ()) }
theorem h21  : Holds Try.prog 21 (raftWrongFn) := by
  refine Holds.of_vcc (T := [(31, fn31), (23, fn23), (84, fn84), (80, fn80w), (33, fn33), (76, fn76)]) (TT := ttL) (rowAt := []) (c := c21) (ros := [.t 4]) (.cons _ h31 (.cons _ h23 (.cons _ h84 (.cons _ h80w (.cons _ h33 (.cons _ h76 (.nil _))))))) mixed Try.func21 (by decide +kernel) (by rfl) comp21 (by kernel_rfl) rfl rfl (fun h => by cases h) ?_
  rintro ⟨(how : Int), (v : Int), _⟩ hpre
  simp only [raftWrongFn] at hpre ⊢
  simp only [c21, fn31, fn23, fn84, fn80w, fn33, fn76, go_sem, reduceIte, Nat.reduceBEq, Nat.reduceMul, reduceCtorEq, Nat.reduceAdd, Nat.reduceEqDiff, decide_eq_true_eq, decide_eq_false_iff_not, Bool.not_eq_true', Bool.not_eq_false', Bool.and_eq_true, Bool.or_eq_true, Bool.and_eq_false_iff, Bool.or_eq_false_iff, Bool.cond_true_left, Bool.cond_false_right, Bool.cond_true_right, Bool.cond_false_left, Bool.or_false, Bool.and_true, inR, fn23, p19]
  simp only [mkPrM]
  generalize hV : vc _ (C.cut c21_73) _ = V
  have hsw : smallN wrN := by refine ⟨?_, ?_, ?_, ?_⟩ <;> exact of_decide_eq_true (by rfl)
  have H : ∀ m : Msg, rightB m 3 = false → ∀ σ, (Ent σ ⟨[(5, .ptr 5 0), (7, .ptr 7 0)], [(5, .box (cellsA tNode wrN [])), (7, .box (cellsA tMsg m []))]⟩ ∨
      (Ent σ ⟨[(5, .ptr 5 0), (7, .ptr 7 0)], [(5, .box (cellsA tNode wrN [])), (7, .box [.int .i64 (mKind m), .int .i64 (mFrom m), .int .i64 (mTo m), .int .i64 (mTerm m), .int .i64 (mIndex m), .int .i64 (mAt m), .bool (mYes m), .int .i64 (mCommit m), .own 70 0 (mEntries m).length, .str (mSnap m)]), (70, .row tEntry (mEntries m) false)]⟩)) → V σ := by
    intro m hr σ hσ
    have hp : InR .i64 (nNodes wrN - 1) ∧ (rightB m (nNodes wrN) = false ∨ mTo m ≠ nId wrN) := ⟨by show InR .i64 (3 - 1); rw [inR]; omega, .inl hr⟩
    have hp2 : InR .i64 (nNodes wrN - 1) ∧ (rightB (mkM 1 1 2 9 0 0 false 0 [] noB) (nNodes wrN) = false ∨ mTo (mkM 1 1 2 9 0 0 false 0 [] noB) ≠ nId wrN) := ⟨hp.1, .inr (by show (2 : Int) ≠ 0; decide)⟩
    rcases hσ with hσ | hσ
    · refine cut_at hV _ ?_ hσ
      clear hV hσ
      simp (maxSteps := 10000000) only [c21_73, go_sem, reduceIte, Nat.reduceBEq, Nat.reduceMul, reduceCtorEq, Nat.reduceAdd, Nat.reduceEqDiff, decide_eq_true_eq, decide_eq_false_iff_not, Bool.not_eq_true', Bool.not_eq_false', Bool.and_eq_true, Bool.or_eq_true, Bool.and_eq_false_iff, Bool.or_eq_false_iff, Bool.cond_true_left, Bool.cond_false_right, Bool.cond_true_right, Bool.cond_false_left, Bool.or_false, Bool.and_true]
      generalize hV : vc _ (C.cut c21_79) _ = V
      refine ⟨hp, ?_⟩
      refine cut_at hV ⟨[(5, .ptr 5 0), (7, .ptr 7 0), (8, .ptr 8 0), (9, .sl tMsg [] false)], [(5, .box (cellsA tNode wrN [])), (7, .box (cellsA tMsg m [])), (8, .box (cellsA tNode wrN []))]⟩ ?_ (Ent_of [(5, 5), (7, 7), (8, 8)] rfl ?_ ?_)
      rotate_left
      · simp only [go_sem, reduceIte, Nat.reduceBEq, Nat.reduceMul, reduceCtorEq, Nat.reduceAdd, Nat.reduceEqDiff, decide_eq_true_eq, decide_eq_false_iff_not, Bool.not_eq_true', Bool.not_eq_false', Bool.and_eq_true, Bool.or_eq_true, Bool.and_eq_false_iff, Bool.or_eq_false_iff, Bool.cond_true_left, Bool.cond_false_right, Bool.cond_true_right, Bool.cond_false_left, Bool.or_false, Bool.and_true]
      · simp only [go_sem, reduceIte, Nat.reduceBEq, Nat.reduceMul, reduceCtorEq, Nat.reduceAdd, Nat.reduceEqDiff, decide_eq_true_eq, decide_eq_false_iff_not, Bool.not_eq_true', Bool.not_eq_false', Bool.and_eq_true, Bool.or_eq_true, Bool.and_eq_false_iff, Bool.or_eq_false_iff, Bool.cond_true_left, Bool.cond_false_right, Bool.cond_true_right, Bool.cond_false_left, Bool.or_false, Bool.and_true]
      clear hV
      simp (maxSteps := 10000000) only [c21_79, go_sem, reduceIte, Nat.reduceBEq, Nat.reduceMul, reduceCtorEq, Nat.reduceAdd, Nat.reduceEqDiff, decide_eq_true_eq, decide_eq_false_iff_not, Bool.not_eq_true', Bool.not_eq_false', Bool.and_eq_true, Bool.or_eq_true, Bool.and_eq_false_iff, Bool.or_eq_false_iff, Bool.cond_true_left, Bool.cond_false_right, Bool.cond_true_right, Bool.cond_false_left, Bool.or_false, Bool.and_true, mkPrM]
      generalize hV : vc _ (C.cut c21_84) _ = V
      refine ⟨hp2, ?_⟩
      refine cut_at hV ⟨[(5, .ptr 5 0), (7, .ptr 7 0), (8, .ptr 8 0), (9, .sl tMsg [] false), (10, .ptr 10 0), (11, .sl tMsg [] false)], [(5, .box (cellsA tNode wrN [])), (7, .box (cellsA tMsg m [])), (8, .box (cellsA tNode wrN [])), (10, .box (cellsA tNode wrN []))]⟩ ?_ (Ent_of [(5, 5), (7, 7), (8, 8), (10, 10)] rfl ?_ ?_)
      rotate_left
      · simp only [go_sem, reduceIte, Nat.reduceBEq, Nat.reduceMul, reduceCtorEq, Nat.reduceAdd, Nat.reduceEqDiff, decide_eq_true_eq, decide_eq_false_iff_not, Bool.not_eq_true', Bool.not_eq_false', Bool.and_eq_true, Bool.or_eq_true, Bool.and_eq_false_iff, Bool.or_eq_false_iff, Bool.cond_true_left, Bool.cond_false_right, Bool.cond_true_right, Bool.cond_false_left, Bool.or_false, Bool.and_true]
      · simp only [go_sem, reduceIte, Nat.reduceBEq, Nat.reduceMul, reduceCtorEq, Nat.reduceAdd, Nat.reduceEqDiff, decide_eq_true_eq, decide_eq_false_iff_not, Bool.not_eq_true', Bool.not_eq_false', Bool.and_eq_true, Bool.or_eq_true, Bool.and_eq_false_iff, Bool.or_eq_false_iff, Bool.cond_true_left, Bool.cond_false_right, Bool.cond_true_right, Bool.cond_false_left, Bool.or_false, Bool.and_true]
      clear hV
      have q4 : decide (((0 : Nat) : Int) = 0) = true := rfl
      simp (maxSteps := 10000000) only [c21_84, go_sem, reduceIte, Nat.reduceBEq, Nat.reduceMul, reduceCtorEq, Nat.reduceAdd, Nat.reduceEqDiff, decide_eq_true_eq, decide_eq_false_iff_not, Bool.not_eq_true', Bool.not_eq_false', Bool.and_eq_true, Bool.or_eq_true, Bool.and_eq_false_iff, Bool.or_eq_false_iff, Bool.cond_true_left, Bool.cond_false_right, Bool.cond_true_right, Bool.cond_false_left, Bool.or_false, Bool.and_true, inR, hr, eqB_self, q4, decide_true]
      exact ⟨by omega, hsw⟩
    · refine cut_at hV _ ?_ hσ
      clear hV hσ
      simp (maxSteps := 10000000) only [c21_73, go_sem, reduceIte, Nat.reduceBEq, Nat.reduceMul, reduceCtorEq, Nat.reduceAdd, Nat.reduceEqDiff, decide_eq_true_eq, decide_eq_false_iff_not, Bool.not_eq_true', Bool.not_eq_false', Bool.and_eq_true, Bool.or_eq_true, Bool.and_eq_false_iff, Bool.or_eq_false_iff, Bool.cond_true_left, Bool.cond_false_right, Bool.cond_true_right, Bool.cond_false_left, Bool.or_false, Bool.and_true]
      generalize hV : vc _ (C.cut c21_79) _ = V
      refine ⟨hp, ?_⟩
      refine cut_at hV ⟨[(5, .ptr 5 0), (7, .ptr 7 0), (8, .ptr 8 0), (9, .sl tMsg [] false)], [(5, .box (cellsA tNode wrN [])), (7, .box (cellsA tMsg m [])), (8, .box (cellsA tNode wrN []))]⟩ ?_ (Ent_of [(5, 5), (7, 7), (8, 8)] rfl ?_ ?_)
      rotate_left
      · simp only [go_sem, reduceIte, Nat.reduceBEq, Nat.reduceMul, reduceCtorEq, Nat.reduceAdd, Nat.reduceEqDiff, decide_eq_true_eq, decide_eq_false_iff_not, Bool.not_eq_true', Bool.not_eq_false', Bool.and_eq_true, Bool.or_eq_true, Bool.and_eq_false_iff, Bool.or_eq_false_iff, Bool.cond_true_left, Bool.cond_false_right, Bool.cond_true_right, Bool.cond_false_left, Bool.or_false, Bool.and_true]
        trace_state
      · simp only [go_sem, reduceIte, Nat.reduceBEq, Nat.reduceMul, reduceCtorEq, Nat.reduceAdd, Nat.reduceEqDiff, decide_eq_true_eq, decide_eq_false_iff_not, Bool.not_eq_true', Bool.not_eq_false', Bool.and_eq_true, Bool.or_eq_true, Bool.and_eq_false_iff, Bool.or_eq_false_iff, Bool.cond_true_left, Bool.cond_false_right, Bool.cond_true_right, Bool.cond_false_left, Bool.or_false, Bool.and_true]
        trace_state
      clear hV
      simp (maxSteps := 10000000) only [c21_79, go_sem, reduceIte, Nat.reduceBEq, Nat.reduceMul, reduceCtorEq, Nat.reduceAdd, Nat.reduceEqDiff, decide_eq_true_eq, decide_eq_false_iff_not, Bool.not_eq_true', Bool.not_eq_false', Bool.and_eq_true, Bool.or_eq_true, Bool.and_eq_false_iff, Bool.or_eq_false_iff, Bool.cond_true_left, Bool.cond_false_right, Bool.cond_true_right, Bool.cond_false_left, Bool.or_false, Bool.and_true, mkPrM]
      generalize hV : vc _ (C.cut c21_84) _ = V
      refine ⟨hp2, ?_⟩
      refine cut_at hV ⟨[(5, .ptr 5 0), (7, .ptr 7 0), (8, .ptr 8 0), (9, .sl tMsg [] false), (10, .ptr 10 0), (11, .sl tMsg [] false)], [(5, .box (cellsA tNode wrN [])), (7, .box (cellsA tMsg m [])), (8, .box (cellsA tNode wrN [])), (10, .box (cellsA tNode wrN []))]⟩ ?_ (Ent_of [(5, 5), (7, 7), (8, 8), (10, 10)] rfl ?_ ?_)
      rotate_left
      · simp only [go_sem, reduceIte, Nat.reduceBEq, Nat.reduceMul, reduceCtorEq, Nat.reduceAdd, Nat.reduceEqDiff, decide_eq_true_eq, decide_eq_false_iff_not, Bool.not_eq_true', Bool.not_eq_false', Bool.and_eq_true, Bool.or_eq_true, Bool.and_eq_false_iff, Bool.or_eq_false_iff, Bool.cond_true_left, Bool.cond_false_right, Bool.cond_true_right, Bool.cond_false_left, Bool.or_false, Bool.and_true]
      · simp only [go_sem, reduceIte, Nat.reduceBEq, Nat.reduceMul, reduceCtorEq, Nat.reduceAdd, Nat.reduceEqDiff, decide_eq_true_eq, decide_eq_false_iff_not, Bool.not_eq_true', Bool.not_eq_false', Bool.and_eq_true, Bool.or_eq_true, Bool.and_eq_false_iff, Bool.or_eq_false_iff, Bool.cond_true_left, Bool.cond_false_right, Bool.cond_true_right, Bool.cond_false_left, Bool.or_false, Bool.and_true]
      clear hV
      have q4 : decide (((0 : Nat) : Int) = 0) = true := rfl
      simp (maxSteps := 10000000) only [c21_84, go_sem, reduceIte, Nat.reduceBEq, Nat.reduceMul, reduceCtorEq, Nat.reduceAdd, Nat.reduceEqDiff, decide_eq_true_eq, decide_eq_false_iff_not, Bool.not_eq_true', Bool.not_eq_false', Bool.and_eq_true, Bool.or_eq_true, Bool.and_eq_false_iff, Bool.or_eq_false_iff, Bool.cond_true_left, Bool.cond_false_right, Bool.cond_true_right, Bool.cond_false_left, Bool.or_false, Bool.and_true, inR, hr, eqB_self, q4, decide_true]
      exact ⟨by omega, hsw⟩
  clear hV
  have hv0 := Int.emod_nonneg v (show (1000 : Int) ≠ 0 by decide)
  have hv1 := Int.emod_lt_of_pos v (show (0 : Int) < 1000 by decide)
  obtain ⟨K, hK⟩ : ∃ K : Int, K = 1 + v % 1000 := ⟨_, rfl⟩
  simp only [← hK]
  have hK1 : 1 ≤ K ∧ K ≤ 1000 := by omega
  clear hK hv0 hv1
  have hr0 : rightB (mkM 1 1 0 9 0 0 false 0 [] noB) 3 = true := by rfl
  refine ⟨show (0 : Int) < 1000 ∧ (1000 : Int) ≤ 1099511627776 by decide, by omega, ?_⟩
  refine ⟨by omega, ?_⟩
  refine ⟨fun h => (by rw [show rightB (mkM 1 1 0 9 0 0 false 0 [] noB) 3 = false from h] at hr0; cases hr0), fun _ => ⟨show (0 : Int) < 10 ∧ (10 : Int) ≤ 1099511627776 by decide, ?_⟩⟩
  repeat' (first | apply And.intro | intro _)
  all_goals try omega
  · refine H (mkM (5 + K) 1 0 9 0 0 false 0 [] noB) (right_no fun h => by have p := right_parts h; have h1 : 5 + K ≤ 5 := p.1.2; omega) _ (.inl (Ent_of [(5, 5), (7, 7)] rfl ?_ ?_))
    · simp only [go_sem, reduceIte, Nat.reduceBEq, Nat.reduceMul, reduceCtorEq, Nat.reduceAdd, Nat.reduceEqDiff, decide_eq_true_eq, decide_eq_false_iff_not, Bool.not_eq_true', Bool.not_eq_false', Bool.and_eq_true, Bool.or_eq_true, Bool.and_eq_false_iff, Bool.or_eq_false_iff, Bool.cond_true_left, Bool.cond_false_right, Bool.cond_true_right, Bool.cond_false_left, Bool.or_false, Bool.and_true]
      repeat' (first | exact rfl | apply And.intro)
      all_goals (first | omega | exact (List.length_replicate ..).symm | exact List.length_replicate ..)
    · simp only [go_sem, reduceIte, Nat.reduceBEq, Nat.reduceMul, reduceCtorEq, Nat.reduceAdd, Nat.reduceEqDiff, decide_eq_true_eq, decide_eq_false_iff_not, Bool.not_eq_true', Bool.not_eq_false', Bool.and_eq_true, Bool.or_eq_true, Bool.and_eq_false_iff, Bool.or_eq_false_iff, Bool.cond_true_left, Bool.cond_false_right, Bool.cond_true_right, Bool.cond_false_left, Bool.or_false, Bool.and_true]
  · refine H (mkM (0 - K) 1 0 9 0 0 false 0 [] noB) (right_no fun h => by have p := right_parts h; have h1 : 1 ≤ 0 - K := p.1.1; omega) _ (.inl (Ent_of [(5, 5), (7, 7)] rfl ?_ ?_))
    · simp only [go_sem, reduceIte, Nat.reduceBEq, Nat.reduceMul, reduceCtorEq, Nat.reduceAdd, Nat.reduceEqDiff, decide_eq_true_eq, decide_eq_false_iff_not, Bool.not_eq_true', Bool.not_eq_false', Bool.and_eq_true, Bool.or_eq_true, Bool.and_eq_false_iff, Bool.or_eq_false_iff, Bool.cond_true_left, Bool.cond_false_right, Bool.cond_true_right, Bool.cond_false_left, Bool.or_false, Bool.and_true]
      repeat' (first | exact rfl | apply And.intro)
      all_goals (first | omega | exact (List.length_replicate ..).symm | exact List.length_replicate ..)
    · simp only [go_sem, reduceIte, Nat.reduceBEq, Nat.reduceMul, reduceCtorEq, Nat.reduceAdd, Nat.reduceEqDiff, decide_eq_true_eq, decide_eq_false_iff_not, Bool.not_eq_true', Bool.not_eq_false', Bool.and_eq_true, Bool.or_eq_true, Bool.and_eq_false_iff, Bool.or_eq_false_iff, Bool.cond_true_left, Bool.cond_false_right, Bool.cond_true_right, Bool.cond_false_left, Bool.or_false, Bool.and_true]
  · refine H (mkM 1 (2 + K) 0 9 0 0 false 0 [] noB) (right_no fun h => by have p := right_parts h; have h1 : 2 + K ≤ 3 - 1 := p.2.2.1.2; omega) _ (.inl (Ent_of [(5, 5), (7, 7)] rfl ?_ ?_))
    · simp only [go_sem, reduceIte, Nat.reduceBEq, Nat.reduceMul, reduceCtorEq, Nat.reduceAdd, Nat.reduceEqDiff, decide_eq_true_eq, decide_eq_false_iff_not, Bool.not_eq_true', Bool.not_eq_false', Bool.and_eq_true, Bool.or_eq_true, Bool.and_eq_false_iff, Bool.or_eq_false_iff, Bool.cond_true_left, Bool.cond_false_right, Bool.cond_true_right, Bool.cond_false_left, Bool.or_false, Bool.and_true]
      repeat' (first | exact rfl | apply And.intro)
      all_goals (first | omega | exact (List.length_replicate ..).symm | exact List.length_replicate ..)
    · simp only [go_sem, reduceIte, Nat.reduceBEq, Nat.reduceMul, reduceCtorEq, Nat.reduceAdd, Nat.reduceEqDiff, decide_eq_true_eq, decide_eq_false_iff_not, Bool.not_eq_true', Bool.not_eq_false', Bool.and_eq_true, Bool.or_eq_true, Bool.and_eq_false_iff, Bool.or_eq_false_iff, Bool.cond_true_left, Bool.cond_false_right, Bool.cond_true_right, Bool.cond_false_left, Bool.or_false, Bool.and_true]
  · refine H (mkM 1 (0 - K) 0 9 0 0 false 0 [] noB) (right_no fun h => by have p := right_parts h; have h1 : 0 ≤ 0 - K := p.2.2.1.1; omega) _ (.inl (Ent_of [(5, 5), (7, 7)] rfl ?_ ?_))
    · simp only [go_sem, reduceIte, Nat.reduceBEq, Nat.reduceMul, reduceCtorEq, Nat.reduceAdd, Nat.reduceEqDiff, decide_eq_true_eq, decide_eq_false_iff_not, Bool.not_eq_true', Bool.not_eq_false', Bool.and_eq_true, Bool.or_eq_true, Bool.and_eq_false_iff, Bool.or_eq_false_iff, Bool.cond_true_left, Bool.cond_false_right, Bool.cond_true_right, Bool.cond_false_left, Bool.or_false, Bool.and_true]
      repeat' (first | exact rfl | apply And.intro)
      all_goals (first | omega | exact (List.length_replicate ..).symm | exact List.length_replicate ..)
    · simp only [go_sem, reduceIte, Nat.reduceBEq, Nat.reduceMul, reduceCtorEq, Nat.reduceAdd, Nat.reduceEqDiff, decide_eq_true_eq, decide_eq_false_iff_not, Bool.not_eq_true', Bool.not_eq_false', Bool.and_eq_true, Bool.or_eq_true, Bool.and_eq_false_iff, Bool.or_eq_false_iff, Bool.cond_true_left, Bool.cond_false_right, Bool.cond_true_right, Bool.cond_false_left, Bool.or_false, Bool.and_true]
  · refine H (mkM 1 0 0 9 0 0 false 0 [] noB) (right_no fun h => by have p := right_parts h; exact p.2.1 rfl) _ (.inl (Ent_of [(5, 5), (7, 7)] rfl ?_ ?_))
    · simp only [go_sem, reduceIte, Nat.reduceBEq, Nat.reduceMul, reduceCtorEq, Nat.reduceAdd, Nat.reduceEqDiff, decide_eq_true_eq, decide_eq_false_iff_not, Bool.not_eq_true', Bool.not_eq_false', Bool.and_eq_true, Bool.or_eq_true, Bool.and_eq_false_iff, Bool.or_eq_false_iff, Bool.cond_true_left, Bool.cond_false_right, Bool.cond_true_right, Bool.cond_false_left, Bool.or_false, Bool.and_true]
      repeat' (first | exact rfl | apply And.intro)
      all_goals (first | omega | exact (List.length_replicate ..).symm | exact List.length_replicate ..)
    · simp only [go_sem, reduceIte, Nat.reduceBEq, Nat.reduceMul, reduceCtorEq, Nat.reduceAdd, Nat.reduceEqDiff, decide_eq_true_eq, decide_eq_false_iff_not, Bool.not_eq_true', Bool.not_eq_false', Bool.and_eq_true, Bool.or_eq_true, Bool.and_eq_false_iff, Bool.or_eq_false_iff, Bool.cond_true_left, Bool.cond_false_right, Bool.cond_true_right, Bool.cond_false_left, Bool.or_false, Bool.and_true]
  · refine H (mkM 1 1 0 0 0 0 false 0 [] noB) (right_no fun h => by have p := right_parts h; have h1 : (1 : Int) ≤ 0 := p.2.2.2.1.1; omega) _ (.inl (Ent_of [(5, 5), (7, 7)] rfl ?_ ?_))
    · simp only [go_sem, reduceIte, Nat.reduceBEq, Nat.reduceMul, reduceCtorEq, Nat.reduceAdd, Nat.reduceEqDiff, decide_eq_true_eq, decide_eq_false_iff_not, Bool.not_eq_true', Bool.not_eq_false', Bool.and_eq_true, Bool.or_eq_true, Bool.and_eq_false_iff, Bool.or_eq_false_iff, Bool.cond_true_left, Bool.cond_false_right, Bool.cond_true_right, Bool.cond_false_left, Bool.or_false, Bool.and_true]
      repeat' (first | exact rfl | apply And.intro)
      all_goals (first | omega | exact (List.length_replicate ..).symm | exact List.length_replicate ..)
    · simp only [go_sem, reduceIte, Nat.reduceBEq, Nat.reduceMul, reduceCtorEq, Nat.reduceAdd, Nat.reduceEqDiff, decide_eq_true_eq, decide_eq_false_iff_not, Bool.not_eq_true', Bool.not_eq_false', Bool.and_eq_true, Bool.or_eq_true, Bool.and_eq_false_iff, Bool.or_eq_false_iff, Bool.cond_true_left, Bool.cond_false_right, Bool.cond_true_right, Bool.cond_false_left, Bool.or_false, Bool.and_true]
  · refine H (mkM 1 1 0 (1099511627776 + K) 0 0 false 0 [] noB) (right_no fun h => by have p := right_parts h; have h1 : 1099511627776 + K ≤ 1099511627776 := p.2.2.2.1.2; omega) _ (.inl (Ent_of [(5, 5), (7, 7)] rfl ?_ ?_))
    · simp only [go_sem, reduceIte, Nat.reduceBEq, Nat.reduceMul, reduceCtorEq, Nat.reduceAdd, Nat.reduceEqDiff, decide_eq_true_eq, decide_eq_false_iff_not, Bool.not_eq_true', Bool.not_eq_false', Bool.and_eq_true, Bool.or_eq_true, Bool.and_eq_false_iff, Bool.or_eq_false_iff, Bool.cond_true_left, Bool.cond_false_right, Bool.cond_true_right, Bool.cond_false_left, Bool.or_false, Bool.and_true]
      repeat' (first | exact rfl | apply And.intro)
      all_goals (first | omega | exact (List.length_replicate ..).symm | exact List.length_replicate ..)
    · simp only [go_sem, reduceIte, Nat.reduceBEq, Nat.reduceMul, reduceCtorEq, Nat.reduceAdd, Nat.reduceEqDiff, decide_eq_true_eq, decide_eq_false_iff_not, Bool.not_eq_true', Bool.not_eq_false', Bool.and_eq_true, Bool.or_eq_true, Bool.and_eq_false_iff, Bool.or_eq_false_iff, Bool.cond_true_left, Bool.cond_false_right, Bool.cond_true_right, Bool.cond_false_left, Bool.or_false, Bool.and_true]
  · refine H (mkM 1 1 0 9 (0 - K) 0 false 0 [] noB) (right_no fun h => by have p := right_parts h; have h1 : 0 ≤ 0 - K := p.2.2.2.2.1; omega) _ (.inl (Ent_of [(5, 5), (7, 7)] rfl ?_ ?_))
    · simp only [go_sem, reduceIte, Nat.reduceBEq, Nat.reduceMul, reduceCtorEq, Nat.reduceAdd, Nat.reduceEqDiff, decide_eq_true_eq, decide_eq_false_iff_not, Bool.not_eq_true', Bool.not_eq_false', Bool.and_eq_true, Bool.or_eq_true, Bool.and_eq_false_iff, Bool.or_eq_false_iff, Bool.cond_true_left, Bool.cond_false_right, Bool.cond_true_right, Bool.cond_false_left, Bool.or_false, Bool.and_true]
      repeat' (first | exact rfl | apply And.intro)
      all_goals (first | omega | exact (List.length_replicate ..).symm | exact List.length_replicate ..)
    · simp only [go_sem, reduceIte, Nat.reduceBEq, Nat.reduceMul, reduceCtorEq, Nat.reduceAdd, Nat.reduceEqDiff, decide_eq_true_eq, decide_eq_false_iff_not, Bool.not_eq_true', Bool.not_eq_false', Bool.and_eq_true, Bool.or_eq_true, Bool.and_eq_false_iff, Bool.or_eq_false_iff, Bool.cond_true_left, Bool.cond_false_right, Bool.cond_true_right, Bool.cond_false_left, Bool.or_false, Bool.and_true]
  · refine H (mkM 1 1 0 9 0 0 false 0 (List.replicate (20 + K).toNat (dflt tEntry)) noB) (right_no fun h => by have p := right_parts h; have h1 : ((List.replicate (20 + K).toNat (dflt tEntry)).length : Int) ≤ 20 := p.2.2.2.2.2.1; rw [List.length_replicate] at h1; omega) _ (.inr (Ent_of [(5, 5), (7, 7), (70, 70)] rfl ?_ ?_))
    · simp only [go_sem, reduceIte, Nat.reduceBEq, Nat.reduceMul, reduceCtorEq, Nat.reduceAdd, Nat.reduceEqDiff, decide_eq_true_eq, decide_eq_false_iff_not, Bool.not_eq_true', Bool.not_eq_false', Bool.and_eq_true, Bool.or_eq_true, Bool.and_eq_false_iff, Bool.or_eq_false_iff, Bool.cond_true_left, Bool.cond_false_right, Bool.cond_true_right, Bool.cond_false_left, Bool.or_false, Bool.and_true]
      repeat' (first | exact rfl | apply And.intro)
      all_goals (first | omega | exact (List.length_replicate ..).symm | exact List.length_replicate ..)
    · simp only [go_sem, reduceIte, Nat.reduceBEq, Nat.reduceMul, reduceCtorEq, Nat.reduceAdd, Nat.reduceEqDiff, decide_eq_true_eq, decide_eq_false_iff_not, Bool.not_eq_true', Bool.not_eq_false', Bool.and_eq_true, Bool.or_eq_true, Bool.and_eq_false_iff, Bool.or_eq_false_iff, Bool.cond_true_left, Bool.cond_false_right, Bool.cond_true_right, Bool.cond_false_left, Bool.or_false, Bool.and_true]
  · refine H (mkM 1 1 0 9 0 0 false 0 [mkE (9 + K) noB] noB) (right_no fun h => by have p := right_parts h; have h1 : 9 + K ≤ 9 := p.2.2.2.2.2.2 _ (List.mem_singleton.2 rfl); omega) _ (.inl (Ent_of [(5, 5), (7, 7)] rfl ?_ ?_))
    · simp only [go_sem, reduceIte, Nat.reduceBEq, Nat.reduceMul, reduceCtorEq, Nat.reduceAdd, Nat.reduceEqDiff, decide_eq_true_eq, decide_eq_false_iff_not, Bool.not_eq_true', Bool.not_eq_false', Bool.and_eq_true, Bool.or_eq_true, Bool.and_eq_false_iff, Bool.or_eq_false_iff, Bool.cond_true_left, Bool.cond_false_right, Bool.cond_true_right, Bool.cond_false_left, Bool.or_false, Bool.and_true]
      repeat' (first | exact rfl | apply And.intro)
      all_goals (first | omega | exact (List.length_replicate ..).symm | exact List.length_replicate ..)
    · simp only [go_sem, reduceIte, Nat.reduceBEq, Nat.reduceMul, reduceCtorEq, Nat.reduceAdd, Nat.reduceEqDiff, decide_eq_true_eq, decide_eq_false_iff_not, Bool.not_eq_true', Bool.not_eq_false', Bool.and_eq_true, Bool.or_eq_true, Bool.and_eq_false_iff, Bool.or_eq_false_iff, Bool.cond_true_left, Bool.cond_false_right, Bool.cond_true_right, Bool.cond_false_left, Bool.or_false, Bool.and_true]
end Go.AM
