import Derived.Test.YtbcbgfkojmligaaHL
import Derived.Test.YtbcbgfkojmligaaTM
/- What functions of the program answer, each under the conditions that its contract names. -/
set_option linter.unusedVariables false
set_option linter.unusedSimpArgs false
set_option maxRecDepth 100000
set_option maxHeartbeats 8000000
set_option linter.unusedSimpArgs false
namespace Go.AM
open Go.Proofs
attribute [local congr] vc_congr evOps_congr evTab_congr bind_congr condK_congr tabK_congr
theorem put'_keep (m : List E) (c : Nat) : ∀ (l : List E) (k : Nat), (∀ j, j < l.length → k + j < c → (m[k + j]?.map (·.1)) = (l[j]?.map (·.1))) → k ≤ m.length → (put' m k l).take c = m.take c := by
  intro l
  induction l with
  | nil => intro k _ _; rfl
  | cons e l ih =>
    intro k h hk
    unfold put'
    split
    · rename_i he
      have hlt : k < m.length := by
        rcases Nat.lt_or_ge k m.length with h1 | h1
        · exact h1
        · rw [List.getElem?_eq_none h1] at he; cases he
      refine ih (k + 1) (fun j hj hc => ?_) hlt
      have := h (j + 1) (by rw [List.length_cons]; omega) (by omega)
      rw [show k + 1 + j = k + (j + 1) by omega, this]
      rfl
    · rename_i he
      have hck : c ≤ k := by
        rcases Nat.lt_or_ge k c with h1 | h1
        · exact absurd (h 0 (by rw [List.length_cons]; omega) h1) he
        · exact h1
      rw [List.take_append_of_le_length (by rw [List.length_take]; omega), List.take_take, Nat.min_eq_left hck]
theorem put'_ge (m : List E) : ∀ (l : List E) (k : Nat), k ≤ m.length → k + l.length ≤ (put' m k l).length := by
  intro l
  induction l with
  | nil => intro k hk; exact hk
  | cons e l ih =>
    intro k hk
    unfold put'
    rw [List.length_cons]
    split
    · rename_i he
      have hlt : k < m.length := by
        rcases Nat.lt_or_ge k m.length with h1 | h1
        · exact h1
        · rw [List.getElem?_eq_none h1] at he; cases he
      have := ih (k + 1) hlt
      omega
    · rw [List.length_append, List.length_take, List.length_cons]; omega
theorem put'_le (m : List E) : ∀ (l : List E) (k : Nat), k ≤ m.length → (put' m k l).length ≤ max m.length (k + l.length) := by
  intro l
  induction l with
  | nil => intro k hk; show m.length ≤ _; omega
  | cons e l ih =>
    intro k hk
    unfold put'
    rw [List.length_cons]
    split
    · rename_i he
      have hlt : k < m.length := by
        rcases Nat.lt_or_ge k m.length with h1 | h1
        · exact h1
        · rw [List.getElem?_eq_none h1] at he; cases he
      have := ih (k + 1) hlt
      omega
    · rw [List.length_append, List.length_take, List.length_cons]; omega
theorem take2_len (n : Node) (m : Msg) : (take2 n m).length = 1 := by
  unfold take2 take2'
  split
  · rfl
  split
  · rfl
  split
  · rfl
  split
  · rfl
  · rfl
/-- what a node of a law's loop keeps to -/
def KI (i : Nat) (n : Node) : Prop := 1 ≤ nNodes n ∧ nNodes n ≤ 5 ∧ 0 ≤ nTerm n ∧ nTerm n ≤ 40 + i ∧ 0 ≤ nBase n ∧ nBase n ≤ nCommit n ∧ nCommit n ≤ last n ∧ last n ≤ 40 + 20 * i ∧ (nNext n).length ≤ 5 ∧ (nMatch n).length ≤ 5
structure StayF (i : Nat) (n x : Node) (was : List E) : Prop where
  commit : nCommit n ≤ nCommit x
  base : nBase x = nBase n
  len : was.length ≤ (nLog x).length
  keep : (nLog x).take was.length = was
  ki : KI (i + 1) x
theorem stayF {i : Nat} {n : Node} {m : Msg} {c : Nat} {e : List E} {k : Nat} (h : KI i n) (hc : (c : Int) = nCommit n - nBase n) (he : e.length ≤ 20) (hk : k ≤ c + e.length)
    (hm : mKind m = 3) (ht : mTerm m = nTerm n + 1) (hi : mIndex m = nBase n + k) (hmc : mCommit m = nCommit n + 1) (hme : mEntries m = (((nLog n).take c ++ e).drop k).take 20) :
    StayF i n (take1 n m) ((nLog n).take c) := by
  have hl : last n = nBase n + (nLog n).length := rfl
  simp only [KI] at h
  have hcl : c ≤ (nLog n).length := by omega
  have hwl : ((nLog n).take c).length = c := by rw [List.length_take]; omega
  have hdown : down n (mTerm m) = mkN (nId n) (nNodes n) (mTerm m) (-1) (nBase n) (nBT n) (nSnap n) (nLog n) 0 (-1) (nCommit n) (votes n) (nNext n) (nMatch n) (nClock n) := if_pos (by omega)
  have hE : (mEntries m).length ≤ 20 ∧ (mEntries m).length + k ≤ c + e.length := by
    rw [hme, List.length_take, List.length_drop, List.length_append, hwl]; omega
  unfold take1
  rw [hdown]
  unfold take1'
  rw [if_neg (Int.lt_irrefl _), if_neg (by omega)]
  split
  · refine ⟨Int.le_refl _, rfl, ?_, ?_, ?_⟩
    · rw [hwl]; exact hcl
    · rw [hwl]; rfl
    · refine ⟨h.1, h.2.1, show 0 ≤ mTerm m by omega, show mTerm m ≤ 40 + ((i + 1 : Nat) : Int) by omega, h.2.2.2.2.1, h.2.2.2.2.2.1, h.2.2.2.2.2.2.1, show last n ≤ 40 + 20 * ((i + 1 : Nat) : Int) by omega, h.2.2.2.2.2.2.2.2⟩
  · rename_i hne
    have h1 : ¬ (last n < mIndex m) := fun hx => hne (.inr (.inl hx))
    have hkl : k ≤ (nLog n).length := by omega
    clear hne hdown
    generalize hf : foll (mkN (nId n) (nNodes n) (mTerm m) (-1) (nBase n) (nBT n) (nSnap n) (nLog n) 0 (-1) (nCommit n) (votes n) (nNext n) (nMatch n) (nClock n)) m = f
    have f1 : nBase f = nBase n := by rw [← hf]; rfl
    have f2 : nLog f = nLog n := by rw [← hf]; rfl
    have f3 : last f = last n := by rw [← hf]; rfl
    have f4 : nCommit f = nCommit n := by rw [← hf]; rfl
    have f5 : nTerm f = mTerm m := by rw [← hf]; rfl
    have f6 : nNodes f = nNodes n := by rw [← hf]; rfl
    have f7 : nNext f = nNext n := by rw [← hf]; rfl
    have f8 : nMatch f = nMatch n := by rw [← hf]; rfl
    clear hf
    have hput : put f (mIndex m) (mEntries m) = setLog f (put' (nLog n) k (mEntries m)) := by
      unfold put
      rw [if_neg (by rw [f1, f3]; omega), f2, f1, show (mIndex m - nBase n).toNat = k by omega]
    unfold putC
    rw [hput]
    have hkeep : (put' (nLog n) k (mEntries m)).take c = (nLog n).take c := by
      refine put'_keep _ _ _ _ (fun j hj hjc => ?_) hkl
      rw [hme, List.getElem?_take, if_pos (by omega), List.getElem?_drop, List.getElem?_append_left (by omega), List.getElem?_take, if_pos (by omega)]
    have hge := put'_ge (nLog n) (mEntries m) k hkl
    have hle := put'_le (nLog n) (mEntries m) k hkl
    have hcp : c ≤ (put' (nLog n) k (mEntries m)).length := by
      have := congrArg List.length hkeep
      rw [List.length_take, hwl] at this
      omega
    generalize put' (nLog n) k (mEntries m) = L at *
    have g1 : nCommit (setCommit (setLog f L) (max (nCommit (setLog f L)) (min (mCommit m) (mIndex m + (mEntries m).length)))) = max (nCommit f) (min (mCommit m) (mIndex m + (mEntries m).length)) := rfl
    refine ⟨by rw [g1, f4]; omega, f1, ?_, ?_, ?_⟩
    · rw [hwl]; exact hcp
    · rw [hwl]; exact hkeep
    · refine ⟨show 1 ≤ nNodes f by omega, show nNodes f ≤ 5 by omega, show 0 ≤ nTerm f by omega, show nTerm f ≤ 40 + ((i + 1 : Nat) : Int) by omega, show 0 ≤ nBase f by omega, ?_, ?_, ?_, show (nNext f).length ≤ 5 by rw [f7]; omega, show (nMatch f).length ≤ 5 by rw [f8]; omega⟩
      · rw [g1, f4]; show nBase f ≤ _; omega
      · rw [g1, f4]
        show max (nCommit n) (min (mCommit m) (mIndex m + (mEntries m).length)) ≤ nBase f + (L.length : Int)
        omega
      · show nBase f + (L.length : Int) ≤ 40 + 20 * ((i + 1 : Nat) : Int)
        omega
def replStaysFn : Fn := { a := .pair (.list tI) (.pair (.list (.list tI)) (.pair (.list tI) .unit)), r := .pair .bool .unit, pre := fun _ => True, f := fun _ => (true, ()) }
set_option pp.deepTerms false
theorem h13  : Holds Try.prog 13 (replStaysFn) := by
  refine Holds.of_vcc (T := [(22, fn22), (23, fn23), (35, fn35), (65, fn65), (37, fn37), (57, fn57)]) (TT := ttL) (rowAt := []) (c := c13) (ros := [.t 6]) (.cons _ h22 (.cons _ h23 (.cons _ h35 (.cons _ h65 (.cons _ h37 (.cons _ h57 (.nil _))))))) mixed Try.func13 (by decide +kernel) (by rfl) comp13 (by kernel_rfl) rfl rfl (fun h => by cases h) ?_
  rintro ⟨(l : List Int), (lots : List (List Int)), (wh : List Int), _⟩ hpre
  simp only [replStaysFn] at hpre ⊢
  simp only [c13, fn22, fn23, fn35, fn65, fn37, fn57, go_sem, reduceIte, Nat.reduceBEq, Nat.reduceMul, reduceCtorEq, Nat.reduceAdd, Nat.reduceEqDiff, decide_eq_true_eq, decide_eq_false_iff_not, Bool.not_eq_true', Bool.not_eq_false', Bool.and_eq_true, Bool.or_eq_true, Bool.and_eq_false_iff, Bool.or_eq_false_iff, Bool.cond_true_left, Bool.cond_false_right, Bool.cond_true_right, Bool.cond_false_left, Bool.or_false, Bool.and_true, inR]
  have hM := MI_made l 0 3
  generalize made l 0 3 = n0 at *
  refine loop_rule (β := Nat × Node) (fun b => ⟨[(1, .sl (.list tI) lots false), (2, .sl tI wh false), (7, .ptr 7 0), (8, .int .i64 b.1)], [(7, .box (cellsA tNode b.2 []))]⟩)
    (fun b => b.1 ≤ lots.length ∧ b.1 ≤ 10 ∧ KI b.1 b.2) (fun b => 10 - b.1) (0, mkN (nId n0) (nNodes n0) (nTerm n0) (nVote n0) (nBase n0) (nBT n0) (nSnap n0) (nLog n0) 0 (nLead n0) (nCommit n0) (nVotes n0) (nNext n0) (nMatch n0) (nClock n0)) ?_ ?_ ?_
  · refine Ent_of [(7, 7)] rfl ?_ ?_
    · simp only [go_sem, reduceIte, Nat.reduceBEq, Nat.reduceMul, reduceCtorEq, Nat.reduceAdd, Nat.reduceEqDiff, decide_eq_true_eq, decide_eq_false_iff_not, Bool.not_eq_true', Bool.not_eq_false', Bool.and_eq_true, Bool.or_eq_true, Bool.and_eq_false_iff, Bool.or_eq_false_iff, Bool.cond_true_left, Bool.cond_false_right, Bool.cond_true_right, Bool.cond_false_left, Bool.or_false, Bool.and_true]
    · simp only [go_sem, reduceIte, Nat.reduceBEq, Nat.reduceMul, reduceCtorEq, Nat.reduceAdd, Nat.reduceEqDiff, decide_eq_true_eq, decide_eq_false_iff_not, Bool.not_eq_true', Bool.not_eq_false', Bool.and_eq_true, Bool.or_eq_true, Bool.and_eq_false_iff, Bool.or_eq_false_iff, Bool.cond_true_left, Bool.cond_false_right, Bool.cond_true_right, Bool.cond_false_left, Bool.or_false, Bool.and_true]
      rfl
  · refine ⟨Nat.zero_le _, Nat.zero_le _, ?_⟩
    simp only [KI, MI] at hM ⊢
    dsimp only [den, nId, nNodes, nTerm, nVote, nBase, nBT, nSnap, nLog, nRole, nLead, nCommit, nVotes, nNext, nMatch, nClock, mKind, mFrom, mTo, mTerm, mIndex, mAt, mYes, mCommit, mEntries, mSnap, eTerm, eCmd, mkN, mkM, mkE, last, inR, sm, lastT] at *
    omega
  rintro ⟨i, n⟩ ⟨hi, hi10, hK⟩
  simp only at hi hi10 hK
  simp (maxSteps := 10000000) only [go_sem, reduceIte, Nat.reduceBEq, Nat.reduceMul, reduceCtorEq, Nat.reduceAdd, Nat.reduceEqDiff, decide_eq_true_eq, decide_eq_false_iff_not, Bool.not_eq_true', Bool.not_eq_false', Bool.and_eq_true, Bool.or_eq_true, Bool.and_eq_false_iff, Bool.or_eq_false_iff, Bool.cond_true_left, Bool.cond_false_right, Bool.cond_true_right, Bool.cond_false_left, Bool.or_false, Bool.and_true, inR, fn23, fn35, p19]
  generalize hV : vc _ (C.cut c13_60) _ = V
  have hK2 := hK
  simp only [KI] at hK2
  have hl : last n = nBase n + (nLog n).length := rfl
  have hc : ((nCommit n - nBase n).toNat : Int) = nCommit n - nBase n := by omega
  have hel : (entries (lots.getD i (dflt (.list tI))) (nTerm n + 1)).length ≤ 20 := entries_len _ _
  generalize hcg : (nCommit n - nBase n).toNat = c at *
  have hLl : (List.take c (nLog n)).length = c := by rw [List.length_take]; omega
  generalize hLg : List.take c (nLog n) = L at *
  generalize entries (lots.getD i (dflt (.list tI))) (nTerm n + 1) = e at *
  have e1 : nCommit n = n.2.2.2.2.2.2.2.2.2.2.1 := rfl
  have e2 : nBase n = n.2.2.2.2.1 := rfl
  have e3 : nTerm n = n.2.2.1 := rfl
  have e4 : (nLog n).length = n.2.2.2.2.2.2.2.1.length := rfl
  refine fun hlt => ⟨by omega, by omega, by omega, by rfl, by omega, by omega, show (0 : Int) ≤ nTerm n + 1 ∧ nTerm n + 1 ≤ 1099511627776 from by omega, by omega, by omega, ?_⟩
  refine cut_at hV ⟨[(1, .sl (.list tI) lots false), (2, .sl tI wh false), (7, .ptr 7 0), (8, .int .i64 i), (9, .own 42 0 L.length), (10, .int .i64 (nCommit n)), (11, .int .i64 (nBase n)), (12, .int .i64 (nTerm n + 1)), (14, .own 59 0 (L ++ e).length), (15, .int .i64 0)],
    [(7, .box (cellsA tNode n [])), (42, .row tEntry L false), (59, .row tEntry (L ++ e) false)]⟩ ?_ (Ent_of [(7, 7), (42, 42), (59, 59)] rfl ?_ ?_)
  rotate_left
  · simp only [go_sem, reduceIte, Nat.reduceBEq, Nat.reduceMul, reduceCtorEq, Nat.reduceAdd, Nat.reduceEqDiff, decide_eq_true_eq, decide_eq_false_iff_not, Bool.not_eq_true', Bool.not_eq_false', Bool.and_eq_true, Bool.or_eq_true, Bool.and_eq_false_iff, Bool.or_eq_false_iff, Bool.cond_true_left, Bool.cond_false_right, Bool.cond_true_right, Bool.cond_false_left, Bool.or_false, Bool.and_true]
  · simp only [go_sem, reduceIte, Nat.reduceBEq, Nat.reduceMul, reduceCtorEq, Nat.reduceAdd, Nat.reduceEqDiff, decide_eq_true_eq, decide_eq_false_iff_not, Bool.not_eq_true', Bool.not_eq_false', Bool.and_eq_true, Bool.or_eq_true, Bool.and_eq_false_iff, Bool.or_eq_false_iff, Bool.cond_true_left, Bool.cond_false_right, Bool.cond_true_right, Bool.cond_false_left, Bool.or_false, Bool.and_true]
  clear hV V
  simp (maxSteps := 10000000) only [c13_60, go_sem, reduceIte, Nat.reduceBEq, Nat.reduceMul, reduceCtorEq, Nat.reduceAdd, Nat.reduceEqDiff, decide_eq_true_eq, decide_eq_false_iff_not, Bool.not_eq_true', Bool.not_eq_false', Bool.and_eq_true, Bool.or_eq_true, Bool.and_eq_false_iff, Bool.or_eq_false_iff, Bool.cond_true_left, Bool.cond_false_right, Bool.cond_true_right, Bool.cond_false_left, Bool.or_false, Bool.and_true, inR, fn23, fn35, p19]
  generalize hV : vc _ (C.cut c13_82) _ = V
  have H2 : ∀ (k at_ : Int), 0 ≤ k → k ≤ (L.length + e.length : Nat) → ∀ σ, Ent σ ⟨[(1, .sl (.list tI) lots false), (2, .sl tI wh false), (7, .ptr 7 0), (8, .int .i64 i), (9, .own 42 0 L.length), (10, .int .i64 (nCommit n)), (11, .int .i64 (nBase n)), (12, .int .i64 (nTerm n + 1)), (14, .own 59 0 (L ++ e).length), (15, .int .i64 k), (16, .int .i64 at_)],
    [(7, .box (cellsA tNode n [])), (42, .row tEntry L false), (59, .row tEntry (L ++ e) false)]⟩ → V σ := by
    intro k at_ hk0 hk1 σ hσ
    refine cut_at hV _ ?_ hσ
    clear hV hσ
    simp (maxSteps := 10000000) only [c13_82, go_sem, reduceIte, Nat.reduceBEq, Nat.reduceMul, reduceCtorEq, Nat.reduceAdd, Nat.reduceEqDiff, decide_eq_true_eq, decide_eq_false_iff_not, Bool.not_eq_true', Bool.not_eq_false', Bool.and_eq_true, Bool.or_eq_true, Bool.and_eq_false_iff, Bool.or_eq_false_iff, Bool.cond_true_left, Bool.cond_false_right, Bool.cond_true_right, Bool.cond_false_left, Bool.or_false, Bool.and_true, inR]
    generalize hV : vc _ (C.cut c13_104) _ = V
    have ht : List.take ((min ((L.length + e.length - k.toNat : Nat) : Int) 20).toNat - 0) (List.drop k.toNat (L ++ e)) = List.take 20 (List.drop k.toNat (L ++ e)) := by
      have hdl : (List.drop k.toNat (L ++ e)).length = L.length + e.length - k.toNat := by rw [List.length_drop, List.length_append]
      rcases Nat.lt_or_ge (L.length + e.length - k.toNat) 20 with h | h
      · rw [List.take_of_length_le (by omega), List.take_of_length_le (by omega)]
      · rw [show (min ((L.length + e.length - k.toNat : Nat) : Int) 20).toNat - 0 = 20 by omega]
    simp only [ht, mkPrM]
    have hIx : okIdx (nBase n + k) := by unfold okIdx; omega
    have hEl : (List.take 20 (List.drop k.toNat (L ++ e))).length ≤ 20 := by rw [List.length_take]; omega
    have hrg : rgN n := by
      simp only [rgN, sm]
      omega
    have hS := stayF (m := mkM 3 1 0 (nTerm n + 1) (nBase n + k) at_ false (nCommit n + 1) (List.take 20 (List.drop k.toNat (L ++ e))) noB) (k := k.toNat) hK hc hel (by omega) rfl rfl (show nBase n + k = nBase n + (k.toNat : Int) by omega) rfl (by rw [hLg])
    have hr2 := take2_len n (mkM 3 1 0 (nTerm n + 1) (nBase n + k) at_ false (nCommit n + 1) (List.take 20 (List.drop k.toNat (L ++ e))) noB)
    rw [hLg] at hS
    generalize hm : mkM 3 1 0 (nTerm n + 1) (nBase n + k) at_ false (nCommit n + 1) (List.take 20 (List.drop k.toNat (L ++ e))) noB = m at *
    have hm1 : okIdx (mIndex m) := by rw [← hm]; exact hIx
    have hm2 : smallL (mEntries m) := by rw [sm, ← hm]; exact Nat.le_trans hEl (by decide)
    clear hm
    generalize take1 n m = x at *
    generalize take2 n m = r at *
    refine ⟨by omega, by omega, by omega, by omega, ⟨hrg, hm1, hm2⟩, ?_⟩
    refine cut_at hV ⟨[(1, .sl (.list tI) lots false), (2, .sl tI wh false), (7, .ptr 7 0), (8, .int .i64 i), (9, .own 42 0 L.length), (10, .int .i64 (nCommit n)), (11, .int .i64 (nBase n)), (19, .ptr 19 0), (20, .sl tMsg r false)],
      [(7, .box (cellsA tNode n [])), (19, .box (cellsA tNode x [])), (42, .row tEntry L false)]⟩ ?_ (Ent_of [(7, 7), (19, 19), (42, 42)] rfl ?_ ?_)
    rotate_left
    · simp only [go_sem, reduceIte, Nat.reduceBEq, Nat.reduceMul, reduceCtorEq, Nat.reduceAdd, Nat.reduceEqDiff, decide_eq_true_eq, decide_eq_false_iff_not, Bool.not_eq_true', Bool.not_eq_false', Bool.and_eq_true, Bool.or_eq_true, Bool.and_eq_false_iff, Bool.or_eq_false_iff, Bool.cond_true_left, Bool.cond_false_right, Bool.cond_true_right, Bool.cond_false_left, Bool.or_false, Bool.and_true]
    · simp only [go_sem, reduceIte, Nat.reduceBEq, Nat.reduceMul, reduceCtorEq, Nat.reduceAdd, Nat.reduceEqDiff, decide_eq_true_eq, decide_eq_false_iff_not, Bool.not_eq_true', Bool.not_eq_false', Bool.and_eq_true, Bool.or_eq_true, Bool.and_eq_false_iff, Bool.or_eq_false_iff, Bool.cond_true_left, Bool.cond_false_right, Bool.cond_true_right, Bool.cond_false_left, Bool.or_false, Bool.and_true]
    clear hV
    have g1 : (r.length : Int) = 1 := by rw [hr2]; rfl
    have g2 : decide (x.2.2.2.2.2.2.2.2.2.2.1 < nCommit n) = false := decide_eq_false (show ¬ (nCommit x < nCommit n) from by have := hS.commit; omega)
    have g3 : x.2.2.2.2.1 = nBase n := hS.base
    have g4 : decide ((x.2.2.2.2.2.2.2.1.length : Int) < (L.length : Int)) = false := decide_eq_false (show ¬ (((nLog x).length : Int) < (L.length : Int)) from by have := hS.len; omega)
    have g5 : List.take L.length x.2.2.2.2.2.2.2.1 = L := hS.keep
    simp (maxSteps := 10000000) only [c13_104, go_sem, reduceIte, Nat.reduceBEq, Nat.reduceMul, reduceCtorEq, Nat.reduceAdd, Nat.reduceEqDiff, decide_eq_true_eq, decide_eq_false_iff_not, Bool.not_eq_true', Bool.not_eq_false', Bool.and_eq_true, Bool.or_eq_true, Bool.and_eq_false_iff, Bool.or_eq_false_iff, Bool.cond_true_left, Bool.cond_false_right, Bool.cond_true_right, Bool.cond_false_left, Bool.or_false, Bool.and_true, inR, g1, g2, g3, g4, g5, eqB_self, decide_true]
    have hLx : L.length ≤ x.2.2.2.2.2.2.2.1.length := hS.len
    refine ⟨by omega, by rw [sm]; omega, by omega, Again.intro (i + 1, x) (Ent_of [(7, 7)] rfl ?_ ?_) ⟨show i + 1 ≤ lots.length by omega, show i + 1 ≤ 10 by omega, hS.ki⟩ (show 10 - (i + 1) < 10 - i by omega)⟩
    · simp only [go_sem, reduceIte, Nat.reduceBEq, Nat.reduceMul, reduceCtorEq, Nat.reduceAdd, Nat.reduceEqDiff, decide_eq_true_eq, decide_eq_false_iff_not, Bool.not_eq_true', Bool.not_eq_false', Bool.and_eq_true, Bool.or_eq_true, Bool.and_eq_false_iff, Bool.or_eq_false_iff, Bool.cond_true_left, Bool.cond_false_right, Bool.cond_true_right, Bool.cond_false_left, Bool.or_false, Bool.and_true]
      exact g3
    · simp only [go_sem, reduceIte, Nat.reduceBEq, Nat.reduceMul, reduceCtorEq, Nat.reduceAdd, Nat.reduceEqDiff, decide_eq_true_eq, decide_eq_false_iff_not, Bool.not_eq_true', Bool.not_eq_false', Bool.and_eq_true, Bool.or_eq_true, Bool.and_eq_false_iff, Bool.or_eq_false_iff, Bool.cond_true_left, Bool.cond_false_right, Bool.cond_true_right, Bool.cond_false_left, Bool.or_false, Bool.and_true]
      rfl
  clear hV
  have hk0 := Int.emod_nonneg (wh.getD i (dflt tI)) (show ((L.length + e.length : Nat) : Int) + 1 ≠ 0 by omega)
  have hk1 := Int.emod_lt_of_pos (wh.getD i (dflt tI)) (show 0 < ((L.length + e.length : Nat) : Int) + 1 by omega)
  generalize (wh.getD i (dflt tI) % (((L.length + e.length : Nat) : Int) + 1) : Int) = z at *
  refine ⟨fun h1 => ⟨by omega, by omega, show (0 : Int) < ((L.length + e.length : Nat) : Int) + 1 ∧ ((L.length + e.length : Nat) : Int) + 1 ≤ 1099511627776 from by omega, fun h2 => ⟨by omega, by omega, H2 z (((L ++ e).getD (z - 1).toNat (dflt tEntry)).1) hk0 (by omega) _ (Ent_of [(7, 7), (42, 42), (59, 59)] rfl ?_ ?_)⟩, fun h2 => H2 z (nBT n) hk0 (by omega) _ (Ent_of [(7, 7), (42, 42), (59, 59)] rfl ?_ ?_)⟩, fun h1 => ⟨fun h2 => absurd h2 (by omega), fun h2 => H2 0 (nBT n) (Int.le_refl 0) (by omega) _ (Ent_of [(7, 7), (42, 42), (59, 59)] rfl ?_ ?_)⟩⟩
  all_goals simp only [go_sem, reduceIte, Nat.reduceBEq, Nat.reduceMul, reduceCtorEq, Nat.reduceAdd, Nat.reduceEqDiff, decide_eq_true_eq, decide_eq_false_iff_not, Bool.not_eq_true', Bool.not_eq_false', Bool.and_eq_true, Bool.or_eq_true, Bool.and_eq_false_iff, Bool.or_eq_false_iff, Bool.cond_true_left, Bool.cond_false_right, Bool.cond_true_right, Bool.cond_false_left, Bool.or_false, Bool.and_true]
end Go.AM
