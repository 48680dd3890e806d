import Derived.Test.YtbcbgfkojmligaaHE
import Derived.Test.YtbcbgfkojmligaaTF
/- What functions of the program answer, each under the conditions that its contract names. -/
set_option linter.unusedVariables false
set_option linter.unusedSimpArgs false
set_option maxRecDepth 100000
set_option maxHeartbeats 4000000
set_option linter.unusedSimpArgs false
namespace Go.AM
open Go.Proofs
attribute [local congr] vc_congr evOps_congr evTab_congr bind_congr condK_congr tabK_congr
def fn36 : Fn := { a := .unit, r := .pair .bool .unit, pre := fun _ => True, f := fun _ => (true, ()) }
theorem h36  : Holds Try.prog 36 (fn36) := by
  refine Holds.of_vc (T := [(64, fn64), (34, fn34), (46, fn46), (52, fn52), (53, fn53)]) (TT := ttL) (rowAt := []) (c := c36) (ros := [.t 0]) (.cons _ h64 (.cons _ h34 (.cons _ h46 (.cons _ h52 (.cons _ h53 (.nil _)))))) mixed Try.func36 (by decide +kernel) (by rfl) comp36 (by kernel_rfl) rfl rfl (fun h => by cases h) ?_
  rintro _ hpre
  simp only [fn36] at hpre ⊢
  simp only [c36, fn64, fn34, fn46, fn52, fn53, go_sem, reduceIte, Nat.reduceBEq, Nat.reduceMul, reduceCtorEq, Nat.reduceAdd, Nat.reduceEqDiff, decide_eq_true_eq, decide_eq_false_iff_not, Bool.not_eq_true', Bool.not_eq_false', Bool.and_eq_true, Bool.or_eq_true, Bool.and_eq_false_iff, Bool.or_eq_false_iff, Bool.cond_true_left, Bool.cond_false_right, Bool.cond_true_right, Bool.cond_false_left, Bool.or_false, Bool.and_true, inR]
  have e0 : (pr (a := tI) 0 (pr (a := .str) (b := .unit) ⟨#[97]⟩ ())) = mkE 0 ⟨#[97]⟩ := rfl
  simp only [e0]
  have f1 : put (newN 0 3) 0 [mkE 0 ⟨#[97]⟩] = setLog (newN 0 3) [mkE 0 ⟨#[97]⟩] := by rfl
  simp only [f1]
  have f2 : last (newN 0 3) = 0 := rfl
  have f3 : checkN (newN 0 3) = true := by rfl
  have f4 : last (setLog (newN 0 3) [mkE 0 ⟨#[97]⟩]) = 1 := by rfl
  have f5 : (newN 0 3).2.2.2.1 = -1 := rfl
  have f6 : (newN 0 3).2.2.2.2.2.2.2.2.2.2.2.2.1 = [1, 1, 1] := by rfl
  have f7 : behindN (setLog (newN 0 3) [mkE 0 ⟨#[97]⟩]) 0 = [mkE 0 ⟨#[97]⟩] := by rfl
  have f8 : nBase (newN 0 3) = 0 := rfl
  have f9 : nBase (setLog (newN 0 3) [mkE 0 ⟨#[97]⟩]) = 0 := rfl
  have f10 : nLog (newN 0 3) = [] := rfl
  have f11 : nNext (newN 0 3) = [1, 1, 1] := by rfl
  have f12 : nMatch (newN 0 3) = [0, 0, 0] := by rfl
  simp only [f2, f3, f4, f5, f6, f7, f8, f9, f10, f11, f12, sm]
  repeat' (first | apply And.intro | intro _)
  all_goals first | decide | rfl | trivial
/-- every entry's term lies from 0 to the node's -/
def EO (n : Node) : Prop := 0 ≤ nTerm n ∧ ∀ e ∈ nLog n, 0 ≤ e.1 ∧ e.1 ≤ nTerm n
theorem EO_step (n : Node) (v : Int) (h : EO n) : EO (madeStep n v) := by
  obtain ⟨h0, h⟩ := h
  unfold madeStep
  split
  · exact ⟨show 0 ≤ nTerm n + 1 by omega, fun e he => ⟨(h e he).1, by have h2 : eTerm e ≤ nTerm n := (h e he).2; show eTerm e ≤ nTerm n + 1; omega⟩⟩
  split
  · exact ⟨h0, h⟩
  split
  · unfold cutN
    split
    · exact ⟨h0, h⟩
    · exact ⟨h0, fun e he => h e (List.mem_of_mem_drop he)⟩
  split
  · exact ⟨h0, h⟩
  split
  · exact ⟨h0, h⟩
  split
  · exact ⟨h0, h⟩
  · refine ⟨h0, fun e he => ?_⟩
    have he : e ∈ nLog n ++ [mkE (nTerm n) (digits (mkK v / 12 % 1000))] := he
    rcases List.mem_append.1 he with he | he
    · exact h e he
    · rw [List.mem_singleton.1 he]
      exact ⟨h0, Int.le_refl _⟩
theorem EO_made (l : List Int) (id nodes : Int) : EO (made l id nodes) := by
  unfold made
  have : ∀ (l : List Int) (n : Node), EO n → EO (l.foldl madeStep n) := by
    intro l
    induction l with
    | nil => intro n h; exact h
    | cons v l ih => intro n h; exact ih _ (EO_step n v h)
  exact this _ _ ⟨Int.le_refl 0, fun e he => by cases he⟩
theorem put'_same (m : List E) : ∀ (c k : Nat), k + c ≤ m.length → put' m k ((m.drop k).take c) = m := by
  intro c
  induction c with
  | zero => intro k _; rfl
  | succ c ih =>
    intro k hk
    rw [List.drop_eq_getElem_cons (show k < m.length by omega), List.take_succ_cons]
    refine (if_pos ?_).trans (ih (k + 1) (by omega))
    rw [List.getElem?_eq_getElem (show k < m.length by omega)]
    rfl
theorem put'_new {m l : List E} {k : Nat} {t : Int} (h : ∀ e ∈ m, e.1 < t) (hl : ∀ e ∈ l, e.1 = t) (hn : l ≠ []) : put' m k l = m.take k ++ l := by
  cases l with
  | nil => exact absurd rfl hn
  | cons x l =>
    refine if_neg fun e => ?_
    have hx := hl x (List.mem_cons_self ..)
    cases hk : m[k]? with
    | none => rw [hk] at e; cases e
    | some y =>
      rw [hk] at e
      simp only [Option.map_some, Option.some.injEq] at e
      have h1 : eTerm y < t := h y (List.mem_of_getElem? hk)
      have h2 : eTerm y = eTerm x := e
      have h3 : eTerm x = t := hx
      omega
theorem entries_len (es : List Int) (t : Int) : (entries es t).length ≤ 20 := by
  unfold entries
  rw [List.length_map, List.length_take]
  omega
def bump (t : Int) (e : E) : E := mkE t e.2.1
def bumped (l : List E) (t : Int) (i : Nat) : List E := (l.take i).map (bump t) ++ l.drop i
theorem bumped_set {l : List E} {t : Int} {i : Nat} (h : i < l.length) : (bumped l t i).set i (mkE t ((bumped l t i).getD i (dflt tEntry)).2.1) = bumped l t (i + 1) := by
  have hl : ((l.take i).map (bump t)).length = i := by rw [List.length_map, List.length_take]; omega
  have hg : (bumped l t i).getD i (dflt tEntry) = l[i] := by
    unfold bumped
    rw [List.getD_eq_getElem?_getD, List.getElem?_append_right (by omega), hl, Nat.sub_self, List.drop_eq_getElem_cons h]
    rfl
  rw [hg]
  unfold bumped
  rw [List.set_append_right (h := by omega), hl, Nat.sub_self, List.drop_eq_getElem_cons h, List.set_cons_zero, List.take_add_one, List.getElem?_eq_getElem h, List.map_append, List.append_assoc]
  rfl
theorem bumped_len (l : List E) (t : Int) (i : Nat) (h : i ≤ l.length) : (bumped l t i).length = l.length := by
  unfold bumped
  rw [List.length_append, List.length_map, List.length_take, List.length_drop]
  omega
theorem bumped_all {l : List E} {t : Int} {i : Nat} (h : l.length ≤ i) : ∀ e ∈ bumped l t i, e.1 = t := by
  intro e he
  unfold bumped at he
  rw [List.drop_eq_nil_of_le h, List.append_nil] at he
  obtain ⟨x, _, rfl⟩ := List.mem_map.1 he
  rfl
def rlogPutsFn : Fn := { a := .pair (.list tI) (.pair tI (.pair tI (.pair (.list tI) .unit))), r := .pair .bool .unit, pre := fun x => preS x.1 ∧ InR .i64 x.2.1 ∧ InR .i64 x.2.2.1 ∧ preS x.2.2.2.1, f := fun _ => (true, ()) }
theorem h6  : Holds Try.prog 6 (rlogPutsFn) := by
  refine Holds.of_vc (T := [(22, fn22), (23, fn23), (34, fn34), (33, fn33), (35, fn35), (36, fn36), (37, fn37)]) (TT := ttL) (rowAt := []) (c := c6) (ros := [.t 8]) (.cons _ h22 (.cons _ h23 (.cons _ h34 (.cons _ h33 (.cons _ h35 (.cons _ h36 (.cons _ h37 (.nil _)))))))) mixed Try.func6 (by decide +kernel) (by rfl) comp6 (by kernel_rfl) rfl rfl (fun h => by cases h) ?_
  rintro ⟨(l : List Int), (fr : Int), (size : Int), (es : List Int), _⟩ hpre
  simp only [rlogPutsFn] at hpre ⊢
  simp only [c6, fn22, fn23, fn34, fn33, fn35, fn36, fn37, go_sem, reduceIte, Nat.reduceBEq, Nat.reduceMul, reduceCtorEq, Nat.reduceAdd, Nat.reduceEqDiff, decide_eq_true_eq, decide_eq_false_iff_not, Bool.not_eq_true', Bool.not_eq_false', Bool.and_eq_true, Bool.or_eq_true, Bool.and_eq_false_iff, Bool.or_eq_false_iff, Bool.cond_true_left, Bool.cond_false_right, Bool.cond_true_right, Bool.cond_false_left, Bool.or_false, Bool.and_true, inR]
  have hM := MI_made l 0 3
  have hE := EO_made l 0 3
  generalize made l 0 3 = n at *
  have hlast : last n = nBase n + (nLog n).length := rfl
  have hL : (nLog n).length ≤ 40 := by simp only [MI] at hM; omega
  have hB : 0 ≤ nBase n ∧ nBase n ≤ 40 := by simp only [MI] at hM; omega
  have hT : 0 ≤ nTerm n ∧ nTerm n ≤ 40 := by simp only [MI] at hM; omega
  have hV : (nVotes n).length ≤ 5 ∧ (nNext n).length ≤ 5 ∧ (nMatch n).length ≤ 5 := by simp only [MI] at hM; omega
  have hk0 : 0 ≤ fr % (((nLog n).length : Int) + 1) := Int.emod_nonneg _ (by omega)
  have hk1 : fr % (((nLog n).length : Int) + 1) < (nLog n).length + 1 := Int.emod_lt_of_pos _ (by omega)
  have hlen : (n.2.2.2.2.2.2.2.1.length : Int) = (nLog n).length := rfl
  have hlenN : n.2.2.2.2.2.2.2.1.length = (nLog n).length := rfl
  simp only [hlen, hlenN]
  generalize fr % (((nLog n).length : Int) + 1) = k at *
  have hm0 : 0 ≤ size % (((nLog n).length : Int) - k + 1) := Int.emod_nonneg _ (by omega)
  have hm1 : size % (((nLog n).length : Int) - k + 1) < (nLog n).length - k + 1 := Int.emod_lt_of_pos _ (by omega)
  generalize size % (((nLog n).length : Int) - k + 1) = m at *
  have hdt : (nLog n).take (k + m).toNat = (nLog n).take (k.toNat + m.toNat) := by rw [show (k + m).toNat = k.toNat + m.toNat by omega]
  have hput1 : put n (nBase n + k) (((nLog n).take (k + m).toNat).drop k.toNat) = n := by
    rw [hdt, List.drop_take, show k.toNat + m.toNat - k.toNat = m.toNat by omega]
    unfold put
    rw [if_neg (by omega), show (nBase n + k - nBase n).toNat = k.toNat by omega, put'_same _ _ _ (by omega)]
    rfl
  have hput1' : put n (n.2.2.2.2.1 + k) (List.drop k.toNat (List.take (k + m).toNat n.2.2.2.2.2.2.2.1)) = n := hput1
  have hdl : (List.drop k.toNat (List.take (k + m).toNat n.2.2.2.2.2.2.2.1)).length ≤ 40 := by
    rw [List.length_drop, List.length_take]
    show min _ (nLog n).length - _ ≤ 40
    omega
  simp only [hput1', eqB_self]
  have hel := entries_len es (nTerm n)
  dsimp only [den, nId, nNodes, nTerm, nVote, nBase, nBT, nSnap, nLog, nRole, nLead, nCommit, nVotes, nNext, nMatch, nClock, mKind, mFrom, mTo, mTerm, mIndex, mAt, mYes, mCommit, mEntries, mSnap, eTerm, eCmd, mkN, mkM, mkE, last, inR, sm, lastT] at *
  refine ⟨by omega, by omega, by omega, by omega, by omega, by omega, by omega, by omega, by omega, by omega, by omega, by rfl, (fun h => by cases h), fun _ => ⟨by omega, ?_⟩⟩
  refine loop_rule (β := Nat) (fun i => ⟨[(9, .ptr 9 0), (10, .int .i64 k), (12, .own 51 0 (entries es (nTerm n)).length), (13, .int .i64 i)], [(9, .box (cellsA tNode n [])), (51, .row tEntry (bumped (entries es (nTerm n)) (nTerm n + 1) i) false)]⟩)
    (fun i => i ≤ (entries es (nTerm n)).length) (fun i => (entries es (nTerm n)).length - i) 0 ?_ ?_ ?_
  · refine Ent_of [(9, 9), (51, 51)] rfl ?_ ?_
    · simp only [go_sem, reduceIte, Nat.reduceBEq, Nat.reduceMul, reduceCtorEq, Nat.reduceAdd, Nat.reduceEqDiff, decide_eq_true_eq, decide_eq_false_iff_not, Bool.not_eq_true', Bool.not_eq_false', Bool.and_eq_true, Bool.or_eq_true, Bool.and_eq_false_iff, Bool.or_eq_false_iff, Bool.cond_true_left, Bool.cond_false_right, Bool.cond_true_right, Bool.cond_false_left, Bool.or_false, Bool.and_true]
      rfl
    · simp only [go_sem, reduceIte, Nat.reduceBEq, Nat.reduceMul, reduceCtorEq, Nat.reduceAdd, Nat.reduceEqDiff, decide_eq_true_eq, decide_eq_false_iff_not, Bool.not_eq_true', Bool.not_eq_false', Bool.and_eq_true, Bool.or_eq_true, Bool.and_eq_false_iff, Bool.or_eq_false_iff, Bool.cond_true_left, Bool.cond_false_right, Bool.cond_true_right, Bool.cond_false_left, Bool.or_false, Bool.and_true]
      trivial
  · exact Nat.zero_le _
  intro i hi
  have hbl := bumped_len (entries es (nTerm n)) (nTerm n + 1) i hi
  have hel' := entries_len es (nTerm n)
  simp only [go_sem, reduceIte, Nat.reduceBEq, Nat.reduceMul, reduceCtorEq, Nat.reduceAdd, Nat.reduceEqDiff, decide_eq_true_eq, decide_eq_false_iff_not, Bool.not_eq_true', Bool.not_eq_false', Bool.and_eq_true, Bool.or_eq_true, Bool.and_eq_false_iff, Bool.or_eq_false_iff, Bool.cond_true_left, Bool.cond_false_right, Bool.cond_true_right, Bool.cond_false_left, Bool.or_false, Bool.and_true, inR]
  refine ⟨fun h => ⟨by omega, by omega, by omega, Again.intro (i + 1) (Ent_of [(9, 9), (51, 51)] rfl ?_ ?_) ?_ ?_⟩, fun h => ?_⟩
  · simp only [go_sem, reduceIte, Nat.reduceBEq, Nat.reduceMul, reduceCtorEq, Nat.reduceAdd, Nat.reduceEqDiff, decide_eq_true_eq, decide_eq_false_iff_not, Bool.not_eq_true', Bool.not_eq_false', Bool.and_eq_true, Bool.or_eq_true, Bool.and_eq_false_iff, Bool.or_eq_false_iff, Bool.cond_true_left, Bool.cond_false_right, Bool.cond_true_right, Bool.cond_false_left, Bool.or_false, Bool.and_true]
    exact (bumped_set (by omega)).symm
  · simp only [go_sem, reduceIte, Nat.reduceBEq, Nat.reduceMul, reduceCtorEq, Nat.reduceAdd, Nat.reduceEqDiff, decide_eq_true_eq, decide_eq_false_iff_not, Bool.not_eq_true', Bool.not_eq_false', Bool.and_eq_true, Bool.or_eq_true, Bool.and_eq_false_iff, Bool.or_eq_false_iff, Bool.cond_true_left, Bool.cond_false_right, Bool.cond_true_right, Bool.cond_false_left, Bool.or_false, Bool.and_true]
    omega
  · show i + 1 ≤ _; omega
  · show (entries es (nTerm n)).length - (i + 1) < (entries es (nTerm n)).length - i; omega
  have hall := bumped_all (l := entries es (nTerm n)) (t := nTerm n + 1) (i := i) (by omega)
  simp only [← hbl, List.take_length]
  have hel2 : (bumped (entries es (nTerm n)) (nTerm n + 1) i).length ≤ 20 := by omega
  clear hbl
  generalize bumped (entries es (nTerm n)) (nTerm n + 1) i = X at *
  have hp2 : X ≠ [] → put n (n.2.2.2.2.1 + k) X = setLog n ((nLog n).take k.toNat ++ X) := by
    intro hne
    unfold put
    rw [if_neg (by dsimp only [den, nId, nNodes, nTerm, nVote, nBase, nBT, nSnap, nLog, nRole, nLead, nCommit, nVotes, nNext, nMatch, nClock, mKind, mFrom, mTo, mTerm, mIndex, mAt, mYes, mCommit, mEntries, mSnap, eTerm, eCmd, mkN, mkM, mkE, last, inR, sm, lastT] at *; omega)]
    rw [put'_new (t := nTerm n + 1) (fun e he => ?_) hall hne]
    · rw [show (n.2.2.2.2.1 + k - nBase n).toNat = k.toNat by dsimp only [den, nId, nNodes, nTerm, nVote, nBase, nBT, nSnap, nLog, nRole, nLead, nCommit, nVotes, nNext, nMatch, nClock, mKind, mFrom, mTo, mTerm, mIndex, mAt, mYes, mCommit, mEntries, mSnap, eTerm, eCmd, mkN, mkM, mkE, last, inR, sm, lastT] at *; omega]
    · have h2 : eTerm e ≤ nTerm n := (hE.2 e he).2
      show eTerm e < nTerm n + 1
      omega
  have hp1 : X = [] → put n (n.2.2.2.2.1 + k) X = n := by
    intro hne
    rw [hne]
    unfold put
    rw [if_neg (by dsimp only [den, nId, nNodes, nTerm, nVote, nBase, nBT, nSnap, nLog, nRole, nLead, nCommit, nVotes, nNext, nMatch, nClock, mKind, mFrom, mTo, mTerm, mIndex, mAt, mYes, mCommit, mEntries, mSnap, eTerm, eCmd, mkN, mkM, mkE, last, inR, sm, lastT] at *; omega), put'_nil]
    rfl
  have htk : (List.take k.toNat n.2.2.2.2.2.2.2.1).length = k.toNat := by rw [List.length_take]; omega
  refine ⟨by omega, by omega, by omega, by rfl, fun h0 => ?_, fun h0 => ?_⟩
  · rw [hp1 (List.eq_nil_of_length_eq_zero (by omega))]
    exact ⟨⟨by omega, by omega, by omega, by omega⟩, eqB_self n⟩
  · have hne : X ≠ [] := fun e => h0 (by rw [e]; rfl)
    rw [hp2 hne]
    have e1 : (setLog n ((nLog n).take k.toNat ++ X)).2.2.2.2.2.2.2.1 = List.take k.toNat n.2.2.2.2.2.2.2.1 ++ X := rfl
    have e2 : (List.take k.toNat n.2.2.2.2.2.2.2.1 ++ X).length = k.toNat + X.length := by rw [List.length_append, htk]
    have e3 : List.take k.toNat (List.take k.toNat n.2.2.2.2.2.2.2.1 ++ X) = List.take k.toNat n.2.2.2.2.2.2.2.1 := List.take_left' htk
    have e4 : List.drop k.toNat (List.take k.toNat n.2.2.2.2.2.2.2.1 ++ X) = X := List.drop_left' htk
    simp only [e1, e2, e3, e4, eqB_self]
    exact ⟨by omega, fun _ => by omega, fun _ => by omega, fun _ => by omega, fun _ => by omega, fun _ => by omega, by rfl, ⟨by omega, trivial⟩, trivial⟩
end Go.AM
