import Derived.Test.YtbcbgfkojmligaaHU
import Derived.Test.YtbcbgfkojmligaaTV
/- What functions of the program answer, each under the conditions that its contract names. -/
set_option linter.unusedVariables false
set_option linter.unusedSimpArgs false
set_option maxRecDepth 100000
set_option maxHeartbeats 40000000
set_option linter.unusedSimpArgs false
namespace Go.AM
open Go.Proofs
attribute [local congr] vc_congr evOps_congr evTab_congr bind_congr condK_congr tabK_congr
def tk : Nat → Node
  | 0 => newN 0 1
  | i + 1 => tick1 (tk i)
theorem tk_eq : ∀ i : Nat, i < 10 → tk i = setClock (newN 0 1) i := by
  intro i
  induction i with
  | zero => intro _; rfl
  | succ i ih =>
    intro h
    have e := ih (by omega)
    show tick1 (tk i) = _
    rw [e]
    have h1 : ¬ (nRole (setClock (newN 0 1) i) = 2 ∧ 3 ≤ nClock (setClock (newN 0 1) i) + 1) := fun hc => absurd hc.1 (by show ¬ ((0 : Int) = 2); decide)
    have h2 : nRole (setClock (newN 0 1) i) = 2 ∨ nClock (setClock (newN 0 1) i) + 1 < 10 + 5 * nId (setClock (newN 0 1) i) := by
      right
      show (i : Int) + 1 < 10 + 5 * 0
      omega
    have e2 : tick1 (setClock (newN 0 1) i) = setClock (setClock (newN 0 1) i) (nClock (setClock (newN 0 1) i) + 1) := by
      unfold tick1
      rw [if_neg h1, if_pos h2]
    rw [e2]
    rfl
theorem tk_pre (i : Nat) (h : i < 10) : rgL (tk i) ∧ nextsOk (tk i) ∧ 0 ≤ nId (tk i) ∧ nId (tk i) ≤ 100 ∧ 0 ≤ nTerm (tk i) ∧ nTerm (tk i) ≤ 4398046511000 ∧ 0 ≤ nClock (tk i) ∧ nClock (tk i) ≤ 4398046511000 := by
  rw [tk_eq i h]
  refine ⟨⟨⟨?_, ?_, ?_, ?_, ?_, ?_, ?_, ?_, ?_⟩, ?_, ?_⟩, ?_, ?_, ?_, ?_, ?_, ?_, ?_⟩
  · exact of_decide_eq_true (by rfl)
  · exact of_decide_eq_true (by rfl)
  · exact of_decide_eq_true (by rfl)
  · exact of_decide_eq_true (by rfl)
  · exact of_decide_eq_true (by rfl)
  · exact of_decide_eq_true (by rfl)
  · exact of_decide_eq_true (by rfl)
  · exact of_decide_eq_true (by rfl)
  · exact of_decide_eq_true (by rfl)
  · exact of_decide_eq_true (by rfl)
  · exact of_decide_eq_true (by rfl)
  · intro v hv
    have : v = 1 := List.eq_of_mem_replicate hv
    omega
  · exact of_decide_eq_true (by rfl)
  · exact of_decide_eq_true (by rfl)
  · exact of_decide_eq_true (by rfl)
  · exact of_decide_eq_true (by rfl)
  · show (0 : Int) ≤ (i : Int); omega
  · show (i : Int) ≤ 4398046511000; omega
def fn76 : Fn := { a := .unit, r := .pair .bool .unit, pre := fun _ => True, f := fun _ => (true, ()) }
theorem h76  : Holds Try.prog 76 (fn76) := by
  refine Holds.of_vcc (T := [(31, fn31), (78, fn78), (82, fn82)]) (TT := ttL) (rowAt := []) (c := c76) (ros := [.t 0]) (.cons _ h31 (.cons _ h78 (.cons _ h82 (.nil _)))) mixed Try.func76 (by decide +kernel) (by rfl) comp76 (by kernel_rfl) rfl rfl (fun h => by cases h) ?_
  rintro _ hpre
  simp only [fn76] at hpre ⊢
  simp only [c76, fn31, fn78, fn82, go_sem, reduceIte, Nat.reduceBEq, Nat.reduceMul, reduceCtorEq, Nat.reduceAdd, Nat.reduceEqDiff, decide_eq_true_eq, decide_eq_false_iff_not, Bool.not_eq_true', Bool.not_eq_false', Bool.and_eq_true, Bool.or_eq_true, Bool.and_eq_false_iff, Bool.or_eq_false_iff, Bool.cond_true_left, Bool.cond_false_right, Bool.cond_true_right, Bool.cond_false_left, Bool.or_false, Bool.and_true, inR]
  refine loop_rule (β := Nat) (fun i => ⟨[(1, .ptr 1 0), (2, .int .i64 i)], [(1, .box (cellsA tNode (tk i) []))]⟩) (fun i => i ≤ 10) (fun i => 10 - i) 0 ?_ ?_ ?_
  · refine Ent_of [(1, 1)] rfl ?_ ?_
    · simp only [go_sem, reduceIte, Nat.reduceBEq, Nat.reduceMul, reduceCtorEq, Nat.reduceAdd, Nat.reduceEqDiff, decide_eq_true_eq, decide_eq_false_iff_not, Bool.not_eq_true', Bool.not_eq_false', Bool.and_eq_true, Bool.or_eq_true, Bool.and_eq_false_iff, Bool.or_eq_false_iff, Bool.cond_true_left, Bool.cond_false_right, Bool.cond_true_right, Bool.cond_false_left, Bool.or_false, Bool.and_true]
      repeat (first | exact rfl | refine ⟨rfl, ?_⟩)
    · simp only [go_sem, reduceIte, Nat.reduceBEq, Nat.reduceMul, reduceCtorEq, Nat.reduceAdd, Nat.reduceEqDiff, decide_eq_true_eq, decide_eq_false_iff_not, Bool.not_eq_true', Bool.not_eq_false', Bool.and_eq_true, Bool.or_eq_true, Bool.and_eq_false_iff, Bool.or_eq_false_iff, Bool.cond_true_left, Bool.cond_false_right, Bool.cond_true_right, Bool.cond_false_left, Bool.or_false, Bool.and_true]
      rfl
  · exact Nat.zero_le _
  intro i hi
  simp only [go_sem, reduceIte, Nat.reduceBEq, Nat.reduceMul, reduceCtorEq, Nat.reduceAdd, Nat.reduceEqDiff, decide_eq_true_eq, decide_eq_false_iff_not, Bool.not_eq_true', Bool.not_eq_false', Bool.and_eq_true, Bool.or_eq_true, Bool.and_eq_false_iff, Bool.or_eq_false_iff, Bool.cond_true_left, Bool.cond_false_right, Bool.cond_true_right, Bool.cond_false_left, Bool.or_false, Bool.and_true, inR]
  generalize hV : vc _ (C.cut c76_20) _ = V
  refine ⟨fun h => ⟨tk_pre i (by omega), by omega, Again.intro (i + 1) (Ent_of [(1, 1)] rfl ?_ ?_) (show i + 1 ≤ 10 by omega) (show 10 - (i + 1) < 10 - i by omega)⟩, fun h => ?_⟩
  · simp only [go_sem, reduceIte, Nat.reduceBEq, Nat.reduceMul, reduceCtorEq, Nat.reduceAdd, Nat.reduceEqDiff, decide_eq_true_eq, decide_eq_false_iff_not, Bool.not_eq_true', Bool.not_eq_false', Bool.and_eq_true, Bool.or_eq_true, Bool.and_eq_false_iff, Bool.or_eq_false_iff, Bool.cond_true_left, Bool.cond_false_right, Bool.cond_true_right, Bool.cond_false_left, Bool.or_false, Bool.and_true]
    repeat (first | exact rfl | refine ⟨rfl, ?_⟩)
  · simp only [go_sem, reduceIte, Nat.reduceBEq, Nat.reduceMul, reduceCtorEq, Nat.reduceAdd, Nat.reduceEqDiff, decide_eq_true_eq, decide_eq_false_iff_not, Bool.not_eq_true', Bool.not_eq_false', Bool.and_eq_true, Bool.or_eq_true, Bool.and_eq_false_iff, Bool.or_eq_false_iff, Bool.cond_true_left, Bool.cond_false_right, Bool.cond_true_right, Bool.cond_false_left, Bool.or_false, Bool.and_true]
    omega
  have hi10 : i = 10 := by omega
  subst hi10
  have p1 : rgL (tk 10) := by
    refine ⟨⟨?_, ?_, ?_, ?_, ?_, ?_, ?_, ?_, ?_⟩, ?_, ?_⟩
    all_goals exact of_decide_eq_true (by rfl)
  have p2 : nextsOk (tk 10) := by
    have e : nNext (tk 10) = [1] := by rfl
    unfold nextsOk
    rw [e]
    intro v hv
    rw [List.mem_singleton.1 hv]
    decide
  have p3 : (tk 10).2.2.2.2.2.2.2.2.1 = 2 := by rfl
  have p4 : prop3 (tk 10) = 0 := by rfl
  have p5 : (prop1 (tk 10) ⟨#[120]⟩).2.2.2.2.2.2.2.2.2.2.1 = 2 := by rfl
  have p6 : prop3 (newN 0 3) = 13 := by rfl
  have p7 : rgL (newN 0 3) ∧ nextsOk (newN 0 3) := by
    refine ⟨⟨⟨?_, ?_, ?_, ?_, ?_, ?_, ?_, ?_, ?_⟩, ?_, ?_⟩, ?_⟩
    · exact of_decide_eq_true (by rfl)
    · exact of_decide_eq_true (by rfl)
    · exact of_decide_eq_true (by rfl)
    · exact of_decide_eq_true (by rfl)
    · exact of_decide_eq_true (by rfl)
    · exact of_decide_eq_true (by rfl)
    · exact of_decide_eq_true (by rfl)
    · exact of_decide_eq_true (by rfl)
    · exact of_decide_eq_true (by rfl)
    · exact of_decide_eq_true (by rfl)
    · exact of_decide_eq_true (by rfl)
    · intro v hv
      have : v = 1 := List.eq_of_mem_replicate hv
      omega
  generalize tk 10 = t at *
  refine cut_at hV ⟨[(1, .ptr 1 0)], [(1, .box (cellsA tNode t []))]⟩ ?_ (Ent_of [(1, 1)] rfl ?_ ?_)
  rotate_left
  · simp only [go_sem, reduceIte, Nat.reduceBEq, Nat.reduceMul, reduceCtorEq, Nat.reduceAdd, Nat.reduceEqDiff, decide_eq_true_eq, decide_eq_false_iff_not, Bool.not_eq_true', Bool.not_eq_false', Bool.and_eq_true, Bool.or_eq_true, Bool.and_eq_false_iff, Bool.or_eq_false_iff, Bool.cond_true_left, Bool.cond_false_right, Bool.cond_true_right, Bool.cond_false_left, Bool.or_false, Bool.and_true]
  · simp only [go_sem, reduceIte, Nat.reduceBEq, Nat.reduceMul, reduceCtorEq, Nat.reduceAdd, Nat.reduceEqDiff, decide_eq_true_eq, decide_eq_false_iff_not, Bool.not_eq_true', Bool.not_eq_false', Bool.and_eq_true, Bool.or_eq_true, Bool.and_eq_false_iff, Bool.or_eq_false_iff, Bool.cond_true_left, Bool.cond_false_right, Bool.cond_true_right, Bool.cond_false_left, Bool.or_false, Bool.and_true]
  clear hV V
  simp (maxSteps := 10000000) only [c76_20, go_sem, reduceIte, Nat.reduceBEq, Nat.reduceMul, reduceCtorEq, Nat.reduceAdd, Nat.reduceEqDiff, decide_eq_true_eq, decide_eq_false_iff_not, Bool.not_eq_true', Bool.not_eq_false', Bool.and_eq_true, Bool.or_eq_true, Bool.and_eq_false_iff, Bool.or_eq_false_iff, Bool.cond_true_left, Bool.cond_false_right, Bool.cond_true_right, Bool.cond_false_left, Bool.or_false, Bool.and_true, inR, p4]
  generalize hV : vc _ (C.cut c76_26) _ = V
  refine ⟨⟨p1, p2⟩, ?_⟩
  generalize prop1 t ⟨#[120]⟩ = q at *
  refine cut_at hV ⟨[(1, .ptr 1 0), (3, .ptr 3 0), (5, .int .i64 0)], [(1, .box (cellsA tNode t [])), (3, .box (cellsA tNode q []))]⟩ ?_ (Ent_of [(1, 1), (3, 3)] rfl ?_ ?_)
  rotate_left
  · simp only [go_sem, reduceIte, Nat.reduceBEq, Nat.reduceMul, reduceCtorEq, Nat.reduceAdd, Nat.reduceEqDiff, decide_eq_true_eq, decide_eq_false_iff_not, Bool.not_eq_true', Bool.not_eq_false', Bool.and_eq_true, Bool.or_eq_true, Bool.and_eq_false_iff, Bool.or_eq_false_iff, Bool.cond_true_left, Bool.cond_false_right, Bool.cond_true_right, Bool.cond_false_left, Bool.or_false, Bool.and_true]
  · simp only [go_sem, reduceIte, Nat.reduceBEq, Nat.reduceMul, reduceCtorEq, Nat.reduceAdd, Nat.reduceEqDiff, decide_eq_true_eq, decide_eq_false_iff_not, Bool.not_eq_true', Bool.not_eq_false', Bool.and_eq_true, Bool.or_eq_true, Bool.and_eq_false_iff, Bool.or_eq_false_iff, Bool.cond_true_left, Bool.cond_false_right, Bool.cond_true_right, Bool.cond_false_left, Bool.or_false, Bool.and_true]
  clear hV V
  simp (maxSteps := 10000000) only [c76_26, go_sem, reduceIte, Nat.reduceBEq, Nat.reduceMul, reduceCtorEq, Nat.reduceAdd, Nat.reduceEqDiff, decide_eq_true_eq, decide_eq_false_iff_not, Bool.not_eq_true', Bool.not_eq_false', Bool.and_eq_true, Bool.or_eq_true, Bool.and_eq_false_iff, Bool.or_eq_false_iff, Bool.cond_true_left, Bool.cond_false_right, Bool.cond_true_right, Bool.cond_false_left, Bool.or_false, Bool.and_true, inR, p6]
  generalize hV : vc _ (C.cut c76_31) _ = V
  refine ⟨p7, ?_⟩
  refine cut_at hV ⟨[(1, .ptr 1 0), (3, .ptr 3 0), (5, .int .i64 0), (8, .int .i64 13)], [(1, .box (cellsA tNode t [])), (3, .box (cellsA tNode q []))]⟩ ?_ (Ent_of [(1, 1), (3, 3)] rfl ?_ ?_)
  rotate_left
  · simp only [go_sem, reduceIte, Nat.reduceBEq, Nat.reduceMul, reduceCtorEq, Nat.reduceAdd, Nat.reduceEqDiff, decide_eq_true_eq, decide_eq_false_iff_not, Bool.not_eq_true', Bool.not_eq_false', Bool.and_eq_true, Bool.or_eq_true, Bool.and_eq_false_iff, Bool.or_eq_false_iff, Bool.cond_true_left, Bool.cond_false_right, Bool.cond_true_right, Bool.cond_false_left, Bool.or_false, Bool.and_true]
  · simp only [go_sem, reduceIte, Nat.reduceBEq, Nat.reduceMul, reduceCtorEq, Nat.reduceAdd, Nat.reduceEqDiff, decide_eq_true_eq, decide_eq_false_iff_not, Bool.not_eq_true', Bool.not_eq_false', Bool.and_eq_true, Bool.or_eq_true, Bool.and_eq_false_iff, Bool.or_eq_false_iff, Bool.cond_true_left, Bool.cond_false_right, Bool.cond_true_right, Bool.cond_false_left, Bool.or_false, Bool.and_true]
  clear hV V
  have d1 : decide (t.2.2.2.2.2.2.2.2.1 = 2) = true := decide_eq_true p3
  have d2 : decide (q.2.2.2.2.2.2.2.2.2.2.1 = 2) = true := decide_eq_true p5
  simp (maxSteps := 10000000) only [c76_31, go_sem, reduceIte, Nat.reduceBEq, Nat.reduceMul, reduceCtorEq, Nat.reduceAdd, Nat.reduceEqDiff, decide_eq_true_eq, decide_eq_false_iff_not, Bool.not_eq_true', Bool.not_eq_false', Bool.and_eq_true, Bool.or_eq_true, Bool.and_eq_false_iff, Bool.or_eq_false_iff, Bool.cond_true_left, Bool.cond_false_right, Bool.cond_true_right, Bool.cond_false_left, Bool.or_false, Bool.and_true, inR, d1, d2, decide_true, eq_self]
def fn80w : Fn := { a := .pair tNode (.pair tMsg .unit), r := .pair tNode (.pair (.list tMsg) .unit), pre := fun x => InR .i64 (nNodes x.1 - 1) ∧ (rightB x.2.1 (nNodes x.1) = false ∨ mTo x.2.1 ≠ nId x.1), f := fun x => (x.1, [], ()) }
theorem h80w  : Holds Try.prog 80 (fn80w) := by
  refine Holds.of_vcc (T := [(84, fn84)]) (TT := ttL) (rowAt := []) (c := c80) (ros := [.c 4 15, .t 5]) (.cons _ h84 (.nil _)) mixed Try.func80 (by decide +kernel) (by rfl) comp80 (by kernel_rfl) rfl rfl (fun h => by cases h) ?_
  rintro ⟨(n : Node), (m : Msg), _⟩ hpre
  simp only [fn80w] at hpre ⊢
  simp only [c80, fn84, go_sem, reduceIte, Nat.reduceBEq, Nat.reduceMul, reduceCtorEq, Nat.reduceAdd, Nat.reduceEqDiff, decide_eq_true_eq, decide_eq_false_iff_not, Bool.not_eq_true', Bool.not_eq_false', Bool.and_eq_true, Bool.or_eq_true, Bool.and_eq_false_iff, Bool.or_eq_false_iff, Bool.cond_true_left, Bool.cond_false_right, Bool.cond_true_right, Bool.cond_false_left, Bool.or_false, Bool.and_true, inR]
  generalize hV : vc _ (C.cut c80_26) _ = V
  refine ⟨hpre.1, fun h => ?_⟩
  rcases hpre.2 with h2 | h2
  · rw [show rightB m (nNodes n) = true from h.1] at h2; cases h2
  · exact (h2 h.2).elim
end Go.AM
