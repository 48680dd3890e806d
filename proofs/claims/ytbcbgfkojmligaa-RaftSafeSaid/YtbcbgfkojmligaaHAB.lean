import Derived.Test.YtbcbgfkojmligaaHAA
import Derived.KernelRfl
import Derived.Test.YtbcbgfkojmligaaProg
/- What functions of the program answer, each under the conditions that its contract names. -/
set_option linter.unusedVariables false
set_option linter.unusedSimpArgs false
set_option maxRecDepth 100000
namespace Go.AM
def c76_31 : C := (.seq (.reg [⟨(some 31), (.fld 8), [.t 1], none⟩,
  ⟨(some 32), (.load 1 false), [.t 31], none⟩,
  ⟨(some 33), (.bin .eql), [.t 32, .c (.int .i64 2)], none⟩,
  ⟨(some 34), .mv, [.t 33], none⟩,
  ⟨(some 35), .mv, [.t 5], (some (34, true))⟩,
  ⟨(some 36), (.bin .eql), [.t 35, .c (.int .i64 0)], (some (34, true))⟩,
  ⟨(some 37), .pick, [.t 34, .t 36, .c (.bool false)], none⟩,
  ⟨(some 38), .mv, [.t 37], none⟩,
  ⟨(some 39), (.fld 10), [.t 3], (some (38, true))⟩,
  ⟨(some 40), (.load 1 false), [.t 39], (some (38, true))⟩,
  ⟨(some 41), (.bin .eql), [.t 40, .c (.int .i64 2)], (some (38, true))⟩,
  ⟨(some 42), .pick, [.t 38, .t 41, .c (.bool false)], none⟩,
  ⟨(some 43), .mv, [.t 42], none⟩,
  ⟨(some 44), .mv, [.t 8], (some (43, true))⟩,
  ⟨(some 45), (.bin .eql), [.t 44, .c (.int .i64 13)], (some (43, true))⟩,
  ⟨(some 46), .pick, [.t 43, .t 45, .c (.bool false)], none⟩,
  ⟨(some 47), .mv, [.t 46], none⟩,
  ⟨(some 48), .pick, [.t 47, .c (.bool true), .c (.bool false)], none⟩,
  ⟨(some 49), .mv, [.t 48], none⟩,
  ⟨(some 50), .pick, [.t 49, .c (.bool true), .c (.bool false)], none⟩,
  ⟨(some 0), .mv, [.t 50], none⟩])
 .ret)
def c76_26 : C := (.seq (.reg [⟨(some 26), (.call 31), [.c (.int .i64 0), .c (.int .i64 3)], none⟩,
  ⟨(some 27), (.call 82), [.t 26, .c (.str ⟨#[120]⟩)], none⟩,
  ⟨(some 25), .mv, [.t 27], none⟩,
  ⟨(some 28), (.ext 0), [.t 25], none⟩,
  ⟨(some 29), (.ext 1), [.t 25], none⟩,
  ⟨(some 30), (.ext 2), [.t 25], none⟩,
  ⟨(some 6), (.alloc [.int .i64 0, .int .i64 0, .int .i64 0, .int .i64 0, .int .i64 0, .int .i64 0, .str ⟨#[]⟩, .sl tEntry [] true, .int .i64 0, .int .i64 0, .int .i64 0, .sl .bool [] true, .sl tI [] true, .sl tI [] true, .int .i64 0]), [], none⟩,
  ⟨none, (.store 15), [.t 6, .t 28], none⟩,
  ⟨(some 7), .mv, [.t 29], none⟩,
  ⟨(some 8), .mv, [.t 30], none⟩])
 (.cut c76_31))
def c76_20 : C := (.seq (.reg [⟨(some 20), (.load 15 true), [.t 1], none⟩,
  ⟨(some 21), (.call 82), [.t 20, .c (.str ⟨#[120]⟩)], none⟩,
  ⟨(some 19), .mv, [.t 21], none⟩,
  ⟨(some 22), (.ext 0), [.t 19], none⟩,
  ⟨(some 23), (.ext 1), [.t 19], none⟩,
  ⟨(some 24), (.ext 2), [.t 19], none⟩,
  ⟨(some 3), (.alloc [.int .i64 0, .int .i64 0, .int .i64 0, .int .i64 0, .int .i64 0, .int .i64 0, .str ⟨#[]⟩, .sl tEntry [] true, .int .i64 0, .int .i64 0, .int .i64 0, .sl .bool [] true, .sl tI [] true, .sl tI [] true, .int .i64 0]), [], none⟩,
  ⟨none, (.store 15), [.t 3, .t 22], none⟩,
  ⟨(some 4), .mv, [.t 23], none⟩,
  ⟨(some 5), .mv, [.t 24], none⟩])
 (.cut c76_26))
def c76 : C := (.seq (.reg [⟨(some 0), .mv, [.c (.bool false)], none⟩])
 (.seq (.reg [⟨(some 9), (.call 31), [.c (.int .i64 0), .c (.int .i64 1)], none⟩,
  ⟨(some 1), (.alloc [.int .i64 0, .int .i64 0, .int .i64 0, .int .i64 0, .int .i64 0, .int .i64 0, .str ⟨#[]⟩, .sl tEntry [] true, .int .i64 0, .int .i64 0, .int .i64 0, .sl .bool [] true, .sl tI [] true, .sl tI [] true, .int .i64 0]), [], none⟩,
  ⟨none, (.store 15), [.t 1, .t 9], none⟩])
 (.seq (.seq (.reg [⟨(some 2), .mv, [.c (.int .i64 0)], none⟩])
 (.block 0 (.loop (.seq (.seq (.reg [⟨(some 10), .mv, [.t 2], none⟩,
  ⟨(some 11), (.bin .lss), [.t 10, .c (.int .i64 10)], none⟩])
 (.cond (.t 11) .skip (.exit 0)))
 (.seq (.block 1 (.reg [⟨(some 15), (.load 15 true), [.t 1], none⟩,
  ⟨(some 16), (.call 78), [.t 15], none⟩,
  ⟨(some 14), .mv, [.t 16], none⟩,
  ⟨(some 17), (.ext 0), [.t 14], none⟩,
  ⟨(some 18), (.ext 1), [.t 14], none⟩,
  ⟨none, (.store 15), [.t 1, .t 17], none⟩]))
 (.reg [⟨(some 12), .mv, [.t 2], none⟩,
  ⟨(some 13), (.bin .add), [.t 12, .c (.int .i64 1)], none⟩,
  ⟨(some 2), .mv, [.t 13], none⟩]))))))
 (.cut c76_20))))
theorem comp76 : compC Go.Proofs.Try.prog ttL 51 [] (match Go.Proofs.Try.f76.body with | some b => b | none => .skip) = some (erase c76) := by kernel_rfl
end Go.AM
set_option maxRecDepth 100000
set_option maxHeartbeats 40000000
set_option linter.unusedSimpArgs false
namespace Go.AM
open Go.Proofs
attribute [local congr] vc_congr evOps_congr evTab_congr bind_congr condK_congr tabK_congr
def tk : Nat → Node
  | 0 => newN 0 1
  | i + 1 => tick1 (tk i)
theorem tk_eq : ∀ i : Nat, i < 10 → tk i = setClock (newN 0 1) i := by
  intro i
  induction i with
  | zero => intro _; rfl
  | succ i ih =>
    intro h
    have e := ih (by omega)
    show tick1 (tk i) = _
    rw [e]
    have h1 : ¬ (nRole (setClock (newN 0 1) i) = 2 ∧ 3 ≤ nClock (setClock (newN 0 1) i) + 1) := fun hc => absurd hc.1 (by show ¬ ((0 : Int) = 2); decide)
    have h2 : nRole (setClock (newN 0 1) i) = 2 ∨ nClock (setClock (newN 0 1) i) + 1 < 10 + 5 * nId (setClock (newN 0 1) i) := by
      right
      show (i : Int) + 1 < 10 + 5 * 0
      omega
    have e2 : tick1 (setClock (newN 0 1) i) = setClock (setClock (newN 0 1) i) (nClock (setClock (newN 0 1) i) + 1) := by
      unfold tick1
      rw [if_neg h1, if_pos h2]
    rw [e2]
    rfl
theorem tk_pre (i : Nat) (h : i < 10) : rgL (tk i) ∧ nextsOk (tk i) ∧ 0 ≤ nId (tk i) ∧ nId (tk i) ≤ 100 ∧ 0 ≤ nTerm (tk i) ∧ nTerm (tk i) ≤ 4398046511000 ∧ 0 ≤ nClock (tk i) ∧ nClock (tk i) ≤ 4398046511000 := by
  rw [tk_eq i h]
  refine ⟨⟨⟨?_, ?_, ?_, ?_, ?_, ?_, ?_, ?_, ?_⟩, ?_, ?_⟩, ?_, ?_, ?_, ?_, ?_, ?_, ?_⟩
  · exact of_decide_eq_true (by rfl)
  · exact of_decide_eq_true (by rfl)
  · exact of_decide_eq_true (by rfl)
  · exact of_decide_eq_true (by rfl)
  · exact of_decide_eq_true (by rfl)
  · exact of_decide_eq_true (by rfl)
  · exact of_decide_eq_true (by rfl)
  · exact of_decide_eq_true (by rfl)
  · exact of_decide_eq_true (by rfl)
  · exact of_decide_eq_true (by rfl)
  · exact of_decide_eq_true (by rfl)
  · intro v hv
    have : v = 1 := List.eq_of_mem_replicate hv
    omega
  · exact of_decide_eq_true (by rfl)
  · exact of_decide_eq_true (by rfl)
  · exact of_decide_eq_true (by rfl)
  · exact of_decide_eq_true (by rfl)
  · show (0 : Int) ≤ (i : Int); omega
  · show (i : Int) ≤ 4398046511000; omega
def fn76 : Fn := { a := .unit, r := .pair .bool .unit, pre := fun _ => True, f := fun _ => (true, ()) }
theorem h76  : Holds Try.prog 76 (fn76) := by
  refine Holds.of_vcc (T := [(31, fn31), (78, fn78), (82, fn82)]) (TT := ttL) (rowAt := []) (c := c76) (ros := [.t 0]) (.cons _ h31 (.cons _ h78 (.cons _ h82 (.nil _)))) mixed Try.func76 (by decide +kernel) (by rfl) comp76 (by kernel_rfl) rfl rfl (fun h => by cases h) ?_
  rintro _ hpre
  simp only [fn76] at hpre ⊢
  simp only [c76, fn31, fn78, fn82, go_sem, reduceIte, Nat.reduceBEq, Nat.reduceMul, reduceCtorEq, Nat.reduceAdd, Nat.reduceEqDiff, decide_eq_true_eq, decide_eq_false_iff_not, Bool.not_eq_true', Bool.not_eq_false', Bool.and_eq_true, Bool.or_eq_true, Bool.and_eq_false_iff, Bool.or_eq_false_iff, Bool.cond_true_left, Bool.cond_false_right, Bool.cond_true_right, Bool.cond_false_left, Bool.or_false, Bool.and_true, inR]
  refine loop_rule (β := Nat) (fun i => ⟨[(1, .ptr 1 0), (2, .int .i64 i)], [(1, .box (cellsA tNode (tk i) []))]⟩) (fun i => i ≤ 10) (fun i => 10 - i) 0 ?_ ?_ ?_
  · refine Ent_of [(1, 1)] rfl ?_ ?_
    · simp only [go_sem, reduceIte, Nat.reduceBEq, Nat.reduceMul, reduceCtorEq, Nat.reduceAdd, Nat.reduceEqDiff, decide_eq_true_eq, decide_eq_false_iff_not, Bool.not_eq_true', Bool.not_eq_false', Bool.and_eq_true, Bool.or_eq_true, Bool.and_eq_false_iff, Bool.or_eq_false_iff, Bool.cond_true_left, Bool.cond_false_right, Bool.cond_true_right, Bool.cond_false_left, Bool.or_false, Bool.and_true]
      repeat (first | exact rfl | refine ⟨rfl, ?_⟩)
    · simp only [go_sem, reduceIte, Nat.reduceBEq, Nat.reduceMul, reduceCtorEq, Nat.reduceAdd, Nat.reduceEqDiff, decide_eq_true_eq, decide_eq_false_iff_not, Bool.not_eq_true', Bool.not_eq_false', Bool.and_eq_true, Bool.or_eq_true, Bool.and_eq_false_iff, Bool.or_eq_false_iff, Bool.cond_true_left, Bool.cond_false_right, Bool.cond_true_right, Bool.cond_false_left, Bool.or_false, Bool.and_true]
      rfl
  · exact Nat.zero_le _
  intro i hi
  simp only [go_sem, reduceIte, Nat.reduceBEq, Nat.reduceMul, reduceCtorEq, Nat.reduceAdd, Nat.reduceEqDiff, decide_eq_true_eq, decide_eq_false_iff_not, Bool.not_eq_true', Bool.not_eq_false', Bool.and_eq_true, Bool.or_eq_true, Bool.and_eq_false_iff, Bool.or_eq_false_iff, Bool.cond_true_left, Bool.cond_false_right, Bool.cond_true_right, Bool.cond_false_left, Bool.or_false, Bool.and_true, inR]
  generalize hV : vc _ (C.cut c76_20) _ = V
  refine ⟨fun h => ⟨tk_pre i (by omega), by omega, Again.intro (i + 1) (Ent_of [(1, 1)] rfl ?_ ?_) (show i + 1 ≤ 10 by omega) (show 10 - (i + 1) < 10 - i by omega)⟩, fun h => ?_⟩
  · simp only [go_sem, reduceIte, Nat.reduceBEq, Nat.reduceMul, reduceCtorEq, Nat.reduceAdd, Nat.reduceEqDiff, decide_eq_true_eq, decide_eq_false_iff_not, Bool.not_eq_true', Bool.not_eq_false', Bool.and_eq_true, Bool.or_eq_true, Bool.and_eq_false_iff, Bool.or_eq_false_iff, Bool.cond_true_left, Bool.cond_false_right, Bool.cond_true_right, Bool.cond_false_left, Bool.or_false, Bool.and_true]
    repeat (first | exact rfl | refine ⟨rfl, ?_⟩)
  · simp only [go_sem, reduceIte, Nat.reduceBEq, Nat.reduceMul, reduceCtorEq, Nat.reduceAdd, Nat.reduceEqDiff, decide_eq_true_eq, decide_eq_false_iff_not, Bool.not_eq_true', Bool.not_eq_false', Bool.and_eq_true, Bool.or_eq_true, Bool.and_eq_false_iff, Bool.or_eq_false_iff, Bool.cond_true_left, Bool.cond_false_right, Bool.cond_true_right, Bool.cond_false_left, Bool.or_false, Bool.and_true]
    omega
  have hi10 : i = 10 := by omega
  subst hi10
  have p1 : rgL (tk 10) := by
    refine ⟨⟨?_, ?_, ?_, ?_, ?_, ?_, ?_, ?_, ?_⟩, ?_, ?_⟩
    all_goals exact of_decide_eq_true (by rfl)
  have p2 : nextsOk (tk 10) := by
    have e : nNext (tk 10) = [1] := by rfl
    unfold nextsOk
    rw [e]
    intro v hv
    rw [List.mem_singleton.1 hv]
    decide
  have p3 : (tk 10).2.2.2.2.2.2.2.2.1 = 2 := by rfl
  have p4 : prop3 (tk 10) = 0 := by rfl
  have p5 : (prop1 (tk 10) ⟨#[120]⟩).2.2.2.2.2.2.2.2.2.2.1 = 2 := by rfl
  have p6 : prop3 (newN 0 3) = 13 := by rfl
  have p7 : rgL (newN 0 3) ∧ nextsOk (newN 0 3) := by
    refine ⟨⟨⟨?_, ?_, ?_, ?_, ?_, ?_, ?_, ?_, ?_⟩, ?_, ?_⟩, ?_⟩
    · exact of_decide_eq_true (by rfl)
    · exact of_decide_eq_true (by rfl)
    · exact of_decide_eq_true (by rfl)
    · exact of_decide_eq_true (by rfl)
    · exact of_decide_eq_true (by rfl)
    · exact of_decide_eq_true (by rfl)
    · exact of_decide_eq_true (by rfl)
    · exact of_decide_eq_true (by rfl)
    · exact of_decide_eq_true (by rfl)
    · exact of_decide_eq_true (by rfl)
    · exact of_decide_eq_true (by rfl)
    · intro v hv
      have : v = 1 := List.eq_of_mem_replicate hv
      omega
  generalize tk 10 = t at *
  refine cut_at hV ⟨[(1, .ptr 1 0)], [(1, .box (cellsA tNode t []))]⟩ ?_ (Ent_of [(1, 1)] rfl ?_ ?_)
  rotate_left
  · simp only [go_sem, reduceIte, Nat.reduceBEq, Nat.reduceMul, reduceCtorEq, Nat.reduceAdd, Nat.reduceEqDiff, decide_eq_true_eq, decide_eq_false_iff_not, Bool.not_eq_true', Bool.not_eq_false', Bool.and_eq_true, Bool.or_eq_true, Bool.and_eq_false_iff, Bool.or_eq_false_iff, Bool.cond_true_left, Bool.cond_false_right, Bool.cond_true_right, Bool.cond_false_left, Bool.or_false, Bool.and_true]
  · simp only [go_sem, reduceIte, Nat.reduceBEq, Nat.reduceMul, reduceCtorEq, Nat.reduceAdd, Nat.reduceEqDiff, decide_eq_true_eq, decide_eq_false_iff_not, Bool.not_eq_true', Bool.not_eq_false', Bool.and_eq_true, Bool.or_eq_true, Bool.and_eq_false_iff, Bool.or_eq_false_iff, Bool.cond_true_left, Bool.cond_false_right, Bool.cond_true_right, Bool.cond_false_left, Bool.or_false, Bool.and_true]
  clear hV V
  simp (maxSteps := 10000000) only [c76_20, go_sem, reduceIte, Nat.reduceBEq, Nat.reduceMul, reduceCtorEq, Nat.reduceAdd, Nat.reduceEqDiff, decide_eq_true_eq, decide_eq_false_iff_not, Bool.not_eq_true', Bool.not_eq_false', Bool.and_eq_true, Bool.or_eq_true, Bool.and_eq_false_iff, Bool.or_eq_false_iff, Bool.cond_true_left, Bool.cond_false_right, Bool.cond_true_right, Bool.cond_false_left, Bool.or_false, Bool.and_true, inR, p4]
  generalize hV : vc _ (C.cut c76_26) _ = V
  refine ⟨⟨p1, p2⟩, ?_⟩
  generalize prop1 t ⟨#[120]⟩ = q at *
  refine cut_at hV ⟨[(1, .ptr 1 0), (3, .ptr 3 0), (5, .int .i64 0)], [(1, .box (cellsA tNode t [])), (3, .box (cellsA tNode q []))]⟩ ?_ (Ent_of [(1, 1), (3, 3)] rfl ?_ ?_)
  rotate_left
  · simp only [go_sem, reduceIte, Nat.reduceBEq, Nat.reduceMul, reduceCtorEq, Nat.reduceAdd, Nat.reduceEqDiff, decide_eq_true_eq, decide_eq_false_iff_not, Bool.not_eq_true', Bool.not_eq_false', Bool.and_eq_true, Bool.or_eq_true, Bool.and_eq_false_iff, Bool.or_eq_false_iff, Bool.cond_true_left, Bool.cond_false_right, Bool.cond_true_right, Bool.cond_false_left, Bool.or_false, Bool.and_true]
  · simp only [go_sem, reduceIte, Nat.reduceBEq, Nat.reduceMul, reduceCtorEq, Nat.reduceAdd, Nat.reduceEqDiff, decide_eq_true_eq, decide_eq_false_iff_not, Bool.not_eq_true', Bool.not_eq_false', Bool.and_eq_true, Bool.or_eq_true, Bool.and_eq_false_iff, Bool.or_eq_false_iff, Bool.cond_true_left, Bool.cond_false_right, Bool.cond_true_right, Bool.cond_false_left, Bool.or_false, Bool.and_true]
  clear hV V
  simp (maxSteps := 10000000) only [c76_26, go_sem, reduceIte, Nat.reduceBEq, Nat.reduceMul, reduceCtorEq, Nat.reduceAdd, Nat.reduceEqDiff, decide_eq_true_eq, decide_eq_false_iff_not, Bool.not_eq_true', Bool.not_eq_false', Bool.and_eq_true, Bool.or_eq_true, Bool.and_eq_false_iff, Bool.or_eq_false_iff, Bool.cond_true_left, Bool.cond_false_right, Bool.cond_true_right, Bool.cond_false_left, Bool.or_false, Bool.and_true, inR, p6]
  generalize hV : vc _ (C.cut c76_31) _ = V
  refine ⟨p7, ?_⟩
  refine cut_at hV ⟨[(1, .ptr 1 0), (3, .ptr 3 0), (5, .int .i64 0), (8, .int .i64 13)], [(1, .box (cellsA tNode t [])), (3, .box (cellsA tNode q []))]⟩ ?_ (Ent_of [(1, 1), (3, 3)] rfl ?_ ?_)
  rotate_left
  · simp only [go_sem, reduceIte, Nat.reduceBEq, Nat.reduceMul, reduceCtorEq, Nat.reduceAdd, Nat.reduceEqDiff, decide_eq_true_eq, decide_eq_false_iff_not, Bool.not_eq_true', Bool.not_eq_false', Bool.and_eq_true, Bool.or_eq_true, Bool.and_eq_false_iff, Bool.or_eq_false_iff, Bool.cond_true_left, Bool.cond_false_right, Bool.cond_true_right, Bool.cond_false_left, Bool.or_false, Bool.and_true]
  · simp only [go_sem, reduceIte, Nat.reduceBEq, Nat.reduceMul, reduceCtorEq, Nat.reduceAdd, Nat.reduceEqDiff, decide_eq_true_eq, decide_eq_false_iff_not, Bool.not_eq_true', Bool.not_eq_false', Bool.and_eq_true, Bool.or_eq_true, Bool.and_eq_false_iff, Bool.or_eq_false_iff, Bool.cond_true_left, Bool.cond_false_right, Bool.cond_true_right, Bool.cond_false_left, Bool.or_false, Bool.and_true]
  clear hV V
  have d1 : decide (t.2.2.2.2.2.2.2.2.1 = 2) = true := decide_eq_true p3
  have d2 : decide (q.2.2.2.2.2.2.2.2.2.2.1 = 2) = true := decide_eq_true p5
  simp (maxSteps := 10000000) only [c76_31, go_sem, reduceIte, Nat.reduceBEq, Nat.reduceMul, reduceCtorEq, Nat.reduceAdd, Nat.reduceEqDiff, decide_eq_true_eq, decide_eq_false_iff_not, Bool.not_eq_true', Bool.not_eq_false', Bool.and_eq_true, Bool.or_eq_true, Bool.and_eq_false_iff, Bool.or_eq_false_iff, Bool.cond_true_left, Bool.cond_false_right, Bool.cond_true_right, Bool.cond_false_left, Bool.or_false, Bool.and_true, inR, d1, d2, decide_true, eq_self]
end Go.AM
