import Derived.Test.YtbcbgfkojmligaaHH
import Derived.Test.YtbcbgfkojmligaaTI
/- What functions of the program answer, each under the conditions that its contract names. -/
set_option linter.unusedVariables false
set_option linter.unusedSimpArgs false
set_option maxRecDepth 100000
set_option maxHeartbeats 8000000
set_option linter.unusedSimpArgs false
namespace Go.AM
open Go.Proofs
attribute [local congr] vc_congr evOps_congr evTab_congr bind_congr condK_congr tabK_congr
def eq10 (a1 a2 a3 a4 a5 a6 a7 a8 a9 a10 b1 b2 b3 b4 b5 b6 b7 b8 b9 b10 : Int) : Bool := decide (a1 = b1) && (decide (a2 = b2) && (decide (a3 = b3) && (decide (a4 = b4) && (decide (a5 = b5) && (decide (a6 = b6) && (decide (a7 = b7) && (decide (a8 = b8) && (decide (a9 = b9) && (decide (a10 = b10))))))))))
theorem agg10 {a1 a2 a3 a4 a5 a6 a7 a8 a9 a10 b1 b2 b3 b4 b5 b6 b7 b8 b9 b10 : Int} : aggEq [.i, .i, .i, .i, .i, .i, .i, .i, .i, .i] [.int .i64 a1, .int .i64 a2, .int .i64 a3, .int .i64 a4, .int .i64 a5, .int .i64 a6, .int .i64 a7, .int .i64 a8, .int .i64 a9, .int .i64 a10] [.int .i64 b1, .int .i64 b2, .int .i64 b3, .int .i64 b4, .int .i64 b5, .int .i64 b6, .int .i64 b7, .int .i64 b8, .int .i64 b9, .int .i64 b10] = some (eq10 a1 a2 a3 a4 a5 a6 a7 a8 a9 a10 b1 b2 b3 b4 b5 b6 b7 b8 b9 b10) := by
  simp only [aggEq, eq10, if_true, Bool.and_true]
theorem eq10_iff {a1 a2 a3 a4 a5 a6 a7 a8 a9 a10 b1 b2 b3 b4 b5 b6 b7 b8 b9 b10 : Int} : eq10 a1 a2 a3 a4 a5 a6 a7 a8 a9 a10 b1 b2 b3 b4 b5 b6 b7 b8 b9 b10 = true ↔ (a1 = b1 ∧ a2 = b2 ∧ a3 = b3 ∧ a4 = b4 ∧ a5 = b5 ∧ a6 = b6 ∧ a7 = b7 ∧ a8 = b8 ∧ a9 = b9 ∧ a10 = b10) := by
  simp only [eq10, Bool.and_eq_true, decide_eq_true_eq]
noncomputable def fn49 : Fn := { a := .pair tNode (.pair tNode .unit), r := .pair .bool .unit, pre := fun x => smallL (nLog x.1) ∧ smallL (nVotes x.1) ∧ smallL (nNext x.1) ∧ smallL (nMatch x.1), f := fun x => (eqB x.1 x.2.1, ()) }
theorem h49  : Holds Try.prog 49 (fn49) := by
  refine Holds.of_vc (T := [(102, fn102), (103, fn103), (104, fn104)]) (TT := ttL) (rowAt := []) (c := c49) (ros := [.t 4]) (.cons _ h102 (.cons _ h103 (.cons _ h104 (.nil _)))) mixed Try.func49 (by decide +kernel) (by rfl) comp49 (by kernel_rfl) rfl rfl (fun h => by cases h) ?_
  rintro ⟨⟨(a1 : Int), (a2 : Int), (a3 : Int), (a4 : Int), (a5 : Int), (a6 : Int), (a7 : ByteArray), (a8 : List E), (a9 : Int), (a10 : Int), (a11 : Int), (a12 : List Bool), (a13 : List Int), (a14 : List Int), (a15 : Int), _⟩, ⟨(b1 : Int), (b2 : Int), (b3 : Int), (b4 : Int), (b5 : Int), (b6 : Int), (b7 : ByteArray), (b8 : List E), (b9 : Int), (b10 : Int), (b11 : Int), (b12 : List Bool), (b13 : List Int), (b14 : List Int), (b15 : Int), _⟩, _⟩ hpre
  simp only [fn49] at hpre ⊢
  have hp : smallL a8 ∧ smallL a12 ∧ smallL a13 ∧ smallL a14 := hpre
  simp (maxSteps := 10000000) only [c49, fn102, fn103, fn104, go_sem, reduceIte, Nat.reduceBEq, Nat.reduceMul, reduceCtorEq, Nat.reduceAdd, Nat.reduceEqDiff, decide_eq_true_eq, decide_eq_false_iff_not, Bool.not_eq_true', Bool.not_eq_false', Bool.and_eq_true, Bool.or_eq_true, Bool.and_eq_false_iff, Bool.or_eq_false_iff, Bool.cond_true_left, Bool.cond_false_right, Bool.cond_true_right, Bool.cond_false_left, Bool.or_false, Bool.and_true, inR, str_eq, ↓agg10]
  refine ⟨fun _ => hp.1, fun _ => hp.2.1, fun _ => hp.2.2.1, fun _ => hp.2.2.2, eqB_of ?_⟩
  simp only [Bool.and_eq_true, decide_eq_true_eq, eqB_iff, eq10_iff]
  constructor
  · rintro ⟨⟨⟨⟨⟨⟨e1, e2, e3, e4, e5, e6, e9, e10, e11, e15⟩, e7⟩, e8⟩, e12⟩, e13⟩, e14⟩
    cases e1; cases e2; cases e3; cases e4; cases e5; cases e6; cases e7; cases e8; cases e9; cases e10; cases e11; cases e12; cases e13; cases e14; cases e15
    rfl
  · intro h
    cases h
    exact ⟨⟨⟨⟨⟨⟨rfl, rfl, rfl, rfl, rfl, rfl, rfl, rfl, rfl, rfl⟩, rfl⟩, rfl⟩, rfl⟩, rfl⟩, rfl⟩
end Go.AM
