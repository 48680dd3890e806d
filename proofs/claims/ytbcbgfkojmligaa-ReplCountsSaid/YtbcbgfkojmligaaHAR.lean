import Derived.Test.YtbcbgfkojmligaaHP
import Derived.Test.YtbcbgfkojmligaaAL
/- What functions of the program answer, each under the conditions that its contract names. -/
set_option linter.unusedVariables false
set_option linter.unusedSimpArgs false
set_option maxRecDepth 100000
set_option maxHeartbeats 40000000
set_option linter.unusedSimpArgs false
namespace Go.AM
open Go.Proofs
attribute [local congr] vc_congr evOps_congr evTab_congr bind_congr condK_congr tabK_congr
/-- A node whose log may be appended to, whose Match is its own. -/
@[reducible] def tNodeM : Ty := .pair tI (.pair tI (.pair tI (.pair tI (.pair tI (.pair tI (.pair .str (.pair (.flist tEntry) (.pair tI (.pair tI (.pair tI (.pair (.list .bool) (.pair (.list tI) (.pair (.olist tI) (.pair tI .unit))))))))))))))
theorem d02 : ((0 : Nat) < 2) = True := by simp
theorem d01 : ((0 : Nat) < 1) = True := by simp
def fn31M : Fn := { a := .pair tI (.pair tI .unit), r := .pair tNodeM .unit, pre := fun _ => True, f := fun x => (newN x.1 x.2.1, ()), kd := some [.no, .no] }
theorem h31M  : HoldsX Try.prog 31 (fn31M) := by
  refine HoldsM.x (ms := [.no, .no]) (HoldsM.of_vc (T := []) (TT := ttL) (rowAt := []) (c := c31) (ros := [.c 4 15]) (.nil _) mixed Try.func31 (by decide +kernel) (by rfl) comp31 (by kernel_rfl) rfl rfl rfl ?_) rfl
  rintro ⟨(id : Int), (nodes : Int), _⟩ hpre b
  simp only [fn31M] at hpre ⊢
  simp only [c31, go_sem, reduceIte, Nat.reduceBEq, Nat.reduceMul, reduceCtorEq, Nat.reduceAdd, Nat.reduceEqDiff, decide_eq_true_eq, decide_eq_false_iff_not, Bool.not_eq_true', Bool.not_eq_false', Bool.and_eq_true, Bool.or_eq_true, Bool.and_eq_false_iff, Bool.or_eq_false_iff, Bool.cond_true_left, Bool.cond_false_right, Bool.cond_true_right, Bool.cond_false_left, Bool.or_false, Bool.and_true, inR]
  simp only [newN]
  have hk1 : 1 ≤ min (max nodes 1) 5 := by omega
  have hk5 : min (max nodes 1) 5 ≤ 5 := by omega
  generalize hkk : min (max nodes 1) 5 = k at *
  refine ⟨by omega, by omega, by omega, by omega, by rfl, ?_⟩
  refine loop_rule (β := Nat) (fun i => ⟨[(4, .ptr 4 0), (5, .int .i64 k), (6, .ptr 6 0), (7, .int .i64 i)], [(4, .box [.int .i64 0, .int .i64 0, .int .i64 0, .int .i64 0, .int .i64 0, .int .i64 0, .str ⟨#[]⟩, .sl tEntry [] true, .int .i64 0, .int .i64 0, .int .i64 0, .sl .bool [] true, .sl tI [] true, .sl tI [] true, .int .i64 0]),
    (6, .box [.int .i64 (min (max id 0) (k - 1)), .int .i64 k, .int .i64 0, .int .i64 (-1), .int .i64 0, .int .i64 0, .str ⟨#[]⟩, .sl tEntry [] true, .int .i64 0, .int .i64 (-1), .int .i64 0, .own 18 0 k.toNat, .own 20 0 k.toNat, .own 22 0 k.toNat, .int .i64 0]),
    (18, .row .bool (List.replicate k.toNat false) false), (20, .row tI (List.replicate i (1 : Int) ++ List.replicate (k.toNat - i) (0 : Int)) false), (22, .row tI (List.replicate k.toNat (0 : Int)) false)]⟩)
    (fun i => i ≤ k.toNat) (fun i => k.toNat - i) 0 ?_ ?_ ?_
  · refine Ent_of [(4, 4), (6, 6), (18, 18), (20, 20), (22, 22)] rfl ?_ ?_
    · simp only [go_sem, reduceIte, Nat.reduceBEq, Nat.reduceMul, reduceCtorEq, Nat.reduceAdd, Nat.reduceEqDiff, decide_eq_true_eq, decide_eq_false_iff_not, Bool.not_eq_true', Bool.not_eq_false', Bool.and_eq_true, Bool.or_eq_true, Bool.and_eq_false_iff, Bool.or_eq_false_iff, Bool.cond_true_left, Bool.cond_false_right, Bool.cond_true_right, Bool.cond_false_left, Bool.or_false, Bool.and_true]
      exact ⟨rfl, rfl, rfl⟩
    · simp only [go_sem, reduceIte, Nat.reduceBEq, Nat.reduceMul, reduceCtorEq, Nat.reduceAdd, Nat.reduceEqDiff, decide_eq_true_eq, decide_eq_false_iff_not, Bool.not_eq_true', Bool.not_eq_false', Bool.and_eq_true, Bool.or_eq_true, Bool.and_eq_false_iff, Bool.or_eq_false_iff, Bool.cond_true_left, Bool.cond_false_right, Bool.cond_true_right, Bool.cond_false_left, Bool.or_false, Bool.and_true]
      trivial
  · exact Nat.zero_le _
  · intro i hi
    simp only [go_sem, reduceIte, Nat.reduceBEq, Nat.reduceMul, reduceCtorEq, Nat.reduceAdd, Nat.reduceEqDiff, decide_eq_true_eq, decide_eq_false_iff_not, Bool.not_eq_true', Bool.not_eq_false', Bool.and_eq_true, Bool.or_eq_true, Bool.and_eq_false_iff, Bool.or_eq_false_iff, Bool.cond_true_left, Bool.cond_false_right, Bool.cond_true_right, Bool.cond_false_left, Bool.or_false, Bool.and_true, inR, d02, d01]
    refine ⟨fun h => ⟨by omega, by omega, Again.intro (i + 1) (Ent_of [(4, 4), (6, 6), (18, 18), (20, 20), (22, 22)] rfl ?_ ?_) ?_ ?_⟩, fun h => ?_⟩
    · simp only [go_sem, reduceIte, Nat.reduceBEq, Nat.reduceMul, reduceCtorEq, Nat.reduceAdd, Nat.reduceEqDiff, decide_eq_true_eq, decide_eq_false_iff_not, Bool.not_eq_true', Bool.not_eq_false', Bool.and_eq_true, Bool.or_eq_true, Bool.and_eq_false_iff, Bool.or_eq_false_iff, Bool.cond_true_left, Bool.cond_false_right, Bool.cond_true_right, Bool.cond_false_left, Bool.or_false, Bool.and_true]
      exact (ones_set i k.toNat (by omega)).symm
    · simp only [go_sem, reduceIte, Nat.reduceBEq, Nat.reduceMul, reduceCtorEq, Nat.reduceAdd, Nat.reduceEqDiff, decide_eq_true_eq, decide_eq_false_iff_not, Bool.not_eq_true', Bool.not_eq_false', Bool.and_eq_true, Bool.or_eq_true, Bool.and_eq_false_iff, Bool.or_eq_false_iff, Bool.cond_true_left, Bool.cond_false_right, Bool.cond_true_right, Bool.cond_false_left, Bool.or_false, Bool.and_true]
      omega
    · show i + 1 ≤ k.toNat; omega
    · show k.toNat - (i + 1) < k.toNat - i; omega
    · rw [show i = k.toNat by omega, Nat.sub_self, List.replicate_zero, List.append_nil, List.take_replicate, Nat.min_self, hkk]
      rfl
end Go.AM
