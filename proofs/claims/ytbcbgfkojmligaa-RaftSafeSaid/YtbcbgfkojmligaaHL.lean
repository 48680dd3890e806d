import Derived.Test.YtbcbgfkojmligaaHK
import Derived.KernelRfl
import Derived.Test.YtbcbgfkojmligaaProg
/- What functions of the program answer, each under the conditions that its contract names. -/
set_option linter.unusedVariables false
set_option linter.unusedSimpArgs false
set_option maxRecDepth 100000
namespace Go.AM
def c63 : C := (.seq (.reg [⟨(some 5), .box, [.t 2], none⟩,
  ⟨(some 6), (.alloc [.int .i64 0, .int .i64 0, .int .i64 0, .int .i64 0, .int .i64 0, .int .i64 0, .str ⟨#[]⟩, .sl tEntry [] true, .int .i64 0, .int .i64 0, .int .i64 0, .sl .bool [] true, .sl tI [] true, .sl tI [] true, .int .i64 0]), [], none⟩])
 (.seq (.reg [⟨(some 8), .mv, [.t 0], none⟩,
  ⟨(some 9), .mv, [.t 1], none⟩,
  ⟨(some 10), (.call 31), [.t 8, .t 9], none⟩,
  ⟨(some 7), (.alloc [.int .i64 0, .int .i64 0, .int .i64 0, .int .i64 0, .int .i64 0, .int .i64 0, .str ⟨#[]⟩, .sl tEntry [] true, .int .i64 0, .int .i64 0, .int .i64 0, .sl .bool [] true, .sl tI [] true, .sl tI [] true, .int .i64 0]), [], none⟩,
  ⟨none, (.store 15), [.t 7, .t 10], none⟩])
 (.seq (.regd [⟨(some 11), (.fld 0), [.t 5], none⟩,
  ⟨(some 12), (.load 1 false), [.t 11], none⟩,
  ⟨(some 13), (.fld 1), [.t 5], none⟩,
  ⟨(some 14), (.load 1 false), [.t 13], none⟩,
  ⟨(some 15), (.fld 2), [.t 5], none⟩,
  ⟨(some 16), (.load 1 false), [.t 15], none⟩,
  ⟨(some 17), (.fld 3), [.t 5], none⟩,
  ⟨(some 18), (.load 1 false), [.t 17], none⟩,
  ⟨(some 19), (.fld 4), [.t 5], none⟩,
  ⟨(some 20), (.load 1 false), [.t 19], none⟩,
  ⟨(some 21), (.fld 2), [.t 5], none⟩,
  ⟨(some 22), (.load 1 false), [.t 21], none⟩,
  ⟨(some 23), (.fld 2), [.t 7], none⟩,
  ⟨none, (.store 1), [.t 23, .t 12], none⟩,
  ⟨(some 24), (.fld 3), [.t 7], none⟩,
  ⟨none, (.store 1), [.t 24, .t 14], none⟩,
  ⟨(some 25), (.fld 4), [.t 7], none⟩,
  ⟨none, (.store 1), [.t 25, .t 16], none⟩,
  ⟨(some 26), (.fld 5), [.t 7], none⟩,
  ⟨none, (.store 1), [.t 26, .t 18], none⟩,
  ⟨(some 27), (.fld 6), [.t 7], none⟩,
  ⟨none, (.store 1), [.t 27, .t 20], none⟩,
  ⟨(some 28), (.fld 10), [.t 7], none⟩,
  ⟨none, (.store 1), [.t 28, .t 22], none⟩] [0, 1, 0, 4, 0, 16, 0, 64, 0, 256, 0, 1024, 3, 4099, 12303, 28687, 61503, 127039, 258303, 520447, 1045503, 2094079, 4194303, 8388607])
 (.seq (.reg [⟨(some 29), (.fld 5), [.t 5], none⟩,
  ⟨(some 30), (.load 1 false), [.t 29], none⟩,
  ⟨(some 31), (.app 2 24), [.c (.sl tEntry [] true), .t 30], none⟩,
  ⟨(some 32), (.fld 7), [.t 7], none⟩,
  ⟨none, (.store 1), [.t 32, .t 31], none⟩])
 (.seq (.reg [⟨(some 33), (.load 15 true), [.t 7], none⟩,
  ⟨none, (.store 15), [.t 6, .t 33], none⟩])
 .ret)))))
theorem comp63 : compC Go.Proofs.Try.prog ttL 34 [] (match Go.Proofs.Try.f63.body with | some b => b | none => .skip) = some (c63) := by kernel_rfl
end Go.AM
set_option maxRecDepth 100000
set_option maxHeartbeats 8000000
set_option linter.unusedSimpArgs false
namespace Go.AM
open Go.Proofs
attribute [local congr] vc_congr evOps_congr evTab_congr bind_congr condK_congr tabK_congr
def fn63 : Fn := { a := .pair tI (.pair tI (.pair tHard .unit)), r := .pair tNode .unit, pre := fun x => smallL (hLog x.2.2.1), f := fun x => (wakeN x.1 x.2.1 x.2.2.1, ()) }
theorem h63  : Holds Try.prog 63 (fn63) := by
  refine Holds.of_vc (T := [(31, fn31)]) (TT := ttL) (rowAt := []) (c := c63) (ros := [.c 6 15]) (.cons _ h31 (.nil _)) mixed Try.func63 (by decide +kernel) (by rfl) comp63 (by kernel_rfl) rfl rfl (fun h => by cases h) ?_
  rintro ⟨(id : Int), (nodes : Int), (h : Hrd), _⟩ hpre
  simp only [fn63] at hpre ⊢
  simp only [c63, fn31, go_sem, reduceIte, Nat.reduceBEq, Nat.reduceMul, reduceCtorEq, Nat.reduceAdd, Nat.reduceEqDiff, decide_eq_true_eq, decide_eq_false_iff_not, Bool.not_eq_true', Bool.not_eq_false', Bool.and_eq_true, Bool.or_eq_true, Bool.and_eq_false_iff, Bool.or_eq_false_iff, Bool.cond_true_left, Bool.cond_false_right, Bool.cond_true_right, Bool.cond_false_left, Bool.or_false, Bool.and_true, inR]
  simp only [sm] at hpre
  have hp : h.2.2.2.2.2.1.length ≤ 1048576 := hpre
  exact ⟨by rfl, ⟨by omega, by omega⟩, rfl⟩
end Go.AM
