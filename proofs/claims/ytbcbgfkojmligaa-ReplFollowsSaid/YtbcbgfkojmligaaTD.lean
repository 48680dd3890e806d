import Derived.Test.YtbcbgfkojmligaaAA
import Derived.KernelRfl
import Derived.Test.YtbcbgfkojmligaaProg
/- Functions of the program as code of the abstract machine, each with the proof that it is that code; no condition. -/
set_option maxRecDepth 100000
namespace Go.AM
def c97 : C := (.seq (.reg [⟨(some 6), .mv, [.c (.bool false)], none⟩])
 (.seq (.reg [⟨(some 7), .mv, [.t 0], none⟩,
  ⟨(some 8), .mv, [.t 1], none⟩,
  ⟨(some 9), (.bin .geq), [.t 7, .t 8], none⟩,
  ⟨(some 10), .mv, [.t 9], none⟩,
  ⟨(some 11), .mv, [.t 0], (some (10, true))⟩,
  ⟨(some 12), .mv, [.t 2], (some (10, true))⟩,
  ⟨(some 13), (.bin .leq), [.t 11, .t 12], (some (10, true))⟩,
  ⟨(some 14), .pick, [.t 10, .t 13, .c (.bool false)], none⟩,
  ⟨(some 6), .mv, [.t 14], none⟩])
 .ret))
theorem comp97 : compC Go.Proofs.Try.prog ttL 15 [] (match Go.Proofs.Try.f97.body with | some b => b | none => .skip) = some (c97) := by kernel_rfl
def c98 : C := (.seq (.reg [⟨(some 4), .box, [.t 1], none⟩,
  ⟨(some 5), .box, [.t 2], none⟩,
  ⟨(some 6), .mv, [.c (.bool false)], none⟩])
 (.seq (.reg [⟨(some 7), .mv, [.t 0], none⟩,
  ⟨(some 8), (.clo 125), [.t 4, .t 5], none⟩,
  ⟨(some 9), (.call 124), [.t 7, .t 8], none⟩,
  ⟨(some 10), .not, [.t 9], none⟩,
  ⟨(some 6), .mv, [.t 10], none⟩])
 .ret))
theorem comp98 : compC Go.Proofs.Try.prog ttL 11 [] (match Go.Proofs.Try.f98.body with | some b => b | none => .skip) = some (c98) := by kernel_rfl
def c99 : C := (.seq (.reg [⟨(some 2), .box, [.t 0], none⟩,
  ⟨(some 3), .mv, [.c (.bool false)], none⟩])
 (.seq (.reg [⟨(some 4), (.fld 0), [.t 2], none⟩,
  ⟨(some 5), (.load 1 false), [.t 4], none⟩,
  ⟨(some 6), (.fld 2), [.t 1], none⟩,
  ⟨(some 7), (.load 1 false), [.t 6], none⟩,
  ⟨(some 8), (.call 97), [.t 5, .c (.int .i64 0), .t 7], none⟩,
  ⟨(some 9), .not, [.t 8], none⟩,
  ⟨(some 3), .mv, [.t 9], none⟩])
 .ret))
theorem comp99 : compC Go.Proofs.Try.prog ttL 10 [] (match Go.Proofs.Try.f99.body with | some b => b | none => .skip) = some (c99) := by kernel_rfl
def c100 : C := (.seq (.reg [⟨(some 4), .mv, [.c (.bool false)], none⟩])
 (.seq (.reg [⟨(some 5), .mv, [.t 0], none⟩,
  ⟨(some 6), .mv, [.t 1], none⟩,
  ⟨(some 7), (.call 126), [.t 5, .t 6], none⟩,
  ⟨(some 8), (.bin .geq), [.t 7, .c (.int .i64 0)], none⟩,
  ⟨(some 4), .mv, [.t 8], none⟩])
 .ret))
theorem comp100 : compC Go.Proofs.Try.prog ttL 9 [] (match Go.Proofs.Try.f100.body with | some b => b | none => .skip) = some (c100) := by kernel_rfl
def c124 : C := (.seq (.reg [⟨(some 4), .mv, [.c (.bool false)], none⟩])
 (.seq (.reg [⟨(some 5), .mv, [.t 0], none⟩,
  ⟨(some 6), .mv, [.t 1], none⟩,
  ⟨(some 7), (.call 128), [.t 5, .t 6], none⟩,
  ⟨(some 8), (.bin .geq), [.t 7, .c (.int .i64 0)], none⟩,
  ⟨(some 4), .mv, [.t 8], none⟩])
 .ret))
theorem comp124 : compC Go.Proofs.Try.prog ttL 9 [] (match Go.Proofs.Try.f124.body with | some b => b | none => .skip) = some (c124) := by kernel_rfl
def c125 : C := (.seq (.reg [⟨(some 4), .mv, [.c (.bool false)], none⟩])
 (.seq (.reg [⟨(some 5), .mv, [.t 0], none⟩,
  ⟨(some 6), (.load 1 false), [.t 1], none⟩,
  ⟨(some 7), (.load 1 false), [.t 2], none⟩,
  ⟨(some 8), (.call 97), [.t 5, .t 6, .t 7], none⟩,
  ⟨(some 9), .not, [.t 8], none⟩,
  ⟨(some 4), .mv, [.t 9], none⟩])
 .ret))
theorem comp125 : compC Go.Proofs.Try.prog ttL 10 [] (match Go.Proofs.Try.f125.body with | some b => b | none => .skip) = some (c125) := by kernel_rfl
def c126 : C := (.seq (.reg [⟨(some 4), .mv, [.c (.int .i64 0)], none⟩])
 (.seq (.seq (.reg [⟨(some 6), .mv, [.t 0], none⟩,
  ⟨(some 7), .len, [.t 6], none⟩,
  ⟨(some 8), .mv, [.c (.int .i64 0)], none⟩])
 (.block 0 (.loop (.seq (.reg [⟨(some 9), (.bin .lss), [.t 8, .t 7], none⟩])
 (.seq (.cond (.t 9) .skip (.exit 0))
 (.seq (.block 1 (.seq (.reg [⟨(some 10), .mv, [.t 8], none⟩,
  ⟨(some 5), .mv, [.t 10], none⟩])
 (.seq (.reg [⟨(some 11), .mv, [.t 1], none⟩,
  ⟨(some 12), .mv, [.t 0], none⟩,
  ⟨(some 13), .mv, [.t 5], none⟩,
  ⟨(some 14), (.idx 2), [.t 12, .t 13], none⟩,
  ⟨(some 15), (.load 2 true), [.t 14], none⟩,
  ⟨(some 16), .callv, [.t 11, .t 15], none⟩])
 (.cond (.t 16) (.seq (.reg [⟨(some 17), .mv, [.t 5], none⟩,
  ⟨(some 4), .mv, [.t 17], none⟩])
 .ret) .skip))))
 (.reg [⟨(some 18), (.bin .add), [.t 8, .c (.int .i64 1)], none⟩,
  ⟨(some 8), .mv, [.t 18], none⟩])))))))
 (.seq (.reg [⟨(some 4), .mv, [.c (.int .i64 (-1))], none⟩])
 .ret)))
theorem comp126 : compC Go.Proofs.Try.prog ttL 19 [] (match Go.Proofs.Try.f126.body with | some b => b | none => .skip) = some (c126) := by kernel_rfl
def c128 : C := (.seq (.reg [⟨(some 4), .mv, [.c (.int .i64 0)], none⟩])
 (.seq (.seq (.reg [⟨(some 6), .mv, [.t 0], none⟩,
  ⟨(some 7), .len, [.t 6], none⟩,
  ⟨(some 8), .mv, [.c (.int .i64 0)], none⟩])
 (.block 0 (.loop (.seq (.reg [⟨(some 9), (.bin .lss), [.t 8, .t 7], none⟩])
 (.seq (.cond (.t 9) .skip (.exit 0))
 (.seq (.block 1 (.seq (.reg [⟨(some 10), .mv, [.t 8], none⟩,
  ⟨(some 5), .mv, [.t 10], none⟩])
 (.seq (.reg [⟨(some 11), .mv, [.t 1], none⟩,
  ⟨(some 12), .mv, [.t 0], none⟩,
  ⟨(some 13), .mv, [.t 5], none⟩,
  ⟨(some 14), (.idx 1), [.t 12, .t 13], none⟩,
  ⟨(some 15), (.load 1 false), [.t 14], none⟩,
  ⟨(some 16), .callv, [.t 11, .t 15], none⟩])
 (.cond (.t 16) (.seq (.reg [⟨(some 17), .mv, [.t 5], none⟩,
  ⟨(some 4), .mv, [.t 17], none⟩])
 .ret) .skip))))
 (.reg [⟨(some 18), (.bin .add), [.t 8, .c (.int .i64 1)], none⟩,
  ⟨(some 8), .mv, [.t 18], none⟩])))))))
 (.seq (.reg [⟨(some 4), .mv, [.c (.int .i64 (-1))], none⟩])
 .ret)))
theorem comp128 : compC Go.Proofs.Try.prog ttL 19 [] (match Go.Proofs.Try.f128.body with | some b => b | none => .skip) = some (c128) := by kernel_rfl
end Go.AM
