import Derived.Test.YtbcbgfkojmligaaAA
import Derived.KernelRfl
import Derived.Test.YtbcbgfkojmligaaProg
/- Functions of the program as code of the abstract machine, each with the proof that it is that code; no condition. -/
set_option maxRecDepth 100000
namespace Go.AM
def c85_5 : C := (.seq (.seq (.reg [⟨(some 5), .mv, [.c (.int .i64 0)], none⟩])
 (.block 0 (.loop (.seq (.seq (.reg [⟨(some 78), .mv, [.t 5], none⟩,
  ⟨(some 79), (.fld 8), [.t 2], none⟩,
  ⟨(some 80), (.load 1 false), [.t 79], none⟩,
  ⟨(some 81), .len, [.t 80], none⟩,
  ⟨(some 82), (.bin .lss), [.t 78, .t 81], none⟩])
 (.cond (.t 82) .skip (.exit 0)))
 (.seq (.block 1 (.seq (.regd [⟨(some 85), (.fld 8), [.t 2], none⟩,
  ⟨(some 86), (.load 1 false), [.t 85], none⟩,
  ⟨(some 87), .mv, [.t 5], none⟩,
  ⟨(some 88), (.idx 2), [.t 86, .t 87], none⟩,
  ⟨(some 89), (.fld 0), [.t 88], none⟩,
  ⟨(some 90), (.load 1 false), [.t 89], none⟩,
  ⟨(some 91), (.bin .lss), [.t 90, .c (.int .i64 0)], none⟩,
  ⟨(some 92), .mv, [.t 91], none⟩,
  ⟨(some 93), (.fld 8), [.t 2], (some (92, false))⟩,
  ⟨(some 94), (.load 1 false), [.t 93], (some (92, false))⟩,
  ⟨(some 95), .mv, [.t 5], (some (92, false))⟩,
  ⟨(some 96), (.idx 2), [.t 94, .t 95], (some (92, false))⟩,
  ⟨(some 97), (.fld 0), [.t 96], (some (92, false))⟩,
  ⟨(some 98), (.load 1 false), [.t 97], (some (92, false))⟩,
  ⟨(some 99), (.fld 3), [.t 2], (some (92, false))⟩,
  ⟨(some 100), (.load 1 false), [.t 99], (some (92, false))⟩,
  ⟨(some 101), (.bin .gtr), [.t 98, .t 100], (some (92, false))⟩,
  ⟨(some 102), .pick, [.t 92, .c (.bool true), .t 101], none⟩] [0, 1, 0, 6, 8, 16, 32, 64, 128, 384, 128, 1664, 2176, 4224, 128, 16512, 41088, 65664])
 (.cond (.t 102) (.seq (.reg [⟨(some 4), .mv, [.c (.bool false)], none⟩])
 .ret) .skip)))
 (.reg [⟨(some 83), .mv, [.t 5], none⟩,
  ⟨(some 84), (.bin .add), [.t 83, .c (.int .i64 1)], none⟩,
  ⟨(some 5), .mv, [.t 84], none⟩]))))))
 (.seq (.reg [⟨(some 4), .mv, [.c (.bool true)], none⟩])
 .ret))
def c85 : C := (.seq (.reg [⟨(some 2), .box, [.t 0], none⟩,
  ⟨(some 4), .mv, [.c (.bool false)], none⟩])
 (.seq (.seq (.reg [⟨(some 6), (.fld 0), [.t 2], none⟩,
  ⟨(some 7), (.load 1 false), [.t 6], none⟩,
  ⟨(some 8), (.bin .lss), [.t 7, .c (.int .i64 1)], none⟩,
  ⟨(some 9), .mv, [.t 8], none⟩,
  ⟨(some 10), (.fld 0), [.t 2], (some (9, false))⟩,
  ⟨(some 11), (.load 1 false), [.t 10], (some (9, false))⟩,
  ⟨(some 12), (.bin .gtr), [.t 11, .c (.int .i64 5)], (some (9, false))⟩,
  ⟨(some 13), .pick, [.t 9, .c (.bool true), .t 12], none⟩,
  ⟨(some 14), .mv, [.t 13], none⟩,
  ⟨(some 15), (.fld 1), [.t 2], (some (14, false))⟩,
  ⟨(some 16), (.load 1 false), [.t 15], (some (14, false))⟩,
  ⟨(some 17), (.fld 2), [.t 2], (some (14, false))⟩,
  ⟨(some 18), (.load 1 false), [.t 17], (some (14, false))⟩,
  ⟨(some 19), (.bin .eql), [.t 16, .t 18], (some (14, false))⟩,
  ⟨(some 20), .pick, [.t 14, .c (.bool true), .t 19], none⟩,
  ⟨(some 21), .mv, [.t 20], none⟩,
  ⟨(some 22), (.fld 1), [.t 2], (some (21, false))⟩,
  ⟨(some 23), (.load 1 false), [.t 22], (some (21, false))⟩,
  ⟨(some 24), (.bin .lss), [.t 23, .c (.int .i64 0)], (some (21, false))⟩,
  ⟨(some 25), .pick, [.t 21, .c (.bool true), .t 24], none⟩,
  ⟨(some 26), .mv, [.t 25], none⟩,
  ⟨(some 27), (.fld 2), [.t 2], (some (26, false))⟩,
  ⟨(some 28), (.load 1 false), [.t 27], (some (26, false))⟩,
  ⟨(some 29), (.bin .lss), [.t 28, .c (.int .i64 0)], (some (26, false))⟩,
  ⟨(some 30), .pick, [.t 26, .c (.bool true), .t 29], none⟩,
  ⟨(some 31), .mv, [.t 30], none⟩,
  ⟨(some 32), (.fld 1), [.t 2], (some (31, false))⟩,
  ⟨(some 33), (.load 1 false), [.t 32], (some (31, false))⟩,
  ⟨(some 34), .mv, [.t 1], (some (31, false))⟩,
  ⟨(some 35), (.bin .geq), [.t 33, .t 34], (some (31, false))⟩,
  ⟨(some 36), .pick, [.t 31, .c (.bool true), .t 35], none⟩,
  ⟨(some 37), .mv, [.t 36], none⟩,
  ⟨(some 38), (.fld 2), [.t 2], (some (37, false))⟩,
  ⟨(some 39), (.load 1 false), [.t 38], (some (37, false))⟩,
  ⟨(some 40), .mv, [.t 1], (some (37, false))⟩,
  ⟨(some 41), (.bin .geq), [.t 39, .t 40], (some (37, false))⟩,
  ⟨(some 42), .pick, [.t 37, .c (.bool true), .t 41], none⟩,
  ⟨(some 43), .mv, [.t 42], none⟩,
  ⟨(some 44), (.fld 3), [.t 2], (some (43, false))⟩,
  ⟨(some 45), (.load 1 false), [.t 44], (some (43, false))⟩,
  ⟨(some 46), (.bin .lss), [.t 45, .c (.int .i64 1)], (some (43, false))⟩,
  ⟨(some 47), .pick, [.t 43, .c (.bool true), .t 46], none⟩,
  ⟨(some 48), .mv, [.t 47], none⟩,
  ⟨(some 49), (.fld 3), [.t 2], (some (48, false))⟩,
  ⟨(some 50), (.load 1 false), [.t 49], (some (48, false))⟩,
  ⟨(some 51), (.call 123), [.t 50], (some (48, false))⟩,
  ⟨(some 52), .not, [.t 51], (some (48, false))⟩,
  ⟨(some 53), .pick, [.t 48, .c (.bool true), .t 52], none⟩,
  ⟨(some 54), .mv, [.t 53], none⟩,
  ⟨(some 55), (.fld 4), [.t 2], (some (54, false))⟩,
  ⟨(some 56), (.load 1 false), [.t 55], (some (54, false))⟩,
  ⟨(some 57), (.call 123), [.t 56], (some (54, false))⟩,
  ⟨(some 58), .not, [.t 57], (some (54, false))⟩,
  ⟨(some 59), .pick, [.t 54, .c (.bool true), .t 58], none⟩,
  ⟨(some 60), .mv, [.t 59], none⟩,
  ⟨(some 61), (.fld 5), [.t 2], (some (60, false))⟩,
  ⟨(some 62), (.load 1 false), [.t 61], (some (60, false))⟩,
  ⟨(some 63), (.call 123), [.t 62], (some (60, false))⟩,
  ⟨(some 64), .not, [.t 63], (some (60, false))⟩,
  ⟨(some 65), .pick, [.t 60, .c (.bool true), .t 64], none⟩,
  ⟨(some 66), .mv, [.t 65], none⟩,
  ⟨(some 67), (.fld 7), [.t 2], (some (66, false))⟩,
  ⟨(some 68), (.load 1 false), [.t 67], (some (66, false))⟩,
  ⟨(some 69), (.call 123), [.t 68], (some (66, false))⟩,
  ⟨(some 70), .not, [.t 69], (some (66, false))⟩,
  ⟨(some 71), .pick, [.t 66, .c (.bool true), .t 70], none⟩,
  ⟨(some 72), .mv, [.t 71], none⟩,
  ⟨(some 73), (.fld 8), [.t 2], (some (72, false))⟩,
  ⟨(some 74), (.load 1 false), [.t 73], (some (72, false))⟩,
  ⟨(some 75), .len, [.t 74], (some (72, false))⟩,
  ⟨(some 76), (.bin .gtr), [.t 75, .c (.int .i64 20)], (some (72, false))⟩,
  ⟨(some 77), .pick, [.t 72, .c (.bool true), .t 76], none⟩])
 (.cond (.t 77) (.seq (.reg [⟨(some 4), .mv, [.c (.bool false)], none⟩])
 .ret) .skip))
 (.cut c85_5)))
theorem comp85 : compC Go.Proofs.Try.prog ttL 103 [] (match Go.Proofs.Try.f85.body with | some b => b | none => .skip) = some (erase c85) := by kernel_rfl
def c123 : C := (.seq (.reg [⟨(some 2), .mv, [.c (.bool false)], none⟩])
 (.seq (.reg [⟨(some 3), .mv, [.t 0], none⟩,
  ⟨(some 4), (.bin .geq), [.t 3, .c (.int .i64 0)], none⟩,
  ⟨(some 5), .mv, [.t 4], none⟩,
  ⟨(some 6), .mv, [.t 0], (some (5, true))⟩,
  ⟨(some 7), (.bin .leq), [.t 6, .c (.int .i64 1099511627776)], (some (5, true))⟩,
  ⟨(some 8), .pick, [.t 5, .t 7, .c (.bool false)], none⟩,
  ⟨(some 2), .mv, [.t 8], none⟩])
 .ret))
theorem comp123 : compC Go.Proofs.Try.prog ttL 9 [] (match Go.Proofs.Try.f123.body with | some b => b | none => .skip) = some (c123) := by kernel_rfl
end Go.AM
