import Derived.Test.YtbcbgfkojmligaaAA
import Derived.KernelRfl
import Derived.Test.YtbcbgfkojmligaaProg
/- Functions of the program as code of the abstract machine, each with the proof that it is that code; no condition. -/
set_option maxRecDepth 100000
namespace Go.AM
def c9_65 : C := (.seq (.reg [⟨(some 65), (.load 15 true), [.t 3], none⟩,
  ⟨(some 66), .mv, [.t 2], none⟩,
  ⟨(some 67), (.call 48), [.t 65, .t 66], none⟩,
  ⟨(some 64), .mv, [.t 67], none⟩,
  ⟨(some 68), (.ext 0), [.t 64], none⟩,
  ⟨(some 69), (.ext 1), [.t 64], none⟩,
  ⟨(some 7), .mv, [.t 68], none⟩,
  ⟨(some 8), .mv, [.t 69], none⟩])
 (.seq (.reg [⟨(some 71), (.load 15 true), [.t 3], none⟩,
  ⟨(some 72), .mv, [.t 2], none⟩,
  ⟨(some 73), (.call 29), [.t 71, .t 72], none⟩,
  ⟨(some 70), .mv, [.t 73], none⟩,
  ⟨(some 74), (.ext 0), [.t 70], none⟩,
  ⟨(some 75), (.ext 1), [.t 70], none⟩,
  ⟨(some 9), .mv, [.t 74], none⟩,
  ⟨(some 10), .mv, [.t 75], none⟩])
 (.seq (.regd [⟨(some 76), (.load 15 true), [.t 3], none⟩,
  ⟨(some 77), (.load 15 true), [.t 4], none⟩,
  ⟨(some 78), (.call 49), [.t 76, .t 77], none⟩,
  ⟨(some 79), (.load 15 true), [.t 3], none⟩,
  ⟨(some 80), (.load 15 true), [.t 4], none⟩,
  ⟨(some 81), (.call 33), [.t 79, .t 80], none⟩,
  ⟨(some 82), (.binb .eql), [.t 78, .t 81], none⟩,
  ⟨(some 83), .mv, [.t 82], none⟩,
  ⟨(some 84), .mv, [.t 7], (some (83, true))⟩,
  ⟨(some 85), .mv, [.t 9], (some (83, true))⟩,
  ⟨(some 86), (.bin .eql), [.t 84, .t 85], (some (83, true))⟩,
  ⟨(some 87), .pick, [.t 83, .t 86, .c (.bool false)], none⟩,
  ⟨(some 88), .mv, [.t 87], none⟩,
  ⟨(some 89), .mv, [.t 8], (some (88, true))⟩,
  ⟨(some 90), .mv, [.t 10], (some (88, true))⟩,
  ⟨(some 91), (.binb .eql), [.t 89, .t 90], (some (88, true))⟩,
  ⟨(some 92), .pick, [.t 88, .t 91, .c (.bool false)], none⟩,
  ⟨(some 93), .mv, [.t 92], none⟩,
  ⟨(some 94), (.load 15 true), [.t 3], (some (93, true))⟩,
  ⟨(some 95), (.load 15 true), [.t 3], (some (93, true))⟩,
  ⟨(some 96), (.call 49), [.t 94, .t 95], (some (93, true))⟩,
  ⟨(some 97), .pick, [.t 93, .t 96, .c (.bool false)], none⟩,
  ⟨(some 98), .mv, [.t 97], none⟩,
  ⟨(some 99), (.call 36), [], (some (98, true))⟩,
  ⟨(some 100), .pick, [.t 98, .t 99, .c (.bool false)], none⟩,
  ⟨(some 6), .mv, [.t 100], none⟩] [0, 0, 3, 0, 0, 28, 36, 96, 128, 128, 896, 1152, 2176, 4096, 4096, 28672, 36864, 69632, 131072, 131072, 917504, 1179648, 3145728, 4194304, 12582912, 33554431])
 .ret)))
def c9_55 : C := (.seq (.seq (.reg [⟨(some 55), (.load 15 true), [.t 3], none⟩,
  ⟨(some 56), (.call 47), [.t 55], none⟩,
  ⟨(some 57), .not, [.t 56], none⟩,
  ⟨(some 58), .mv, [.t 57], none⟩,
  ⟨(some 59), (.load 15 true), [.t 4], (some (58, false))⟩,
  ⟨(some 60), (.call 47), [.t 59], (some (58, false))⟩,
  ⟨(some 61), .not, [.t 60], (some (58, false))⟩,
  ⟨(some 62), .pick, [.t 58, .c (.bool true), .t 61], none⟩])
 (.cond (.t 62) (.seq (.reg [⟨(some 63), (.call 36), [], none⟩,
  ⟨(some 6), .mv, [.t 63], none⟩])
 .ret) .skip))
 (.cut c9_65))
def c9_50 : C := (.seq (.seq (.regd [⟨(some 50), (.load 15 true), [.t 3], none⟩,
  ⟨(some 51), (.call 46), [.t 50], none⟩,
  ⟨(some 52), (.load 15 true), [.t 3], none⟩,
  ⟨(some 53), (.call 47), [.t 52], none⟩,
  ⟨(some 54), (.binb .neq), [.t 51, .t 53], none⟩] [0, 1, 0, 6, 10])
 (.cond (.t 54) (.seq (.reg [⟨(some 6), .mv, [.c (.bool false)], none⟩])
 .ret) .skip))
 (.cut c9_55))
def c9 : C := (.seq (.reg [⟨(some 3), .box, [.t 0], none⟩,
  ⟨(some 4), .box, [.t 1], none⟩,
  ⟨(some 6), .mv, [.c (.bool false)], none⟩])
 (.seq (.seq (.reg [⟨(some 11), (.fld 7), [.t 3], none⟩,
  ⟨(some 12), (.load 1 false), [.t 11], none⟩,
  ⟨(some 13), .len, [.t 12], none⟩,
  ⟨(some 14), (.bin .gtr), [.t 13, .c (.int .i64 50)], none⟩,
  ⟨(some 15), .mv, [.t 14], none⟩,
  ⟨(some 16), (.fld 7), [.t 4], (some (15, false))⟩,
  ⟨(some 17), (.load 1 false), [.t 16], (some (15, false))⟩,
  ⟨(some 18), .len, [.t 17], (some (15, false))⟩,
  ⟨(some 19), (.bin .gtr), [.t 18, .c (.int .i64 50)], (some (15, false))⟩,
  ⟨(some 20), .pick, [.t 15, .c (.bool true), .t 19], none⟩,
  ⟨(some 21), .mv, [.t 20], none⟩,
  ⟨(some 22), (.fld 11), [.t 3], (some (21, false))⟩,
  ⟨(some 23), (.load 1 false), [.t 22], (some (21, false))⟩,
  ⟨(some 24), .len, [.t 23], (some (21, false))⟩,
  ⟨(some 25), (.bin .gtr), [.t 24, .c (.int .i64 20)], (some (21, false))⟩,
  ⟨(some 26), .pick, [.t 21, .c (.bool true), .t 25], none⟩,
  ⟨(some 27), .mv, [.t 26], none⟩,
  ⟨(some 28), (.fld 12), [.t 3], (some (27, false))⟩,
  ⟨(some 29), (.load 1 false), [.t 28], (some (27, false))⟩,
  ⟨(some 30), .len, [.t 29], (some (27, false))⟩,
  ⟨(some 31), (.bin .gtr), [.t 30, .c (.int .i64 20)], (some (27, false))⟩,
  ⟨(some 32), .pick, [.t 27, .c (.bool true), .t 31], none⟩,
  ⟨(some 33), .mv, [.t 32], none⟩,
  ⟨(some 34), (.fld 13), [.t 3], (some (33, false))⟩,
  ⟨(some 35), (.load 1 false), [.t 34], (some (33, false))⟩,
  ⟨(some 36), .len, [.t 35], (some (33, false))⟩,
  ⟨(some 37), (.bin .gtr), [.t 36, .c (.int .i64 20)], (some (33, false))⟩,
  ⟨(some 38), .pick, [.t 33, .c (.bool true), .t 37], none⟩,
  ⟨(some 39), .mv, [.t 38], none⟩,
  ⟨(some 40), (.fld 4), [.t 3], (some (39, false))⟩,
  ⟨(some 41), (.load 1 false), [.t 40], (some (39, false))⟩,
  ⟨(some 42), (.bin .gtr), [.t 41, .c (.int .i64 1099511627776)], (some (39, false))⟩,
  ⟨(some 43), .pick, [.t 39, .c (.bool true), .t 42], none⟩,
  ⟨(some 44), .mv, [.t 43], none⟩,
  ⟨(some 45), (.fld 4), [.t 3], (some (44, false))⟩,
  ⟨(some 46), (.load 1 false), [.t 45], (some (44, false))⟩,
  ⟨(some 47), (.bin .lss), [.t 46, .c (.int .i64 0)], (some (44, false))⟩,
  ⟨(some 48), .pick, [.t 44, .c (.bool true), .t 47], none⟩])
 (.cond (.t 48) (.seq (.reg [⟨(some 49), (.call 36), [], none⟩,
  ⟨(some 6), .mv, [.t 49], none⟩])
 .ret) .skip))
 (.cut c9_50)))
theorem comp9 : compC Go.Proofs.Try.prog ttL 101 [] (match Go.Proofs.Try.f9.body with | some b => b | none => .skip) = some (erase c9) := by kernel_rfl
end Go.AM
