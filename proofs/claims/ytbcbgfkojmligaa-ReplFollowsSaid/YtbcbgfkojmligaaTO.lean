import Derived.Test.YtbcbgfkojmligaaAA
import Derived.KernelRfl
import Derived.Test.YtbcbgfkojmligaaProg
/- Functions of the program as code of the abstract machine, each with the proof that it is that code; no condition. -/
set_option maxRecDepth 100000
namespace Go.AM
def c74_60 : C := (.seq (.reg [⟨(some 60), .mv, [.t 6], none⟩,
  ⟨(some 61), (.fld 4), [.t 3], none⟩,
  ⟨(some 62), (.load 1 false), [.t 61], none⟩,
  ⟨(some 63), .mx, [.t 60, .t 62], none⟩,
  ⟨(some 64), .mv, [.t 8], none⟩,
  ⟨(some 65), .mn, [.t 63, .t 64], none⟩,
  ⟨(some 6), .mv, [.t 65], none⟩])
 (.seq (.regd [⟨(some 66), (.fld 13), [.t 2], none⟩,
  ⟨(some 67), (.load 1 false), [.t 66], none⟩,
  ⟨(some 68), (.fld 1), [.t 3], none⟩,
  ⟨(some 69), (.load 1 false), [.t 68], none⟩,
  ⟨(some 70), .mv, [.t 6], none⟩,
  ⟨(some 71), (.call 116), [.t 67, .t 69, .t 70], none⟩,
  ⟨(some 72), (.fld 12), [.t 2], none⟩,
  ⟨(some 73), (.load 1 false), [.t 72], none⟩,
  ⟨(some 74), (.fld 1), [.t 3], none⟩,
  ⟨(some 75), (.load 1 false), [.t 74], none⟩,
  ⟨(some 76), .mv, [.t 6], none⟩,
  ⟨(some 77), (.bin .add), [.t 76, .c (.int .i64 1)], none⟩,
  ⟨(some 78), (.call 116), [.t 73, .t 75, .t 77], none⟩,
  ⟨(some 79), (.fld 13), [.t 2], none⟩,
  ⟨none, (.store 1), [.t 79, .t 71], none⟩,
  ⟨(some 80), (.fld 12), [.t 2], none⟩,
  ⟨none, (.store 1), [.t 80, .t 78], none⟩] [0, 1, 0, 4, 0, 26, 0, 64, 0, 256, 0, 1024, 2720, 255, 12543, 32767, 65535])
 (.seq (.reg [⟨(some 81), (.load 15 true), [.t 2], none⟩,
  ⟨(some 82), (.call 56), [.t 81], none⟩,
  ⟨none, (.store 15), [.t 2, .t 82], none⟩])
 (.seq (.seq (.reg [⟨(some 83), .mv, [.t 6], none⟩,
  ⟨(some 84), (.bin .add), [.t 83, .c (.int .i64 1)], none⟩,
  ⟨(some 85), .mv, [.t 8], none⟩,
  ⟨(some 86), (.bin .leq), [.t 84, .t 85], none⟩])
 (.cond (.t 86) (.seq (.regd [⟨(some 87), (.load 15 true), [.t 2], none⟩,
  ⟨(some 88), (.load 15 true), [.t 2], none⟩,
  ⟨(some 89), (.fld 1), [.t 3], none⟩,
  ⟨(some 90), (.load 1 false), [.t 89], none⟩,
  ⟨(some 91), (.call 70), [.t 88, .t 90], none⟩,
  ⟨(some 92), (.bslice tMsg 1), [.t 91], none⟩,
  ⟨none, (.store 15), [.t 4, .t 87], none⟩,
  ⟨(some 5), .mv, [.t 92], none⟩] [0, 0, 0, 4, 10, 16, 17, 127])
 .ret) .skip))
 (.seq (.reg [⟨(some 93), (.load 15 true), [.t 2], none⟩,
  ⟨none, (.store 15), [.t 4, .t 93], none⟩,
  ⟨(some 5), .mv, [.c (.sl tMsg [] true)], none⟩])
 .ret)))))
def c74_36 : C := (.seq (.seq (.reg [⟨(some 36), (.fld 6), [.t 3], none⟩,
  ⟨(some 37), (.load 1 false), [.t 36], none⟩,
  ⟨(some 38), .not, [.t 37], none⟩])
 (.cond (.t 38) (.seq (.reg [⟨(some 39), (.fld 12), [.t 2], none⟩,
  ⟨(some 40), (.load 1 false), [.t 39], none⟩,
  ⟨(some 41), (.fld 1), [.t 3], none⟩,
  ⟨(some 42), (.load 1 false), [.t 41], none⟩,
  ⟨(some 43), .mv, [.t 6], none⟩,
  ⟨(some 44), (.bin .add), [.t 43, .c (.int .i64 1)], none⟩,
  ⟨(some 45), .mv, [.t 7], none⟩,
  ⟨(some 46), (.bin .sub), [.t 45, .c (.int .i64 1)], none⟩,
  ⟨(some 47), (.fld 4), [.t 3], none⟩,
  ⟨(some 48), (.load 1 false), [.t 47], none⟩,
  ⟨(some 49), (.bin .add), [.t 48, .c (.int .i64 1)], none⟩,
  ⟨(some 50), .mn, [.t 46, .t 49], none⟩,
  ⟨(some 51), .mx, [.c (.int .i64 1), .t 44, .t 50], none⟩,
  ⟨(some 52), (.call 116), [.t 40, .t 42, .t 51], none⟩,
  ⟨(some 53), (.fld 12), [.t 2], none⟩,
  ⟨none, (.store 1), [.t 53, .t 52], none⟩])
 (.seq (.regd [⟨(some 54), (.load 15 true), [.t 2], none⟩,
  ⟨(some 55), (.load 15 true), [.t 2], none⟩,
  ⟨(some 56), (.fld 1), [.t 3], none⟩,
  ⟨(some 57), (.load 1 false), [.t 56], none⟩,
  ⟨(some 58), (.call 70), [.t 55, .t 57], none⟩,
  ⟨(some 59), (.bslice tMsg 1), [.t 58], none⟩,
  ⟨none, (.store 15), [.t 4, .t 54], none⟩,
  ⟨(some 5), .mv, [.t 59], none⟩] [0, 0, 0, 4, 10, 16, 17, 127])
 .ret)) .skip))
 (.cut c74_60))
def c74 : C := (.seq (.reg [⟨(some 2), .box, [.t 0], none⟩,
  ⟨(some 3), .box, [.t 1], none⟩,
  ⟨(some 4), (.alloc [.int .i64 0, .int .i64 0, .int .i64 0, .int .i64 0, .int .i64 0, .int .i64 0, .str ⟨#[]⟩, .sl tEntry [] true, .int .i64 0, .int .i64 0, .int .i64 0, .sl .bool [] true, .sl tI [] true, .sl tI [] true, .int .i64 0]), [], none⟩,
  ⟨(some 5), .mv, [.c (.sl tMsg [] true)], none⟩])
 (.seq (.reg [⟨(some 9), (.load 15 true), [.t 2], none⟩,
  ⟨(some 10), (.fld 3), [.t 3], none⟩,
  ⟨(some 11), (.load 1 false), [.t 10], none⟩,
  ⟨(some 12), (.call 32), [.t 9, .t 11], none⟩,
  ⟨none, (.store 15), [.t 2, .t 12], none⟩])
 (.seq (.seq (.reg [⟨(some 13), (.fld 8), [.t 2], none⟩,
  ⟨(some 14), (.load 1 false), [.t 13], none⟩,
  ⟨(some 15), (.bin .neq), [.t 14, .c (.int .i64 2)], none⟩,
  ⟨(some 16), .mv, [.t 15], none⟩,
  ⟨(some 17), (.fld 3), [.t 3], (some (16, false))⟩,
  ⟨(some 18), (.load 1 false), [.t 17], (some (16, false))⟩,
  ⟨(some 19), (.fld 2), [.t 2], (some (16, false))⟩,
  ⟨(some 20), (.load 1 false), [.t 19], (some (16, false))⟩,
  ⟨(some 21), (.bin .neq), [.t 18, .t 20], (some (16, false))⟩,
  ⟨(some 22), .pick, [.t 16, .c (.bool true), .t 21], none⟩])
 (.cond (.t 22) (.seq (.reg [⟨(some 23), (.load 15 true), [.t 2], none⟩,
  ⟨none, (.store 15), [.t 4, .t 23], none⟩,
  ⟨(some 5), .mv, [.c (.sl tMsg [] true)], none⟩])
 .ret) .skip))
 (.seq (.regd [⟨(some 24), (.fld 13), [.t 2], none⟩,
  ⟨(some 25), (.load 1 false), [.t 24], none⟩,
  ⟨(some 26), (.fld 1), [.t 3], none⟩,
  ⟨(some 27), (.load 1 false), [.t 26], none⟩,
  ⟨(some 28), (.call 113), [.t 25, .t 27], none⟩,
  ⟨(some 29), (.fld 12), [.t 2], none⟩,
  ⟨(some 30), (.load 1 false), [.t 29], none⟩,
  ⟨(some 31), (.fld 1), [.t 3], none⟩,
  ⟨(some 32), (.load 1 false), [.t 31], none⟩,
  ⟨(some 33), (.call 113), [.t 30, .t 32], none⟩,
  ⟨(some 34), (.load 15 true), [.t 2], none⟩,
  ⟨(some 35), (.call 52), [.t 34], none⟩,
  ⟨(some 6), .mv, [.t 28], none⟩,
  ⟨(some 7), .mv, [.t 33], none⟩,
  ⟨(some 8), .mv, [.t 35], none⟩] [0, 1, 0, 4, 10, 0, 32, 0, 128, 336, 0, 1536, 2079, 5119, 16383])
 (.cut c74_36)))))
theorem comp74 : compC Go.Proofs.Try.prog ttL 94 [] (match Go.Proofs.Try.f74.body with | some b => b | none => .skip) = some (erase c74) := by kernel_rfl
end Go.AM
