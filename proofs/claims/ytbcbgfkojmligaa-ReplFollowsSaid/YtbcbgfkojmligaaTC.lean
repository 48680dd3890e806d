import Derived.Test.YtbcbgfkojmligaaAA
import Derived.KernelRfl
import Derived.Test.YtbcbgfkojmligaaProg
/- Functions of the program as code of the abstract machine, each with the proof that it is that code; no condition. -/
set_option maxRecDepth 100000
namespace Go.AM
def c8 : C := (.seq (.reg [⟨(some 4), .mv, [.c (.bool false)], none⟩])
 (.seq (.reg [⟨(some 16), .mv, [.t 0], none⟩,
  ⟨(some 17), (.call 23), [.t 16, .c (.int .i64 5)], none⟩,
  ⟨(some 18), (.bin .add), [.c (.int .i64 1), .t 17], none⟩,
  ⟨(some 5), .mv, [.t 18], none⟩])
 (.seq (.reg [⟨(some 20), .mv, [.t 5], none⟩,
  ⟨(some 21), (.call 31), [.c (.int .i64 0), .t 20], none⟩,
  ⟨(some 22), (.call 27), [.t 21], none⟩,
  ⟨(some 19), .mv, [.t 22], none⟩,
  ⟨(some 23), (.ext 0), [.t 19], none⟩,
  ⟨(some 24), (.ext 1), [.t 19], none⟩,
  ⟨(some 6), (.alloc [.int .i64 0, .int .i64 0, .int .i64 0, .int .i64 0, .int .i64 0, .int .i64 0, .str ⟨#[]⟩, .sl tEntry [] true, .int .i64 0, .int .i64 0, .int .i64 0, .sl .bool [] true, .sl tI [] true, .sl tI [] true, .int .i64 0]), [], none⟩,
  ⟨none, (.store 15), [.t 6, .t 23], none⟩,
  ⟨(some 7), .mv, [.t 24], none⟩])
 (.seq (.seq (.reg [⟨(some 25), .mv, [.t 7], none⟩,
  ⟨(some 26), .len, [.t 25], none⟩,
  ⟨(some 27), .mv, [.t 5], none⟩,
  ⟨(some 28), (.bin .sub), [.t 27, .c (.int .i64 1)], none⟩,
  ⟨(some 29), (.bin .neq), [.t 26, .t 28], none⟩,
  ⟨(some 30), .mv, [.t 29], none⟩,
  ⟨(some 31), (.load 15 true), [.t 6], (some (30, false))⟩,
  ⟨(some 32), (.call 44), [.t 31], (some (30, false))⟩,
  ⟨(some 33), .mv, [.t 5], (some (30, false))⟩,
  ⟨(some 34), (.bin .quo), [.t 33, .c (.int .i64 2)], (some (30, false))⟩,
  ⟨(some 35), (.bin .add), [.t 34, .c (.int .i64 1)], (some (30, false))⟩,
  ⟨(some 36), (.bin .neq), [.t 32, .t 35], (some (30, false))⟩,
  ⟨(some 37), .pick, [.t 30, .c (.bool true), .t 36], none⟩])
 (.cond (.t 37) (.seq (.reg [⟨(some 4), .mv, [.c (.bool false)], none⟩])
 .ret) .skip))
 (.seq (.reg [⟨(some 8), (.allocA .bool 5), [], none⟩])
 (.seq (.reg [⟨(some 38), (.aidx 1 5), [.t 8, .c (.int .i64 0)], none⟩,
  ⟨none, (.store 1), [.t 38, .c (.bool true)], none⟩])
 (.seq (.seq (.reg [⟨(some 9), .mv, [.c (.int .i64 0)], none⟩])
 (.block 0 (.loop (.seq (.seq (.reg [⟨(some 39), .mv, [.t 9], none⟩,
  ⟨(some 40), .mv, [.t 1], none⟩,
  ⟨(some 41), .len, [.t 40], none⟩,
  ⟨(some 42), (.bin .lss), [.t 39, .t 41], none⟩,
  ⟨(some 43), .mv, [.t 42], none⟩,
  ⟨(some 44), .mv, [.t 9], (some (43, true))⟩,
  ⟨(some 45), (.bin .lss), [.t 44, .c (.int .i64 30)], (some (43, true))⟩,
  ⟨(some 46), .pick, [.t 43, .t 45, .c (.bool false)], none⟩])
 (.cond (.t 46) .skip (.exit 0)))
 (.seq (.block 1 (.seq (.reg [⟨(some 49), .mv, [.t 1], none⟩,
  ⟨(some 50), .mv, [.t 9], none⟩,
  ⟨(some 51), (.idx 1), [.t 49, .t 50], none⟩,
  ⟨(some 52), (.load 1 false), [.t 51], none⟩,
  ⟨(some 53), (.call 23), [.t 52, .c (.int .i64 5)], none⟩,
  ⟨(some 10), .mv, [.t 53], none⟩])
 (.seq (.seq (.reg [⟨(some 54), .mv, [.t 10], none⟩,
  ⟨(some 55), (.bin .eql), [.t 54, .c (.int .i64 0)], none⟩,
  ⟨(some 56), .mv, [.t 55], none⟩,
  ⟨(some 57), .mv, [.t 10], (some (56, false))⟩,
  ⟨(some 58), .mv, [.t 5], (some (56, false))⟩,
  ⟨(some 59), (.bin .geq), [.t 57, .t 58], (some (56, false))⟩,
  ⟨(some 60), .pick, [.t 56, .c (.bool true), .t 59], none⟩])
 (.cond (.t 60) (.exit 1) .skip))
 (.seq (.regd [⟨(some 61), .mv, [.t 10], none⟩,
  ⟨(some 62), (.fld 2), [.t 6], none⟩,
  ⟨(some 63), (.load 1 false), [.t 62], none⟩,
  ⟨(some 64), .mv, [.t 1], none⟩,
  ⟨(some 65), .mv, [.t 9], none⟩,
  ⟨(some 66), (.idx 1), [.t 64, .t 65], none⟩,
  ⟨(some 67), (.load 1 false), [.t 66], none⟩,
  ⟨(some 68), (.bin .quo), [.t 67, .c (.int .i64 5)], none⟩,
  ⟨(some 69), (.call 23), [.t 68, .c (.int .i64 2)], none⟩,
  ⟨(some 70), (.bin .sub), [.t 63, .t 69], none⟩,
  ⟨(some 71), .mv, [.t 1], none⟩,
  ⟨(some 72), .mv, [.t 9], none⟩,
  ⟨(some 73), (.idx 1), [.t 71, .t 72], none⟩,
  ⟨(some 74), (.load 1 false), [.t 73], none⟩,
  ⟨(some 75), (.bin .quo), [.t 74, .c (.int .i64 10)], none⟩,
  ⟨(some 76), (.call 23), [.t 75, .c (.int .i64 3)], none⟩,
  ⟨(some 77), (.bin .gtr), [.t 76, .c (.int .i64 0)], none⟩,
  ⟨(some 78), (.build [.int .i64 0, .int .i64 0, .int .i64 0, .int .i64 0, .int .i64 0, .int .i64 0, .bool false, .int .i64 0, .sl tEntry [] true, .str ⟨#[]⟩] [(0, 1), (1, 1), (2, 1), (3, 1), (6, 1)]), [.c (.int .i64 2), .t 61, .c (.int .i64 0), .t 70, .t 77], none⟩,
  ⟨(some 11), (.alloc [.int .i64 0, .int .i64 0, .int .i64 0, .int .i64 0, .int .i64 0, .int .i64 0, .bool false, .int .i64 0, .sl tEntry [] true, .str ⟨#[]⟩]), [], none⟩,
  ⟨none, (.store 10), [.t 11, .t 78], none⟩] [0, 0, 2, 0, 0, 24, 32, 64, 128, 260, 0, 0, 3072, 4096, 8192, 16640, 32768, 66049, 0, 524287])
 (.seq (.reg [⟨(some 80), (.load 15 true), [.t 6], none⟩,
  ⟨(some 81), (.load 10 true), [.t 11], none⟩,
  ⟨(some 82), (.call 40), [.t 80, .t 81], none⟩,
  ⟨(some 79), .mv, [.t 82], none⟩,
  ⟨(some 83), (.ext 0), [.t 79], none⟩,
  ⟨(some 84), (.ext 1), [.t 79], none⟩,
  ⟨(some 12), (.alloc [.int .i64 0, .int .i64 0, .int .i64 0, .int .i64 0, .int .i64 0, .int .i64 0, .str ⟨#[]⟩, .sl tEntry [] true, .int .i64 0, .int .i64 0, .int .i64 0, .sl .bool [] true, .sl tI [] true, .sl tI [] true, .int .i64 0]), [], none⟩,
  ⟨none, (.store 15), [.t 12, .t 83], none⟩,
  ⟨(some 13), .mv, [.t 84], none⟩])
 (.seq (.seq (.reg [⟨(some 85), (.fld 3), [.t 11], none⟩,
  ⟨(some 86), (.load 1 false), [.t 85], none⟩,
  ⟨(some 87), (.fld 2), [.t 6], none⟩,
  ⟨(some 88), (.load 1 false), [.t 87], none⟩,
  ⟨(some 89), (.bin .eql), [.t 86, .t 88], none⟩,
  ⟨(some 90), .mv, [.t 89], none⟩,
  ⟨(some 91), (.fld 6), [.t 11], (some (90, true))⟩,
  ⟨(some 92), (.load 1 false), [.t 91], (some (90, true))⟩,
  ⟨(some 93), .pick, [.t 90, .t 92, .c (.bool false)], none⟩])
 (.cond (.t 93) (.reg [⟨(some 94), .mv, [.t 10], none⟩,
  ⟨(some 95), (.aidx 1 5), [.t 8, .t 94], none⟩,
  ⟨none, (.store 1), [.t 95, .c (.bool true)], none⟩]) .skip))
 (.seq (.reg [⟨(some 14), .mv, [.c (.int .i64 0)], none⟩])
 (.seq (.seq (.reg [⟨(some 15), .mv, [.c (.int .i64 0)], none⟩])
 (.block 2 (.loop (.seq (.seq (.reg [⟨(some 96), .mv, [.t 15], none⟩,
  ⟨(some 97), (.bin .lss), [.t 96, .c (.int .i64 5)], none⟩])
 (.cond (.t 97) .skip (.exit 2)))
 (.seq (.block 3 (.seq (.reg [⟨(some 100), .mv, [.t 15], none⟩,
  ⟨(some 101), (.aidx 1 5), [.t 8, .t 100], none⟩,
  ⟨(some 102), (.load 1 false), [.t 101], none⟩])
 (.cond (.t 102) (.reg [⟨(some 103), .mv, [.t 14], none⟩,
  ⟨(some 104), (.bin .add), [.t 103, .c (.int .i64 1)], none⟩,
  ⟨(some 14), .mv, [.t 104], none⟩]) .skip)))
 (.reg [⟨(some 98), .mv, [.t 15], none⟩,
  ⟨(some 99), (.bin .add), [.t 98, .c (.int .i64 1)], none⟩,
  ⟨(some 15), .mv, [.t 99], none⟩]))))))
 (.seq (.seq (.reg [⟨(some 105), .mv, [.t 13], none⟩,
  ⟨(some 106), (.fld 3), [.t 11], none⟩,
  ⟨(some 107), (.load 1 false), [.t 106], none⟩,
  ⟨(some 108), (.fld 2), [.t 6], none⟩,
  ⟨(some 109), (.load 1 false), [.t 108], none⟩,
  ⟨(some 110), (.bin .eql), [.t 107, .t 109], none⟩,
  ⟨(some 111), .mv, [.t 110], none⟩,
  ⟨(some 112), (.fld 6), [.t 11], (some (111, true))⟩,
  ⟨(some 113), (.load 1 false), [.t 112], (some (111, true))⟩,
  ⟨(some 114), .pick, [.t 111, .t 113, .c (.bool false)], none⟩,
  ⟨(some 115), .mv, [.t 114], none⟩,
  ⟨(some 116), .mv, [.t 14], (some (115, true))⟩,
  ⟨(some 117), .mv, [.t 5], (some (115, true))⟩,
  ⟨(some 118), (.bin .quo), [.t 117, .c (.int .i64 2)], (some (115, true))⟩,
  ⟨(some 119), (.bin .add), [.t 118, .c (.int .i64 1)], (some (115, true))⟩,
  ⟨(some 120), (.bin .geq), [.t 116, .t 119], (some (115, true))⟩,
  ⟨(some 121), .pick, [.t 115, .t 120, .c (.bool false)], none⟩,
  ⟨(some 122), (.binb .neq), [.t 105, .t 121], none⟩,
  ⟨(some 123), .mv, [.t 122], none⟩,
  ⟨(some 124), (.fld 2), [.t 12], (some (123, false))⟩,
  ⟨(some 125), (.load 1 false), [.t 124], (some (123, false))⟩,
  ⟨(some 126), (.fld 2), [.t 6], (some (123, false))⟩,
  ⟨(some 127), (.load 1 false), [.t 126], (some (123, false))⟩,
  ⟨(some 128), (.bin .neq), [.t 125, .t 127], (some (123, false))⟩,
  ⟨(some 129), .pick, [.t 123, .c (.bool true), .t 128], none⟩,
  ⟨(some 130), .mv, [.t 129], none⟩,
  ⟨(some 131), (.fld 8), [.t 12], (some (130, false))⟩,
  ⟨(some 132), (.load 1 false), [.t 131], (some (130, false))⟩,
  ⟨(some 133), (.bin .neq), [.t 132, .c (.int .i64 1)], (some (130, false))⟩,
  ⟨(some 134), .pick, [.t 130, .c (.bool true), .t 133], none⟩])
 (.cond (.t 134) (.seq (.reg [⟨(some 4), .mv, [.c (.bool false)], none⟩])
 .ret) .skip))
 (.reg [⟨(some 135), (.load 15 true), [.t 12], none⟩,
  ⟨none, (.store 15), [.t 6, .t 135], none⟩]))))))))))
 (.reg [⟨(some 47), .mv, [.t 9], none⟩,
  ⟨(some 48), (.bin .add), [.t 47, .c (.int .i64 1)], none⟩,
  ⟨(some 9), .mv, [.t 48], none⟩]))))))
 (.seq (.reg [⟨(some 136), (.call 26), [], none⟩,
  ⟨(some 4), .mv, [.t 136], none⟩])
 .ret))))))))
theorem comp8 : compC Go.Proofs.Try.prog ttL 137 [8] (match Go.Proofs.Try.f8.body with | some b => b | none => .skip) = some (c8) := by kernel_rfl
def c40 : C := (.seq (.reg [⟨(some 2), .box, [.t 0], none⟩,
  ⟨(some 3), .box, [.t 1], none⟩,
  ⟨(some 4), (.alloc [.int .i64 0, .int .i64 0, .int .i64 0, .int .i64 0, .int .i64 0, .int .i64 0, .str ⟨#[]⟩, .sl tEntry [] true, .int .i64 0, .int .i64 0, .int .i64 0, .sl .bool [] true, .sl tI [] true, .sl tI [] true, .int .i64 0]), [], none⟩,
  ⟨(some 5), .mv, [.c (.bool false)], none⟩])
 (.seq (.reg [⟨(some 6), (.load 15 true), [.t 2], none⟩,
  ⟨(some 7), (.fld 3), [.t 3], none⟩,
  ⟨(some 8), (.load 1 false), [.t 7], none⟩,
  ⟨(some 9), (.call 32), [.t 6, .t 8], none⟩,
  ⟨none, (.store 15), [.t 2, .t 9], none⟩])
 (.seq (.seq (.reg [⟨(some 10), (.fld 6), [.t 3], none⟩,
  ⟨(some 11), (.load 1 false), [.t 10], none⟩,
  ⟨(some 12), .not, [.t 11], none⟩,
  ⟨(some 13), .mv, [.t 12], none⟩,
  ⟨(some 14), (.fld 3), [.t 3], (some (13, false))⟩,
  ⟨(some 15), (.load 1 false), [.t 14], (some (13, false))⟩,
  ⟨(some 16), (.fld 2), [.t 2], (some (13, false))⟩,
  ⟨(some 17), (.load 1 false), [.t 16], (some (13, false))⟩,
  ⟨(some 18), (.bin .neq), [.t 15, .t 17], (some (13, false))⟩,
  ⟨(some 19), .pick, [.t 13, .c (.bool true), .t 18], none⟩,
  ⟨(some 20), .mv, [.t 19], none⟩,
  ⟨(some 21), (.fld 8), [.t 2], (some (20, false))⟩,
  ⟨(some 22), (.load 1 false), [.t 21], (some (20, false))⟩,
  ⟨(some 23), (.bin .neq), [.t 22, .c (.int .i64 1)], (some (20, false))⟩,
  ⟨(some 24), .pick, [.t 20, .c (.bool true), .t 23], none⟩,
  ⟨(some 25), .mv, [.t 24], none⟩,
  ⟨(some 26), (.fld 1), [.t 3], (some (25, false))⟩,
  ⟨(some 27), (.load 1 false), [.t 26], (some (25, false))⟩,
  ⟨(some 28), (.bin .lss), [.t 27, .c (.int .i64 0)], (some (25, false))⟩,
  ⟨(some 29), .pick, [.t 25, .c (.bool true), .t 28], none⟩,
  ⟨(some 30), .mv, [.t 29], none⟩,
  ⟨(some 31), (.fld 1), [.t 3], (some (30, false))⟩,
  ⟨(some 32), (.load 1 false), [.t 31], (some (30, false))⟩,
  ⟨(some 33), (.fld 11), [.t 2], (some (30, false))⟩,
  ⟨(some 34), (.load 1 false), [.t 33], (some (30, false))⟩,
  ⟨(some 35), .len, [.t 34], (some (30, false))⟩,
  ⟨(some 36), (.bin .geq), [.t 32, .t 35], (some (30, false))⟩,
  ⟨(some 37), .pick, [.t 30, .c (.bool true), .t 36], none⟩])
 (.cond (.t 37) (.seq (.reg [⟨(some 38), (.load 15 true), [.t 2], none⟩,
  ⟨none, (.store 15), [.t 4, .t 38], none⟩,
  ⟨(some 5), .mv, [.c (.bool false)], none⟩])
 .ret) .skip))
 (.seq (.reg [⟨(some 39), (.fld 11), [.t 2], none⟩,
  ⟨(some 40), (.load 1 false), [.t 39], none⟩,
  ⟨(some 41), (.app 1 1), [.c (.sl .bool [] true), .t 40], none⟩,
  ⟨(some 42), (.fld 11), [.t 2], none⟩,
  ⟨none, (.store 1), [.t 42, .t 41], none⟩])
 (.seq (.reg [⟨(some 43), (.fld 11), [.t 2], none⟩,
  ⟨(some 44), (.load 1 false), [.t 43], none⟩,
  ⟨(some 45), (.fld 1), [.t 3], none⟩,
  ⟨(some 46), (.load 1 false), [.t 45], none⟩,
  ⟨(some 47), (.idx 1), [.t 44, .t 46], none⟩,
  ⟨none, (.store 1), [.t 47, .c (.bool true)], none⟩])
 (.seq (.regd [⟨(some 48), (.load 15 true), [.t 2], none⟩,
  ⟨(some 49), (.fld 11), [.t 2], none⟩,
  ⟨(some 50), (.load 1 false), [.t 49], none⟩,
  ⟨(some 51), (.call 95), [.t 50, .c (.clo 96 [])], none⟩,
  ⟨(some 52), (.load 15 true), [.t 2], none⟩,
  ⟨(some 53), (.call 44), [.t 52], none⟩,
  ⟨(some 54), (.bin .geq), [.t 51, .t 53], none⟩,
  ⟨none, (.store 15), [.t 4, .t 48], none⟩,
  ⟨(some 5), .mv, [.t 54], none⟩] [0, 0, 2, 4, 0, 24, 40, 33, 255])
 .ret))))))
theorem comp40 : compC Go.Proofs.Try.prog ttL 55 [] (match Go.Proofs.Try.f40.body with | some b => b | none => .skip) = some (c40) := by kernel_rfl
def c95 : C := (.seq (.reg [⟨(some 4), .mv, [.c (.int .i64 0)], none⟩])
 (.seq (.reg [⟨(some 5), .mv, [.c (.int .i64 0)], none⟩])
 (.seq (.seq (.reg [⟨(some 8), .mv, [.t 0], none⟩,
  ⟨(some 9), .len, [.t 8], none⟩,
  ⟨(some 10), .mv, [.c (.int .i64 0)], none⟩])
 (.block 0 (.loop (.seq (.reg [⟨(some 11), (.bin .lss), [.t 10, .t 9], none⟩])
 (.seq (.cond (.t 11) .skip (.exit 0))
 (.seq (.block 1 (.seq (.reg [⟨(some 12), (.idx 1), [.t 8, .t 10], none⟩,
  ⟨(some 13), (.load 1 false), [.t 12], none⟩,
  ⟨(some 7), .mv, [.t 13], none⟩])
 (.seq (.reg [⟨(some 14), .mv, [.t 1], none⟩,
  ⟨(some 15), .mv, [.t 7], none⟩,
  ⟨(some 16), .callv, [.t 14, .t 15], none⟩])
 (.cond (.t 16) (.reg [⟨(some 17), .mv, [.t 5], none⟩,
  ⟨(some 18), (.bin .add), [.t 17, .c (.int .i64 1)], none⟩,
  ⟨(some 5), .mv, [.t 18], none⟩]) .skip))))
 (.reg [⟨(some 19), (.bin .add), [.t 10, .c (.int .i64 1)], none⟩,
  ⟨(some 10), .mv, [.t 19], none⟩])))))))
 (.seq (.reg [⟨(some 20), .mv, [.t 5], none⟩,
  ⟨(some 4), .mv, [.t 20], none⟩])
 .ret))))
theorem comp95 : compC Go.Proofs.Try.prog ttL 21 [] (match Go.Proofs.Try.f95.body with | some b => b | none => .skip) = some (c95) := by kernel_rfl
def c96 : C := (.seq (.reg [⟨(some 2), .mv, [.c (.bool false)], none⟩])
 (.seq (.reg [⟨(some 3), .mv, [.t 0], none⟩,
  ⟨(some 2), .mv, [.t 3], none⟩])
 .ret))
theorem comp96 : compC Go.Proofs.Try.prog ttL 4 [] (match Go.Proofs.Try.f96.body with | some b => b | none => .skip) = some (c96) := by kernel_rfl
end Go.AM
