import Derived.Test.YtbcbgfkojmligaaHC
import Derived.KernelRfl
import Derived.Test.YtbcbgfkojmligaaProg
/- What functions of the program answer, each under the conditions that its contract names. -/
set_option linter.unusedVariables false
set_option linter.unusedSimpArgs false
set_option maxRecDepth 100000
namespace Go.AM
def c8 : C := (.seq (.reg [⟨(some 4), .mv, [.c (.bool false)], none⟩])
 (.seq (.reg [⟨(some 16), .mv, [.t 0], none⟩,
  ⟨(some 17), (.call 23), [.t 16, .c (.int .i64 5)], none⟩,
  ⟨(some 18), (.bin .add), [.c (.int .i64 1), .t 17], none⟩,
  ⟨(some 5), .mv, [.t 18], none⟩])
 (.seq (.reg [⟨(some 20), .mv, [.t 5], none⟩,
  ⟨(some 21), (.call 31), [.c (.int .i64 0), .t 20], none⟩,
  ⟨(some 22), (.call 27), [.t 21], none⟩,
  ⟨(some 19), .mv, [.t 22], none⟩,
  ⟨(some 23), (.ext 0), [.t 19], none⟩,
  ⟨(some 24), (.ext 1), [.t 19], none⟩,
  ⟨(some 6), (.alloc [.int .i64 0, .int .i64 0, .int .i64 0, .int .i64 0, .int .i64 0, .int .i64 0, .str ⟨#[]⟩, .sl tEntry [] true, .int .i64 0, .int .i64 0, .int .i64 0, .sl .bool [] true, .sl tI [] true, .sl tI [] true, .int .i64 0]), [], none⟩,
  ⟨none, (.store 15), [.t 6, .t 23], none⟩,
  ⟨(some 7), .mv, [.t 24], none⟩])
 (.seq (.seq (.reg [⟨(some 25), .mv, [.t 7], none⟩,
  ⟨(some 26), .len, [.t 25], none⟩,
  ⟨(some 27), .mv, [.t 5], none⟩,
  ⟨(some 28), (.bin .sub), [.t 27, .c (.int .i64 1)], none⟩,
  ⟨(some 29), (.bin .neq), [.t 26, .t 28], none⟩,
  ⟨(some 30), .mv, [.t 29], none⟩,
  ⟨(some 31), (.load 15 true), [.t 6], (some (30, false))⟩,
  ⟨(some 32), (.call 44), [.t 31], (some (30, false))⟩,
  ⟨(some 33), .mv, [.t 5], (some (30, false))⟩,
  ⟨(some 34), (.bin .quo), [.t 33, .c (.int .i64 2)], (some (30, false))⟩,
  ⟨(some 35), (.bin .add), [.t 34, .c (.int .i64 1)], (some (30, false))⟩,
  ⟨(some 36), (.bin .neq), [.t 32, .t 35], (some (30, false))⟩,
  ⟨(some 37), .pick, [.t 30, .c (.bool true), .t 36], none⟩])
 (.cond (.t 37) (.seq (.reg [⟨(some 4), .mv, [.c (.bool false)], none⟩])
 .ret) .skip))
 (.seq (.reg [⟨(some 8), (.allocA .bool 5), [], none⟩])
 (.seq (.reg [⟨(some 38), (.aidx 1 5), [.t 8, .c (.int .i64 0)], none⟩,
  ⟨none, (.store 1), [.t 38, .c (.bool true)], none⟩])
 (.seq (.seq (.reg [⟨(some 9), .mv, [.c (.int .i64 0)], none⟩])
 (.block 0 (.loop (.seq (.seq (.reg [⟨(some 39), .mv, [.t 9], none⟩,
  ⟨(some 40), .mv, [.t 1], none⟩,
  ⟨(some 41), .len, [.t 40], none⟩,
  ⟨(some 42), (.bin .lss), [.t 39, .t 41], none⟩,
  ⟨(some 43), .mv, [.t 42], none⟩,
  ⟨(some 44), .mv, [.t 9], (some (43, true))⟩,
  ⟨(some 45), (.bin .lss), [.t 44, .c (.int .i64 30)], (some (43, true))⟩,
  ⟨(some 46), .pick, [.t 43, .t 45, .c (.bool false)], none⟩])
 (.cond (.t 46) .skip (.exit 0)))
 (.seq (.block 1 (.seq (.reg [⟨(some 49), .mv, [.t 1], none⟩,
  ⟨(some 50), .mv, [.t 9], none⟩,
  ⟨(some 51), (.idx 1), [.t 49, .t 50], none⟩,
  ⟨(some 52), (.load 1 false), [.t 51], none⟩,
  ⟨(some 53), (.call 23), [.t 52, .c (.int .i64 5)], none⟩,
  ⟨(some 10), .mv, [.t 53], none⟩])
 (.seq (.seq (.reg [⟨(some 54), .mv, [.t 10], none⟩,
  ⟨(some 55), (.bin .eql), [.t 54, .c (.int .i64 0)], none⟩,
  ⟨(some 56), .mv, [.t 55], none⟩,
  ⟨(some 57), .mv, [.t 10], (some (56, false))⟩,
  ⟨(some 58), .mv, [.t 5], (some (56, false))⟩,
  ⟨(some 59), (.bin .geq), [.t 57, .t 58], (some (56, false))⟩,
  ⟨(some 60), .pick, [.t 56, .c (.bool true), .t 59], none⟩])
 (.cond (.t 60) (.exit 1) .skip))
 (.seq (.regd [⟨(some 61), .mv, [.t 10], none⟩,
  ⟨(some 62), (.fld 2), [.t 6], none⟩,
  ⟨(some 63), (.load 1 false), [.t 62], none⟩,
  ⟨(some 64), .mv, [.t 1], none⟩,
  ⟨(some 65), .mv, [.t 9], none⟩,
  ⟨(some 66), (.idx 1), [.t 64, .t 65], none⟩,
  ⟨(some 67), (.load 1 false), [.t 66], none⟩,
  ⟨(some 68), (.bin .quo), [.t 67, .c (.int .i64 5)], none⟩,
  ⟨(some 69), (.call 23), [.t 68, .c (.int .i64 2)], none⟩,
  ⟨(some 70), (.bin .sub), [.t 63, .t 69], none⟩,
  ⟨(some 71), .mv, [.t 1], none⟩,
  ⟨(some 72), .mv, [.t 9], none⟩,
  ⟨(some 73), (.idx 1), [.t 71, .t 72], none⟩,
  ⟨(some 74), (.load 1 false), [.t 73], none⟩,
  ⟨(some 75), (.bin .quo), [.t 74, .c (.int .i64 10)], none⟩,
  ⟨(some 76), (.call 23), [.t 75, .c (.int .i64 3)], none⟩,
  ⟨(some 77), (.bin .gtr), [.t 76, .c (.int .i64 0)], none⟩,
  ⟨(some 78), (.build [.int .i64 0, .int .i64 0, .int .i64 0, .int .i64 0, .int .i64 0, .int .i64 0, .bool false, .int .i64 0, .sl tEntry [] true, .str ⟨#[]⟩] [(0, 1), (1, 1), (2, 1), (3, 1), (6, 1)]), [.c (.int .i64 2), .t 61, .c (.int .i64 0), .t 70, .t 77], none⟩,
  ⟨(some 11), (.alloc [.int .i64 0, .int .i64 0, .int .i64 0, .int .i64 0, .int .i64 0, .int .i64 0, .bool false, .int .i64 0, .sl tEntry [] true, .str ⟨#[]⟩]), [], none⟩,
  ⟨none, (.store 10), [.t 11, .t 78], none⟩] [0, 0, 2, 0, 0, 24, 32, 64, 128, 260, 0, 0, 3072, 4096, 8192, 16640, 32768, 66049, 0, 524287])
 (.seq (.reg [⟨(some 80), (.load 15 true), [.t 6], none⟩,
  ⟨(some 81), (.load 10 true), [.t 11], none⟩,
  ⟨(some 82), (.call 40), [.t 80, .t 81], none⟩,
  ⟨(some 79), .mv, [.t 82], none⟩,
  ⟨(some 83), (.ext 0), [.t 79], none⟩,
  ⟨(some 84), (.ext 1), [.t 79], none⟩,
  ⟨(some 12), (.alloc [.int .i64 0, .int .i64 0, .int .i64 0, .int .i64 0, .int .i64 0, .int .i64 0, .str ⟨#[]⟩, .sl tEntry [] true, .int .i64 0, .int .i64 0, .int .i64 0, .sl .bool [] true, .sl tI [] true, .sl tI [] true, .int .i64 0]), [], none⟩,
  ⟨none, (.store 15), [.t 12, .t 83], none⟩,
  ⟨(some 13), .mv, [.t 84], none⟩])
 (.seq (.seq (.reg [⟨(some 85), (.fld 3), [.t 11], none⟩,
  ⟨(some 86), (.load 1 false), [.t 85], none⟩,
  ⟨(some 87), (.fld 2), [.t 6], none⟩,
  ⟨(some 88), (.load 1 false), [.t 87], none⟩,
  ⟨(some 89), (.bin .eql), [.t 86, .t 88], none⟩,
  ⟨(some 90), .mv, [.t 89], none⟩,
  ⟨(some 91), (.fld 6), [.t 11], (some (90, true))⟩,
  ⟨(some 92), (.load 1 false), [.t 91], (some (90, true))⟩,
  ⟨(some 93), .pick, [.t 90, .t 92, .c (.bool false)], none⟩])
 (.cond (.t 93) (.reg [⟨(some 94), .mv, [.t 10], none⟩,
  ⟨(some 95), (.aidx 1 5), [.t 8, .t 94], none⟩,
  ⟨none, (.store 1), [.t 95, .c (.bool true)], none⟩]) .skip))
 (.seq (.reg [⟨(some 14), .mv, [.c (.int .i64 0)], none⟩])
 (.seq (.seq (.reg [⟨(some 15), .mv, [.c (.int .i64 0)], none⟩])
 (.block 2 (.loop (.seq (.seq (.reg [⟨(some 96), .mv, [.t 15], none⟩,
  ⟨(some 97), (.bin .lss), [.t 96, .c (.int .i64 5)], none⟩])
 (.cond (.t 97) .skip (.exit 2)))
 (.seq (.block 3 (.seq (.reg [⟨(some 100), .mv, [.t 15], none⟩,
  ⟨(some 101), (.aidx 1 5), [.t 8, .t 100], none⟩,
  ⟨(some 102), (.load 1 false), [.t 101], none⟩])
 (.cond (.t 102) (.reg [⟨(some 103), .mv, [.t 14], none⟩,
  ⟨(some 104), (.bin .add), [.t 103, .c (.int .i64 1)], none⟩,
  ⟨(some 14), .mv, [.t 104], none⟩]) .skip)))
 (.reg [⟨(some 98), .mv, [.t 15], none⟩,
  ⟨(some 99), (.bin .add), [.t 98, .c (.int .i64 1)], none⟩,
  ⟨(some 15), .mv, [.t 99], none⟩]))))))
 (.seq (.seq (.reg [⟨(some 105), .mv, [.t 13], none⟩,
  ⟨(some 106), (.fld 3), [.t 11], none⟩,
  ⟨(some 107), (.load 1 false), [.t 106], none⟩,
  ⟨(some 108), (.fld 2), [.t 6], none⟩,
  ⟨(some 109), (.load 1 false), [.t 108], none⟩,
  ⟨(some 110), (.bin .eql), [.t 107, .t 109], none⟩,
  ⟨(some 111), .mv, [.t 110], none⟩,
  ⟨(some 112), (.fld 6), [.t 11], (some (111, true))⟩,
  ⟨(some 113), (.load 1 false), [.t 112], (some (111, true))⟩,
  ⟨(some 114), .pick, [.t 111, .t 113, .c (.bool false)], none⟩,
  ⟨(some 115), .mv, [.t 114], none⟩,
  ⟨(some 116), .mv, [.t 14], (some (115, true))⟩,
  ⟨(some 117), .mv, [.t 5], (some (115, true))⟩,
  ⟨(some 118), (.bin .quo), [.t 117, .c (.int .i64 2)], (some (115, true))⟩,
  ⟨(some 119), (.bin .add), [.t 118, .c (.int .i64 1)], (some (115, true))⟩,
  ⟨(some 120), (.bin .geq), [.t 116, .t 119], (some (115, true))⟩,
  ⟨(some 121), .pick, [.t 115, .t 120, .c (.bool false)], none⟩,
  ⟨(some 122), (.binb .neq), [.t 105, .t 121], none⟩,
  ⟨(some 123), .mv, [.t 122], none⟩,
  ⟨(some 124), (.fld 2), [.t 12], (some (123, false))⟩,
  ⟨(some 125), (.load 1 false), [.t 124], (some (123, false))⟩,
  ⟨(some 126), (.fld 2), [.t 6], (some (123, false))⟩,
  ⟨(some 127), (.load 1 false), [.t 126], (some (123, false))⟩,
  ⟨(some 128), (.bin .neq), [.t 125, .t 127], (some (123, false))⟩,
  ⟨(some 129), .pick, [.t 123, .c (.bool true), .t 128], none⟩,
  ⟨(some 130), .mv, [.t 129], none⟩,
  ⟨(some 131), (.fld 8), [.t 12], (some (130, false))⟩,
  ⟨(some 132), (.load 1 false), [.t 131], (some (130, false))⟩,
  ⟨(some 133), (.bin .neq), [.t 132, .c (.int .i64 1)], (some (130, false))⟩,
  ⟨(some 134), .pick, [.t 130, .c (.bool true), .t 133], none⟩])
 (.cond (.t 134) (.seq (.reg [⟨(some 4), .mv, [.c (.bool false)], none⟩])
 .ret) .skip))
 (.reg [⟨(some 135), (.load 15 true), [.t 12], none⟩,
  ⟨none, (.store 15), [.t 6, .t 135], none⟩]))))))))))
 (.reg [⟨(some 47), .mv, [.t 9], none⟩,
  ⟨(some 48), (.bin .add), [.t 47, .c (.int .i64 1)], none⟩,
  ⟨(some 9), .mv, [.t 48], none⟩]))))))
 (.seq (.reg [⟨(some 136), (.call 26), [], none⟩,
  ⟨(some 4), .mv, [.t 136], none⟩])
 .ret))))))))
theorem comp8 : compC Go.Proofs.Try.prog ttL 137 [8] (match Go.Proofs.Try.f8.body with | some b => b | none => .skip) = some (c8) := by kernel_rfl
def c40 : C := (.seq (.reg [⟨(some 2), .box, [.t 0], none⟩,
  ⟨(some 3), .box, [.t 1], none⟩,
  ⟨(some 4), (.alloc [.int .i64 0, .int .i64 0, .int .i64 0, .int .i64 0, .int .i64 0, .int .i64 0, .str ⟨#[]⟩, .sl tEntry [] true, .int .i64 0, .int .i64 0, .int .i64 0, .sl .bool [] true, .sl tI [] true, .sl tI [] true, .int .i64 0]), [], none⟩,
  ⟨(some 5), .mv, [.c (.bool false)], none⟩])
 (.seq (.reg [⟨(some 6), (.load 15 true), [.t 2], none⟩,
  ⟨(some 7), (.fld 3), [.t 3], none⟩,
  ⟨(some 8), (.load 1 false), [.t 7], none⟩,
  ⟨(some 9), (.call 32), [.t 6, .t 8], none⟩,
  ⟨none, (.store 15), [.t 2, .t 9], none⟩])
 (.seq (.seq (.reg [⟨(some 10), (.fld 6), [.t 3], none⟩,
  ⟨(some 11), (.load 1 false), [.t 10], none⟩,
  ⟨(some 12), .not, [.t 11], none⟩,
  ⟨(some 13), .mv, [.t 12], none⟩,
  ⟨(some 14), (.fld 3), [.t 3], (some (13, false))⟩,
  ⟨(some 15), (.load 1 false), [.t 14], (some (13, false))⟩,
  ⟨(some 16), (.fld 2), [.t 2], (some (13, false))⟩,
  ⟨(some 17), (.load 1 false), [.t 16], (some (13, false))⟩,
  ⟨(some 18), (.bin .neq), [.t 15, .t 17], (some (13, false))⟩,
  ⟨(some 19), .pick, [.t 13, .c (.bool true), .t 18], none⟩,
  ⟨(some 20), .mv, [.t 19], none⟩,
  ⟨(some 21), (.fld 8), [.t 2], (some (20, false))⟩,
  ⟨(some 22), (.load 1 false), [.t 21], (some (20, false))⟩,
  ⟨(some 23), (.bin .neq), [.t 22, .c (.int .i64 1)], (some (20, false))⟩,
  ⟨(some 24), .pick, [.t 20, .c (.bool true), .t 23], none⟩,
  ⟨(some 25), .mv, [.t 24], none⟩,
  ⟨(some 26), (.fld 1), [.t 3], (some (25, false))⟩,
  ⟨(some 27), (.load 1 false), [.t 26], (some (25, false))⟩,
  ⟨(some 28), (.bin .lss), [.t 27, .c (.int .i64 0)], (some (25, false))⟩,
  ⟨(some 29), .pick, [.t 25, .c (.bool true), .t 28], none⟩,
  ⟨(some 30), .mv, [.t 29], none⟩,
  ⟨(some 31), (.fld 1), [.t 3], (some (30, false))⟩,
  ⟨(some 32), (.load 1 false), [.t 31], (some (30, false))⟩,
  ⟨(some 33), (.fld 11), [.t 2], (some (30, false))⟩,
  ⟨(some 34), (.load 1 false), [.t 33], (some (30, false))⟩,
  ⟨(some 35), .len, [.t 34], (some (30, false))⟩,
  ⟨(some 36), (.bin .geq), [.t 32, .t 35], (some (30, false))⟩,
  ⟨(some 37), .pick, [.t 30, .c (.bool true), .t 36], none⟩])
 (.cond (.t 37) (.seq (.reg [⟨(some 38), (.load 15 true), [.t 2], none⟩,
  ⟨none, (.store 15), [.t 4, .t 38], none⟩,
  ⟨(some 5), .mv, [.c (.bool false)], none⟩])
 .ret) .skip))
 (.seq (.reg [⟨(some 39), (.fld 11), [.t 2], none⟩,
  ⟨(some 40), (.load 1 false), [.t 39], none⟩,
  ⟨(some 41), (.app 1 1), [.c (.sl .bool [] true), .t 40], none⟩,
  ⟨(some 42), (.fld 11), [.t 2], none⟩,
  ⟨none, (.store 1), [.t 42, .t 41], none⟩])
 (.seq (.reg [⟨(some 43), (.fld 11), [.t 2], none⟩,
  ⟨(some 44), (.load 1 false), [.t 43], none⟩,
  ⟨(some 45), (.fld 1), [.t 3], none⟩,
  ⟨(some 46), (.load 1 false), [.t 45], none⟩,
  ⟨(some 47), (.idx 1), [.t 44, .t 46], none⟩,
  ⟨none, (.store 1), [.t 47, .c (.bool true)], none⟩])
 (.seq (.regd [⟨(some 48), (.load 15 true), [.t 2], none⟩,
  ⟨(some 49), (.fld 11), [.t 2], none⟩,
  ⟨(some 50), (.load 1 false), [.t 49], none⟩,
  ⟨(some 51), (.call 95), [.t 50, .c (.clo 96 [])], none⟩,
  ⟨(some 52), (.load 15 true), [.t 2], none⟩,
  ⟨(some 53), (.call 44), [.t 52], none⟩,
  ⟨(some 54), (.bin .geq), [.t 51, .t 53], none⟩,
  ⟨none, (.store 15), [.t 4, .t 48], none⟩,
  ⟨(some 5), .mv, [.t 54], none⟩] [0, 0, 2, 4, 0, 24, 40, 33, 255])
 .ret))))))
theorem comp40 : compC Go.Proofs.Try.prog ttL 55 [] (match Go.Proofs.Try.f40.body with | some b => b | none => .skip) = some (c40) := by kernel_rfl
def c95 : C := (.seq (.reg [⟨(some 4), .mv, [.c (.int .i64 0)], none⟩])
 (.seq (.reg [⟨(some 5), .mv, [.c (.int .i64 0)], none⟩])
 (.seq (.seq (.reg [⟨(some 8), .mv, [.t 0], none⟩,
  ⟨(some 9), .len, [.t 8], none⟩,
  ⟨(some 10), .mv, [.c (.int .i64 0)], none⟩])
 (.block 0 (.loop (.seq (.reg [⟨(some 11), (.bin .lss), [.t 10, .t 9], none⟩])
 (.seq (.cond (.t 11) .skip (.exit 0))
 (.seq (.block 1 (.seq (.reg [⟨(some 12), (.idx 1), [.t 8, .t 10], none⟩,
  ⟨(some 13), (.load 1 false), [.t 12], none⟩,
  ⟨(some 7), .mv, [.t 13], none⟩])
 (.seq (.reg [⟨(some 14), .mv, [.t 1], none⟩,
  ⟨(some 15), .mv, [.t 7], none⟩,
  ⟨(some 16), .callv, [.t 14, .t 15], none⟩])
 (.cond (.t 16) (.reg [⟨(some 17), .mv, [.t 5], none⟩,
  ⟨(some 18), (.bin .add), [.t 17, .c (.int .i64 1)], none⟩,
  ⟨(some 5), .mv, [.t 18], none⟩]) .skip))))
 (.reg [⟨(some 19), (.bin .add), [.t 10, .c (.int .i64 1)], none⟩,
  ⟨(some 10), .mv, [.t 19], none⟩])))))))
 (.seq (.reg [⟨(some 20), .mv, [.t 5], none⟩,
  ⟨(some 4), .mv, [.t 20], none⟩])
 .ret))))
theorem comp95 : compC Go.Proofs.Try.prog ttL 21 [] (match Go.Proofs.Try.f95.body with | some b => b | none => .skip) = some (c95) := by kernel_rfl
def c96 : C := (.seq (.reg [⟨(some 2), .mv, [.c (.bool false)], none⟩])
 (.seq (.reg [⟨(some 3), .mv, [.t 0], none⟩,
  ⟨(some 2), .mv, [.t 3], none⟩])
 .ret))
theorem comp96 : compC Go.Proofs.Try.prog ttL 4 [] (match Go.Proofs.Try.f96.body with | some b => b | none => .skip) = some (c96) := by kernel_rfl
end Go.AM
set_option maxRecDepth 100000
set_option maxHeartbeats 4000000
set_option linter.unusedSimpArgs false
namespace Go.AM
open Go.Proofs
attribute [local congr] vc_congr evOps_congr evTab_congr bind_congr condK_congr tabK_congr
@[go_sem] theorem dropTy_unit {b} : dropTy .unit b = some b := by cases b <;> rfl
@[go_sem] theorem dropTy_pair {t a b} : dropTy (.pair t a) (.pair t b) = dropTy a b := by simp [dropTy]
@[go_sem] theorem toArgs0_nil {H : Heap} : toArgs0 H .unit [] = some () := rfl
def opt2 {α β γ : Type} (f : α → β → γ) : Option α → Option β → Option γ
  | some x, some y => some (f x y)
  | _, _ => none
@[go_sem] theorem opt2_some {α β γ : Type} {f : α → β → γ} {x : α} {y : β} : opt2 f (some x) (some y) = some (f x y) := rfl
@[go_sem] theorem toArgs0_cons {H : Heap} {t b v vs} : toArgs0 H (.pair t b) (v :: vs) = opt2 (pr (a := t) (b := b)) (toV H t v) (toArgs0 H b vs) := by
  simp only [toArgs0]
  cases toV H t v with
  | none => rfl
  | some x => cases toArgs0 H b vs <;> rfl
@[go_sem] theorem fnAs_bool {pre f y bk bf} : fnAs (.pair .bool .unit) (.pair .bool .unit) ⟨.pair .bool .unit, .pair .bool .unit, pre, f, true, none, bk, bf⟩ .unit y = some fun x => f (x.1, ()) := by
  unfold fnAs
  rw [dif_pos ⟨rfl, rfl, rfl, rfl, rfl, rfl, rfl⟩]
  rfl
def fn96 : Fn := { a := .pair .bool .unit, r := .pair .bool .unit, pre := fun _ => True, f := fun x => (x.1, ()), tot := true }
theorem h96 : Holds Try.prog 96 fn96 := by
  refine Holds.of_vc (T := []) (TT := ttL) (rowAt := []) (c := c96) (ros := [.t 2]) (.nil _) mixed Try.func96 (by decide +kernel) (by rfl) comp96 (by kernel_rfl) rfl rfl (fun _ _ => trivial) ?_
  rintro ⟨(b : Bool), _⟩ hpre
  simp only [fn96] at hpre ⊢
  simp only [c96, go_sem, reduceIte, Nat.reduceBEq, Nat.reduceMul, reduceCtorEq, Nat.reduceAdd, Nat.reduceEqDiff, decide_eq_true_eq, decide_eq_false_iff_not, Bool.not_eq_true', Bool.not_eq_false', Bool.and_eq_true, Bool.or_eq_true, Bool.and_eq_false_iff, Bool.or_eq_false_iff, Bool.cond_true_left, Bool.cond_false_right, Bool.cond_true_right, Bool.cond_false_left, Bool.or_false, Bool.and_true]
def countB (l : List Bool) (p : Bool → Bool) (i : Nat) : Nat := (l.take i).countP p
theorem countB_le (l : List Bool) (p : Bool → Bool) (i : Nat) : countB l p i ≤ l.length := by
  unfold countB
  have := List.countP_le_length (p := p) (l := l.take i)
  rw [List.length_take] at this
  omega
theorem countB_yes {l : List Bool} {p : Bool → Bool} {i : Nat} (h : i < l.length) (hp : p (l.getD i false) = true) : countB l p (i + 1) = countB l p i + 1 := by
  unfold countB
  rw [List.getD_eq_getElem?_getD, List.getElem?_eq_getElem h] at hp
  rw [List.take_add_one, List.countP_append, List.getElem?_eq_getElem h]
  simp only [Option.getD_some] at hp
  simp [hp]
theorem countB_no {l : List Bool} {p : Bool → Bool} {i : Nat} (h : i < l.length) (hp : p (l.getD i false) = false) : countB l p (i + 1) = countB l p i := by
  unfold countB
  rw [List.getD_eq_getElem?_getD, List.getElem?_eq_getElem h] at hp
  rw [List.take_add_one, List.countP_append, List.getElem?_eq_getElem h]
  simp only [Option.getD_some] at hp
  simp [hp]
def fn95 : Fn := { a := .pair (.list .bool) (.pair (.fn (.pair .bool .unit) (.pair .bool .unit)) .unit), r := .pair tI .unit, pre := fun x => smallL x.1, f := fun x => ((countB x.1 (fun b => (x.2.1 (b, ())).1) x.1.length : Int), ()) }
theorem h95  : Holds Try.prog 95 (fn95) := by
  refine Holds.of_vc (T := []) (TT := ttL) (rowAt := []) (c := c95) (ros := [.t 4]) (.nil _) mixed Try.func95 (by decide +kernel) (by rfl) comp95 (by kernel_rfl) rfl rfl (fun h => by cases h) ?_
  rintro ⟨(l : List Bool), (p : Bool × Unit → Bool × Unit), _⟩ hpre
  simp only [fn95] at hpre ⊢
  simp only [c95, go_sem, reduceIte, Nat.reduceBEq, Nat.reduceMul, reduceCtorEq, Nat.reduceAdd, Nat.reduceEqDiff, decide_eq_true_eq, decide_eq_false_iff_not, Bool.not_eq_true', Bool.not_eq_false', Bool.and_eq_true, Bool.or_eq_true, Bool.and_eq_false_iff, Bool.or_eq_false_iff, Bool.cond_true_left, Bool.cond_false_right, Bool.cond_true_right, Bool.cond_false_left, Bool.or_false, Bool.and_true, inR]
  refine loop_rule (β := Nat) (fun i => ⟨[(1, .fv (.pair .bool .unit) (.pair .bool .unit) p), (5, .int .i64 (countB l (fun b => (p (b, ())).1) i)), (8, .sl .bool l false), (9, .int .i64 l.length), (10, .int .i64 i)], []⟩) (fun i => i ≤ l.length) (fun i => l.length - i) 0 ?_ ?_ ?_
  · refine Ent_of [] rfl ?_ ?_
    · simp only [go_sem, reduceIte, Nat.reduceBEq, Nat.reduceMul, reduceCtorEq, Nat.reduceAdd, Nat.reduceEqDiff, decide_eq_true_eq, decide_eq_false_iff_not, Bool.not_eq_true', Bool.not_eq_false', Bool.and_eq_true, Bool.or_eq_true, Bool.and_eq_false_iff, Bool.or_eq_false_iff, Bool.cond_true_left, Bool.cond_false_right, Bool.cond_true_right, Bool.cond_false_left, Bool.or_false, Bool.and_true]
    · simp only [go_sem, reduceIte, Nat.reduceBEq, Nat.reduceMul, reduceCtorEq, Nat.reduceAdd, Nat.reduceEqDiff, decide_eq_true_eq, decide_eq_false_iff_not, Bool.not_eq_true', Bool.not_eq_false', Bool.and_eq_true, Bool.or_eq_true, Bool.and_eq_false_iff, Bool.or_eq_false_iff, Bool.cond_true_left, Bool.cond_false_right, Bool.cond_true_right, Bool.cond_false_left, Bool.or_false, Bool.and_true]
      trivial
  · exact Nat.zero_le _
  intro i hi
  have hc := countB_le l (fun b => (p (b, ())).1) i
  simp only [sm] at hpre
  simp only [go_sem, reduceIte, Nat.reduceBEq, Nat.reduceMul, reduceCtorEq, Nat.reduceAdd, Nat.reduceEqDiff, decide_eq_true_eq, decide_eq_false_iff_not, Bool.not_eq_true', Bool.not_eq_false', Bool.and_eq_true, Bool.or_eq_true, Bool.and_eq_false_iff, Bool.or_eq_false_iff, Bool.cond_true_left, Bool.cond_false_right, Bool.cond_true_right, Bool.cond_false_left, Bool.or_false, Bool.and_true, inR]
  refine ⟨fun h => ⟨by omega, fun hp => ⟨by omega, by omega, Again.intro (i + 1) (Ent_of [] rfl ?_ ?_) ?_ ?_⟩, fun hp => ⟨by omega, Again.intro (i + 1) (Ent_of [] rfl ?_ ?_) ?_ ?_⟩⟩, fun h => ?_⟩
  · simp only [go_sem, reduceIte, Nat.reduceBEq, Nat.reduceMul, reduceCtorEq, Nat.reduceAdd, Nat.reduceEqDiff, decide_eq_true_eq, decide_eq_false_iff_not, Bool.not_eq_true', Bool.not_eq_false', Bool.and_eq_true, Bool.or_eq_true, Bool.and_eq_false_iff, Bool.or_eq_false_iff, Bool.cond_true_left, Bool.cond_false_right, Bool.cond_true_right, Bool.cond_false_left, Bool.or_false, Bool.and_true]
  · simp only [go_sem, reduceIte, Nat.reduceBEq, Nat.reduceMul, reduceCtorEq, Nat.reduceAdd, Nat.reduceEqDiff, decide_eq_true_eq, decide_eq_false_iff_not, Bool.not_eq_true', Bool.not_eq_false', Bool.and_eq_true, Bool.or_eq_true, Bool.and_eq_false_iff, Bool.or_eq_false_iff, Bool.cond_true_left, Bool.cond_false_right, Bool.cond_true_right, Bool.cond_false_left, Bool.or_false, Bool.and_true]
    rw [countB_yes (by omega) hp]
    omega
  · show i + 1 ≤ l.length; omega
  · show l.length - (i + 1) < l.length - i; omega
  · simp only [go_sem, reduceIte, Nat.reduceBEq, Nat.reduceMul, reduceCtorEq, Nat.reduceAdd, Nat.reduceEqDiff, decide_eq_true_eq, decide_eq_false_iff_not, Bool.not_eq_true', Bool.not_eq_false', Bool.and_eq_true, Bool.or_eq_true, Bool.and_eq_false_iff, Bool.or_eq_false_iff, Bool.cond_true_left, Bool.cond_false_right, Bool.cond_true_right, Bool.cond_false_left, Bool.or_false, Bool.and_true]
  · simp only [go_sem, reduceIte, Nat.reduceBEq, Nat.reduceMul, reduceCtorEq, Nat.reduceAdd, Nat.reduceEqDiff, decide_eq_true_eq, decide_eq_false_iff_not, Bool.not_eq_true', Bool.not_eq_false', Bool.and_eq_true, Bool.or_eq_true, Bool.and_eq_false_iff, Bool.or_eq_false_iff, Bool.cond_true_left, Bool.cond_false_right, Bool.cond_true_right, Bool.cond_false_left, Bool.or_false, Bool.and_true]
    rw [countB_no (by omega) hp]
    omega
  · show i + 1 ≤ l.length; omega
  · show l.length - (i + 1) < l.length - i; omega
  · rw [show i = l.length by omega]
def givenC (d : Node) (m : Msg) : Prop := mYes m = true ∧ mTerm m = nTerm d ∧ nRole d = 1 ∧ 0 ≤ mFrom m ∧ mFrom m < (nVotes d).length
instance (d : Node) (m : Msg) : Decidable (givenC d m) := inferInstanceAs (Decidable (_ ∧ _))
def given1' (d : Node) (m : Msg) : Node := if givenC d m then mkN (nId d) (nNodes d) (nTerm d) (nVote d) (nBase d) (nBT d) (nSnap d) (nLog d) (nRole d) (nLead d) (nCommit d) ((nVotes d).set (mFrom m).toNat true) (nNext d) (nMatch d) (nClock d) else d
def cnt (l : List Bool) : Nat := countB l id l.length
def given2' (d : Node) (m : Msg) : Bool := if givenC d m then decide (most d ≤ cnt ((nVotes d).set (mFrom m).toNat true)) else false
def given1 (n : Node) (m : Msg) : Node := given1' (down n (mTerm m)) m
def given2 (n : Node) (m : Msg) : Bool := given2' (down n (mTerm m)) m
theorem down_votes (n : Node) (t : Int) : (nVotes (down n t)).length ≤ max (nVotes n).length 5 := by
  unfold down; split
  · show (votes n).length ≤ _
    rw [votes_len]; omega
  · omega
def fn40 : Fn := { a := .pair tNode (.pair tMsg .unit), r := .pair tNode (.pair .bool .unit), pre := fun x => 0 ≤ nNodes x.1 ∧ nNodes x.1 ≤ 100 ∧ smallL (nVotes x.1), f := fun x => (given1 x.1 x.2.1, given2 x.1 x.2.1, ()) }
theorem h40  : Holds Try.prog 40 (fn40) := by
  refine Holds.of_vc (T := [(32, fn32), (95, fn95), (96, fn96), (44, fn44)]) (TT := ttL) (rowAt := []) (c := c40) (ros := [.c 4 15, .t 5]) (.cons _ h32 (.cons _ h95 (.cons _ h96 (.cons _ h44 (.nil _))))) mixed Try.func40 (by decide +kernel) (by rfl) comp40 (by kernel_rfl) rfl rfl (fun h => by cases h) ?_
  rintro ⟨(n : Node), (m : Msg), _⟩ hpre
  simp only [fn40] at hpre ⊢
  simp only [c40, fn32, fn95, fn96, fn44, go_sem, reduceIte, Nat.reduceBEq, Nat.reduceMul, reduceCtorEq, Nat.reduceAdd, Nat.reduceEqDiff, decide_eq_true_eq, decide_eq_false_iff_not, Bool.not_eq_true', Bool.not_eq_false', Bool.and_eq_true, Bool.or_eq_true, Bool.and_eq_false_iff, Bool.or_eq_false_iff, Bool.cond_true_left, Bool.cond_false_right, Bool.cond_true_right, Bool.cond_false_left, Bool.or_false, Bool.and_true, inR]
  simp only [given1, given2]
  have hv := down_votes n (mTerm m)
  have hn := down_nodes n (mTerm m)
  generalize hd : down n m.2.2.2.1 = d at *
  have hp1 : 0 ≤ nNodes d ∧ nNodes d ≤ 100 := by rw [hn]; exact ⟨hpre.1, hpre.2.1⟩
  have hp2 : (nVotes d).length ≤ 1048576 := by have := hpre.2.2; rw [sm] at this; omega
  refine ⟨fun h => ?_, fun h => ?_⟩
  · have hc : ¬ givenC d m := by
      rintro ⟨c1, c2, c3, c4, c5⟩
      rcases h with (((h | h) | h) | h) | h
      · rw [show m.2.2.2.2.2.2.1 = true from c1] at h; cases h
      · exact h c2
      · exact h c3
      · exact absurd c4 (by dsimp only [den, nId, nNodes, nTerm, nVote, nBase, nBT, nSnap, nLog, nRole, nLead, nCommit, nVotes, nNext, nMatch, nClock, mKind, mFrom, mTo, mTerm, mIndex, mAt, mYes, mCommit, mEntries, mSnap, eTerm, eCmd, mkN, mkM, mkE, last, inR, sm, lastT] at *; omega)
      · exact absurd c5 (by dsimp only [den, nId, nNodes, nTerm, nVote, nBase, nBT, nSnap, nLog, nRole, nLead, nCommit, nVotes, nNext, nMatch, nClock, mKind, mFrom, mTo, mTerm, mIndex, mAt, mYes, mCommit, mEntries, mSnap, eTerm, eCmd, mkN, mkM, mkE, last, inR, sm, lastT] at *; omega)
    exact ⟨(if_neg hc).symm, (if_neg hc).symm⟩
  · have hc : givenC d m := ⟨h.1.1.1.1, h.1.1.1.2, h.1.1.2, by have := h.1.2; dsimp only [den, nId, nNodes, nTerm, nVote, nBase, nBT, nSnap, nLog, nRole, nLead, nCommit, nVotes, nNext, nMatch, nClock, mKind, mFrom, mTo, mTerm, mIndex, mAt, mYes, mCommit, mEntries, mSnap, eTerm, eCmd, mkN, mkM, mkE, last, inR, sm, lastT] at *; omega, by have := h.2; dsimp only [den, nId, nNodes, nTerm, nVote, nBase, nBT, nSnap, nLog, nRole, nLead, nCommit, nVotes, nNext, nMatch, nClock, mKind, mFrom, mTo, mTerm, mIndex, mAt, mYes, mCommit, mEntries, mSnap, eTerm, eCmd, mkN, mkM, mkE, last, inR, sm, lastT] at *; omega⟩
    refine ⟨⟨by dsimp only [den, nId, nNodes, nTerm, nVote, nBase, nBT, nSnap, nLog, nRole, nLead, nCommit, nVotes, nNext, nMatch, nClock, mKind, mFrom, mTo, mTerm, mIndex, mAt, mYes, mCommit, mEntries, mSnap, eTerm, eCmd, mkN, mkM, mkE, last, inR, sm, lastT] at *; omega, by dsimp only [den, nId, nNodes, nTerm, nVote, nBase, nBT, nSnap, nLog, nRole, nLead, nCommit, nVotes, nNext, nMatch, nClock, mKind, mFrom, mTo, mTerm, mIndex, mAt, mYes, mCommit, mEntries, mSnap, eTerm, eCmd, mkN, mkM, mkE, last, inR, sm, lastT] at *; omega⟩, ⟨hc.2.2.2.1, hc.2.2.2.2⟩, ?_, hp1, by rfl, (if_pos hc).symm, ?_⟩
    · rw [sm, List.length_set]; exact hp2
    · unfold given2'
      rw [if_pos hc]
      unfold cnt
      rw [List.length_set]
      rfl
theorem given_low {n : Node} {m : Msg} (ht : mTerm m ≤ nTerm n) (h : ¬ (mTerm m = nTerm n ∧ mYes m = true)) : given1 n m = n ∧ given2 n m = false := by
  unfold given1 given2
  rw [down_same ht]
  have hc : ¬ givenC n m := fun c => h ⟨c.2.1, c.1⟩
  exact ⟨if_neg hc, if_neg hc⟩
theorem given_yes {n : Node} {m : Msg} (ht : mTerm m = nTerm n) (hy : mYes m = true) (hr : nRole n = 1) (h0 : 0 ≤ mFrom m) (h1 : mFrom m < (nVotes n).length) :
    given1 n m = mkN (nId n) (nNodes n) (nTerm n) (nVote n) (nBase n) (nBT n) (nSnap n) (nLog n) (nRole n) (nLead n) (nCommit n) ((nVotes n).set (mFrom m).toNat true) (nNext n) (nMatch n) (nClock n) ∧
    given2 n m = decide (most n ≤ cnt ((nVotes n).set (mFrom m).toNat true)) := by
  unfold given1 given2
  rw [down_same (by omega)]
  have hc : givenC n m := ⟨hy, ht, hr, h0, h1⟩
  exact ⟨if_pos hc, if_pos hc⟩
theorem take_all_false : ∀ (l : List Bool), (∀ j, l.getD j false = false) → l.countP id = 0 := by
  intro l
  induction l with
  | nil => intro _; rfl
  | cons b l ih =>
    intro h
    have h0 : b = false := by have := h 0; simpa using this
    subst h0
    have := ih fun j => by have := h (j + 1); simpa using this
    simp [this]
theorem cnt_take {ys : List Bool} {k : Nat} (hk : k ≤ ys.length) (off : ∀ j, k ≤ j → ys.getD j false = false) : cnt (ys.take k) = countB ys id ys.length := by
  unfold cnt countB
  rw [List.take_length, List.take_length]
  have := List.countP_append (p := id) (l₁ := ys.take k) (l₂ := ys.drop k)
  rw [List.take_append_drop] at this
  rw [this, take_all_false (ys.drop k) fun j => ?_]
  · rfl
  · have := off (k + j) (by omega)
    rw [List.getD_eq_getElem?_getD] at this ⊢
    rw [List.getElem?_drop]
    exact this
structure CntI (i : Nat) (n : Node) (ys : List Bool) (k : Int) : Prop where
  nodes : nNodes n = k
  term : nTerm n = 1
  role : nRole n = 1
  votes : nVotes n = ys.take k.toNat
  len : ys.length = 5
  off : ∀ j : Nat, k ≤ j → ys.getD j false = false
theorem start1_role (n : Node) : nRole (start1 n) = 1 := by unfold start1 own; split <;> rfl
theorem start1_votes0 (k : Int) (k1 : 1 ≤ k) (k5 : k ≤ 5) : nVotes (start1 (newN 0 k)) = (List.replicate k.toNat false).set 0 true := by
  have : k = 1 ∨ k = 2 ∨ k = 3 ∨ k = 4 ∨ k = 5 := by omega
  rcases this with rfl | rfl | rfl | rfl | rfl <;> rfl
theorem filter_ne0 : ∀ (k : Nat), ((List.range (k + 1)).filter (fun j : Nat => decide ((j : Int) ≠ 0))).length = k := by
  intro k
  induction k with
  | zero => rfl
  | succ k ih =>
    rw [List.range_succ, List.filter_append, List.length_append, ih]
    simp
theorem start2_len0 (n : Node) (h : nId n = 0) (hv : 1 ≤ (nVotes (start1 n)).length) : (start2 n).length = (nVotes (start1 n)).length - 1 := by
  unfold start2 startMsgs
  rw [List.length_map, start1_id, h]
  have := filter_ne0 ((nVotes (start1 n)).length - 1)
  rw [show (nVotes (start1 n)).length - 1 + 1 = (nVotes (start1 n)).length by omega] at this
  exact this
theorem tdivR {v c : Int} (h : InR .i64 v) (hc : 2 ≤ c.natAbs) : -4611686018427387904 ≤ v.tdiv c ∧ v.tdiv c ≤ 4611686018427387904 := by
  have h1 : -9223372036854775808 ≤ v ∧ v ≤ 9223372036854775807 := h
  have : (v.tdiv c).natAbs ≤ v.natAbs / 2 := by
    rw [Int.natAbs_tdiv]
    exact Nat.div_le_div_left hc (by decide)
  omega
def voteCountsFn : Fn := { a := .pair tI (.pair (.list tI) .unit), r := .pair .bool .unit, pre := fun x => InR .i64 x.1 ∧ preS x.2.1, f := fun _ => (true, ()) }
theorem h8  : Holds Try.prog 8 (voteCountsFn) := by
  refine Holds.of_vc (T := [(23, fn23), (31, fn31), (27, fn27), (44, fn44), (40, fn40), (26, fn26)]) (TT := ttL) (rowAt := [8]) (c := c8) (ros := [.t 4]) (.cons _ h23 (.cons _ h31 (.cons _ h27 (.cons _ h44 (.cons _ h40 (.cons _ h26 (.nil _))))))) mixed Try.func8 (by decide +kernel) (by rfl) comp8 (by kernel_rfl) rfl rfl (fun h => by cases h) ?_
  rintro ⟨(nodes : Int), (fr : List Int), _⟩ hpre
  simp only [voteCountsFn] at hpre ⊢
  simp only [c8, fn23, fn31, fn27, fn44, fn40, fn26, go_sem, reduceIte, Nat.reduceBEq, Nat.reduceMul, reduceCtorEq, Nat.reduceAdd, Nat.reduceEqDiff, decide_eq_true_eq, decide_eq_false_iff_not, Bool.not_eq_true', Bool.not_eq_false', Bool.and_eq_true, Bool.or_eq_true, Bool.and_eq_false_iff, Bool.or_eq_false_iff, Bool.cond_true_left, Bool.cond_false_right, Bool.cond_true_right, Bool.cond_false_left, Bool.or_false, Bool.and_true, inR]
  generalize hk : 1 + nodes % 5 = k
  have k1 : 1 ≤ k := by omega
  have k5 : k ≤ 5 := by omega
  have s0 : nNodes (newN 0 k) = min (max k 1) 5 := rfl
  have s1 := start1_vlen (newN 0 k) (by omega) (by omega)
  have s2 := start1_nodes (newN 0 k)
  have s3 : nTerm (start1 (newN 0 k)) = 1 := start1_term _
  have s4 : nRole (start1 (newN 0 k)) = 1 := start1_role _
  have s5 : nVotes (start1 (newN 0 k)) = (List.replicate k.toNat false).set 0 true := start1_votes0 k k1 k5
  have s6 : (start2 (newN 0 k)).length = k.toNat - 1 := by
    have h := start2_len0 (newN 0 k) (show min (max 0 0) (min (max k 1) 5 - 1) = 0 by omega) (by rw [s1]; omega)
    rw [h, s1, s0]
    omega
  have n1 : nBase (newN 0 k) = 0 := rfl
  have n2 : last (newN 0 k) = 0 := rfl
  have n3 : nTerm (newN 0 k) = 0 := rfl
  have hm : most (start1 (newN 0 k)) = k.tdiv 2 + 1 := by
    unfold most; rw [s2, s0, show min (max k 1) 5 = k by omega]
  have ht := tdiv2 (a := k) (by omega) (by omega)
  simp only [s6, n1, n2, n3, hm]
  rw [s0] at s1 s2
  generalize start1 (newN 0 k) = s at *
  generalize start2 (newN 0 k) = l2 at *
  refine ⟨by decide, by omega, by omega, by omega, fun _ => ⟨by omega, by omega⟩, by omega, by omega, fun h => ?_, fun _ => ⟨by decide, ?_⟩⟩
  · rcases h with h | h
    · omega
    · exact h trivial
  refine loop_rule (β := Nat × Node × List Bool) (fun b => ⟨[(1, .sl tI fr false), (5, .int .i64 k), (6, .ptr 6 0), (8, .rptr 8 0 0), (9, .int .i64 b.1)], [(6, .box (cellsA tNode b.2.1 [])), (8, .row .bool b.2.2 false)]⟩)
    (fun b => b.1 ≤ fr.length ∧ b.1 ≤ 30 ∧ CntI b.1 b.2.1 b.2.2 k) (fun b => 30 - b.1) (0, s, [true, false, false, false, false]) ?_ ?_ ?_
  · refine Ent_of [(6, 6), (8, 8)] rfl ?_ ?_
    · simp only [go_sem, reduceIte, Nat.reduceBEq, Nat.reduceMul, reduceCtorEq, Nat.reduceAdd, Nat.reduceEqDiff, decide_eq_true_eq, decide_eq_false_iff_not, Bool.not_eq_true', Bool.not_eq_false', Bool.and_eq_true, Bool.or_eq_true, Bool.and_eq_false_iff, Bool.or_eq_false_iff, Bool.cond_true_left, Bool.cond_false_right, Bool.cond_true_right, Bool.cond_false_left, Bool.or_false, Bool.and_true]
      rfl
    · simp only [go_sem, reduceIte, Nat.reduceBEq, Nat.reduceMul, reduceCtorEq, Nat.reduceAdd, Nat.reduceEqDiff, decide_eq_true_eq, decide_eq_false_iff_not, Bool.not_eq_true', Bool.not_eq_false', Bool.and_eq_true, Bool.or_eq_true, Bool.and_eq_false_iff, Bool.or_eq_false_iff, Bool.cond_true_left, Bool.cond_false_right, Bool.cond_true_right, Bool.cond_false_left, Bool.or_false, Bool.and_true]
      trivial
  · refine ⟨Nat.zero_le _, Nat.zero_le _, by show nNodes s = k; omega, s3, s4, ?_, rfl, ?_⟩
    · rw [s5]
      have : k = 1 ∨ k = 2 ∨ k = 3 ∨ k = 4 ∨ k = 5 := by omega
      rcases this with rfl | rfl | rfl | rfl | rfl <;> rfl
    · intro j hj
      match j with
      | 0 => omega
      | 1 => rfl
      | 2 => rfl
      | 3 => rfl
      | 4 => rfl
      | j + 5 => rfl
  rintro ⟨i, n, ys⟩ ⟨hi, hi30, hC⟩
  simp only at hi hi30 hC
  simp only [go_sem, reduceIte, Nat.reduceBEq, Nat.reduceMul, reduceCtorEq, Nat.reduceAdd, Nat.reduceEqDiff, decide_eq_true_eq, decide_eq_false_iff_not, Bool.not_eq_true', Bool.not_eq_false', Bool.and_eq_true, Bool.or_eq_true, Bool.and_eq_false_iff, Bool.or_eq_false_iff, Bool.cond_true_left, Bool.cond_false_right, Bool.cond_true_right, Bool.cond_false_left, Bool.or_false, Bool.and_true, inR, fn23, fn40]
  have hvR : i < fr.length → InR .i64 (fr.getD i (dflt tI)) := fun h => by
    rw [List.getD_eq_getElem?_getD, List.getElem?_eq_getElem h]
    exact hpre.2.2 _ (List.getElem_mem h)
  generalize fr.getD i (dflt tI) = v at *
  have q5 : 0 ≤ v % 5 := Int.emod_nonneg v (by decide)
  have q5' : v % 5 < 5 := Int.emod_lt_of_pos v (by decide)
  have hN := hC.nodes
  have hT := hC.term
  have hR := hC.role
  have hvl : (nVotes n).length = k.toNat := by rw [hC.votes, List.length_take, hC.len]; omega
  have hT2 : n.2.2.1 = 1 := hT
  have hsm : smallL (nVotes n) := by rw [sm]; omega
  simp only [hT2, hN, hsm]
  have b1 : 0 ≤ v.tdiv 5 % 2 := Int.emod_nonneg _ (by decide)
  have b2 : v.tdiv 5 % 2 < 2 := Int.emod_lt_of_pos _ (by decide)
  generalize v.tdiv 5 % 2 = w at *
  refine fun h => ⟨by omega, by decide, fun h0 => ⟨by omega, Again.intro (i + 1, n, ys) (Ent_of [(6, 6), (8, 8)] rfl ?_ ?_) ⟨?_, ?_, ?_⟩ (show 30 - (i + 1) < 30 - i by omega)⟩, fun h0 => ⟨by omega, ?_⟩⟩
  · simp only [go_sem, reduceIte, Nat.reduceBEq, Nat.reduceMul, reduceCtorEq, Nat.reduceAdd, Nat.reduceEqDiff, decide_eq_true_eq, decide_eq_false_iff_not, Bool.not_eq_true', Bool.not_eq_false', Bool.and_eq_true, Bool.or_eq_true, Bool.and_eq_false_iff, Bool.or_eq_false_iff, Bool.cond_true_left, Bool.cond_false_right, Bool.cond_true_right, Bool.cond_false_left, Bool.or_false, Bool.and_true]
    exact ⟨hN, hT⟩
  · simp only [go_sem, reduceIte, Nat.reduceBEq, Nat.reduceMul, reduceCtorEq, Nat.reduceAdd, Nat.reduceEqDiff, decide_eq_true_eq, decide_eq_false_iff_not, Bool.not_eq_true', Bool.not_eq_false', Bool.and_eq_true, Bool.or_eq_true, Bool.and_eq_false_iff, Bool.or_eq_false_iff, Bool.cond_true_left, Bool.cond_false_right, Bool.cond_true_right, Bool.cond_false_left, Bool.or_false, Bool.and_true]
    omega
  · show i + 1 ≤ fr.length; omega
  · show i + 1 ≤ 30; omega
  · exact ⟨hC.nodes, hC.term, hC.role, hC.votes, hC.len, hC.off⟩
  have hvR := hvR (by omega)
  have q51 := tdivR (c := 5) hvR (by decide)
  have q101 := tdivR (c := 10) hvR (by decide)
  have d1 : k.tdiv 2 = k / 2 := Int.tdiv_eq_ediv_of_nonneg (by omega)
  generalize hy : decide (0 < v.tdiv 10 % 3) = y
  generalize hmm : (pr (a := tI) 2 (pr (a := tI) (v % 5) (pr (a := tI) 0 (pr (a := tI) (1 - w) (pr (a := tI) 0 (pr (a := tI) 0 (pr (a := .bool) y (pr (a := tI) 0 (pr (a := .list tEntry) [] (pr (a := .str) (b := .unit) ⟨#[]⟩ ())))))))))) = m
  have m1 : mFrom m = v % 5 := by rw [← hmm]; rfl
  have m2 : mTerm m = 1 - w := by rw [← hmm]; rfl
  have m3 : mYes m = y := by rw [← hmm]; rfl
  refine ⟨⟨by decide, by omega, by omega⟩, by decide, by omega, by omega, ⟨by decide, by omega, by omega⟩, by decide, by rfl, ⟨by omega, by omega, trivial⟩, fun hA => ⟨⟨by omega, by have := hC.len; omega, by have := hC.len; omega⟩, ?_⟩, fun hB => ?_⟩
  · have e1 : 1 - w = 1 := hA.1
    have e2 : y = true := by rw [← hy]; exact decide_eq_true hA.2
    obtain ⟨g1, g2⟩ := given_yes (n := n) (m := m) (by omega) (by rw [m3]; exact e2) hR (by omega) (by omega)
    have hC2 : CntI (i + 1) (given1 n m) (ys.set (v % 5).toNat true) k := by
      rw [g1]
      refine ⟨hC.nodes, hC.term, hC.role, ?_, by rw [List.length_set]; exact hC.len, fun j hj => ?_⟩
      · show (nVotes n).set (mFrom m).toNat true = _
        rw [hC.votes, m1, List.take_set]
      · have := hC.off j hj
        rw [List.getD_eq_getElem?_getD] at this ⊢
        rw [List.getElem?_set_ne (by omega)]
        exact this
    have hok : given2 n m = decide (k / 2 + 1 ≤ countB (ys.set (v % 5).toNat true) id 5) := by
      rw [g2]
      have : (nVotes n).set (mFrom m).toNat true = (ys.set (v % 5).toNat true).take k.toNat := by rw [hC.votes, m1, List.take_set]
      rw [this, cnt_take (by rw [List.length_set, hC.len]; omega) (fun j hj => hC2.off j (by omega)), hC2.len]
      have : most n = k / 2 + 1 := by unfold most; rw [hN, d1]
      rw [this]
    clear g1 g2
    generalize given1 n m = x at *
    generalize given2 n m = ok at *
    generalize hyy : ys.set (v % 5).toNat true = zs at *
    refine loop_rule (β := Nat) (fun j => ⟨[(1, .sl tI fr false), (5, .int .i64 k), (6, .ptr 6 0), (8, .rptr 8 0 0), (9, .int .i64 i), (11, .ptr 11 0), (12, .ptr 12 0), (13, .bool ok), (14, .int .i64 (countB zs id j)), (15, .int .i64 j)],
      [(6, .box (cellsA tNode n [])), (8, .row .bool zs false), (11, .box [.int .i64 2, .int .i64 (v % 5), .int .i64 0, .int .i64 (1 - w), .int .i64 0, .int .i64 0, .bool y, .int .i64 0, .sl tEntry [] true, .str ⟨#[]⟩]), (12, .box (cellsA tNode x []))]⟩)
      (fun j => j ≤ 5) (fun j => 5 - j) 0 ?_ ?_ ?_
    · refine Ent_of [(6, 6), (8, 8), (11, 11), (12, 12)] rfl ?_ ?_
      · simp only [go_sem, reduceIte, Nat.reduceBEq, Nat.reduceMul, reduceCtorEq, Nat.reduceAdd, Nat.reduceEqDiff, decide_eq_true_eq, decide_eq_false_iff_not, Bool.not_eq_true', Bool.not_eq_false', Bool.and_eq_true, Bool.or_eq_true, Bool.and_eq_false_iff, Bool.or_eq_false_iff, Bool.cond_true_left, Bool.cond_false_right, Bool.cond_true_right, Bool.cond_false_left, Bool.or_false, Bool.and_true]
        exact ⟨hN, hT⟩
      · simp only [go_sem, reduceIte, Nat.reduceBEq, Nat.reduceMul, reduceCtorEq, Nat.reduceAdd, Nat.reduceEqDiff, decide_eq_true_eq, decide_eq_false_iff_not, Bool.not_eq_true', Bool.not_eq_false', Bool.and_eq_true, Bool.or_eq_true, Bool.and_eq_false_iff, Bool.or_eq_false_iff, Bool.cond_true_left, Bool.cond_false_right, Bool.cond_true_right, Bool.cond_false_left, Bool.or_false, Bool.and_true]
        exact ⟨rfl, rfl⟩
    · exact Nat.zero_le _
    intro j hj
    have hcb := countB_le zs id j
    have hzl := hC2.len
    simp only [go_sem, reduceIte, Nat.reduceBEq, Nat.reduceMul, reduceCtorEq, Nat.reduceAdd, Nat.reduceEqDiff, decide_eq_true_eq, decide_eq_false_iff_not, Bool.not_eq_true', Bool.not_eq_false', Bool.and_eq_true, Bool.or_eq_true, Bool.and_eq_false_iff, Bool.or_eq_false_iff, Bool.cond_true_left, Bool.cond_false_right, Bool.cond_true_right, Bool.cond_false_left, Bool.or_false, Bool.and_true, inR, fn26, hT2, d1]
    refine ⟨fun hj5 => ⟨by omega, fun hb => ⟨by omega, by omega, Again.intro (j + 1) (Ent_of [(6, 6), (8, 8), (11, 11), (12, 12)] rfl ?_ ?_) ?_ ?_⟩, fun hb => ⟨by omega, Again.intro (j + 1) (Ent_of [(6, 6), (8, 8), (11, 11), (12, 12)] rfl ?_ ?_) ?_ ?_⟩⟩, fun hj5 => ?_⟩
    · simp only [go_sem, reduceIte, Nat.reduceBEq, Nat.reduceMul, reduceCtorEq, Nat.reduceAdd, Nat.reduceEqDiff, decide_eq_true_eq, decide_eq_false_iff_not, Bool.not_eq_true', Bool.not_eq_false', Bool.and_eq_true, Bool.or_eq_true, Bool.and_eq_false_iff, Bool.or_eq_false_iff, Bool.cond_true_left, Bool.cond_false_right, Bool.cond_true_right, Bool.cond_false_left, Bool.or_false, Bool.and_true]
    · simp only [go_sem, reduceIte, Nat.reduceBEq, Nat.reduceMul, reduceCtorEq, Nat.reduceAdd, Nat.reduceEqDiff, decide_eq_true_eq, decide_eq_false_iff_not, Bool.not_eq_true', Bool.not_eq_false', Bool.and_eq_true, Bool.or_eq_true, Bool.and_eq_false_iff, Bool.or_eq_false_iff, Bool.cond_true_left, Bool.cond_false_right, Bool.cond_true_right, Bool.cond_false_left, Bool.or_false, Bool.and_true]
      rw [countB_yes (by omega) hb]
      omega
    · show j + 1 ≤ 5; omega
    · show 5 - (j + 1) < 5 - j; omega
    · simp only [go_sem, reduceIte, Nat.reduceBEq, Nat.reduceMul, reduceCtorEq, Nat.reduceAdd, Nat.reduceEqDiff, decide_eq_true_eq, decide_eq_false_iff_not, Bool.not_eq_true', Bool.not_eq_false', Bool.and_eq_true, Bool.or_eq_true, Bool.and_eq_false_iff, Bool.or_eq_false_iff, Bool.cond_true_left, Bool.cond_false_right, Bool.cond_true_right, Bool.cond_false_left, Bool.or_false, Bool.and_true]
    · simp only [go_sem, reduceIte, Nat.reduceBEq, Nat.reduceMul, reduceCtorEq, Nat.reduceAdd, Nat.reduceEqDiff, decide_eq_true_eq, decide_eq_false_iff_not, Bool.not_eq_true', Bool.not_eq_false', Bool.and_eq_true, Bool.or_eq_true, Bool.and_eq_false_iff, Bool.or_eq_false_iff, Bool.cond_true_left, Bool.cond_false_right, Bool.cond_true_right, Bool.cond_false_left, Bool.or_false, Bool.and_true]
      rw [countB_no (by omega) hb]
      omega
    · show j + 1 ≤ 5; omega
    · show 5 - (j + 1) < 5 - j; omega
    · have hj6 : j = 5 := by omega
      subst hj6
      have hfin : (ok == (decide (1 - w = 1) && y && decide (k / 2 + 1 ≤ (countB zs id 5 : Int)))) = true := by
        rw [hok, e1, e2]; simp
      have hxt : x.2.2.1 = 1 := hC2.term
      have hxr : x.2.2.2.2.2.2.2.2.1 = 1 := hC2.role
      simp only [hfin, hxt, hxr]
      refine ⟨fun _ => ⟨by decide, by omega, by omega⟩, fun _ => ⟨by omega, by omega⟩, fun h => ?_, fun _ => ⟨by omega, Again.intro (i + 1, x, zs) (Ent_of [(6, 6), (8, 8)] rfl ?_ ?_) ⟨?_, ?_, hC2⟩ (show 30 - (i + 1) < 30 - i by omega)⟩⟩
      · rcases h with (h | h) | h
        · cases h
        · exact h trivial
        · exact h trivial
      · simp only [go_sem, reduceIte, Nat.reduceBEq, Nat.reduceMul, reduceCtorEq, Nat.reduceAdd, Nat.reduceEqDiff, decide_eq_true_eq, decide_eq_false_iff_not, Bool.not_eq_true', Bool.not_eq_false', Bool.and_eq_true, Bool.or_eq_true, Bool.and_eq_false_iff, Bool.or_eq_false_iff, Bool.cond_true_left, Bool.cond_false_right, Bool.cond_true_right, Bool.cond_false_left, Bool.or_false, Bool.and_true]
        exact ⟨hxt, hxr⟩
      · simp only [go_sem, reduceIte, Nat.reduceBEq, Nat.reduceMul, reduceCtorEq, Nat.reduceAdd, Nat.reduceEqDiff, decide_eq_true_eq, decide_eq_false_iff_not, Bool.not_eq_true', Bool.not_eq_false', Bool.and_eq_true, Bool.or_eq_true, Bool.and_eq_false_iff, Bool.or_eq_false_iff, Bool.cond_true_left, Bool.cond_false_right, Bool.cond_true_right, Bool.cond_false_left, Bool.or_false, Bool.and_true]
        omega
      · show i + 1 ≤ fr.length; omega
      · show i + 1 ≤ 30; omega
  · have hne : ¬ (1 - w = 1 ∧ y = true) := by
      rintro ⟨c1, c2⟩
      rcases hB with h | h
      · exact h c1
      · rw [← hy] at c2; exact h (of_decide_eq_true c2)
    obtain ⟨g1, g2⟩ := given_low (n := n) (m := m) (by omega) (by rw [m2, m3, hT]; exact hne)
    have hC2 : CntI (i + 1) (given1 n m) ys k := by rw [g1]; exact ⟨hC.nodes, hC.term, hC.role, hC.votes, hC.len, hC.off⟩
    clear g1
    generalize given1 n m = x at *
    generalize given2 n m = ok at *
    generalize hyy : ys = zs at *
    refine loop_rule (β := Nat) (fun j => ⟨[(1, .sl tI fr false), (5, .int .i64 k), (6, .ptr 6 0), (8, .rptr 8 0 0), (9, .int .i64 i), (11, .ptr 11 0), (12, .ptr 12 0), (13, .bool ok), (14, .int .i64 (countB zs id j)), (15, .int .i64 j)],
      [(6, .box (cellsA tNode n [])), (8, .row .bool zs false), (11, .box [.int .i64 2, .int .i64 (v % 5), .int .i64 0, .int .i64 (1 - w), .int .i64 0, .int .i64 0, .bool y, .int .i64 0, .sl tEntry [] true, .str ⟨#[]⟩]), (12, .box (cellsA tNode x []))]⟩)
      (fun j => j ≤ 5) (fun j => 5 - j) 0 ?_ ?_ ?_
    · refine Ent_of [(6, 6), (8, 8), (11, 11), (12, 12)] rfl ?_ ?_
      · simp only [go_sem, reduceIte, Nat.reduceBEq, Nat.reduceMul, reduceCtorEq, Nat.reduceAdd, Nat.reduceEqDiff, decide_eq_true_eq, decide_eq_false_iff_not, Bool.not_eq_true', Bool.not_eq_false', Bool.and_eq_true, Bool.or_eq_true, Bool.and_eq_false_iff, Bool.or_eq_false_iff, Bool.cond_true_left, Bool.cond_false_right, Bool.cond_true_right, Bool.cond_false_left, Bool.or_false, Bool.and_true]
        exact ⟨hN, hT⟩
      · simp only [go_sem, reduceIte, Nat.reduceBEq, Nat.reduceMul, reduceCtorEq, Nat.reduceAdd, Nat.reduceEqDiff, decide_eq_true_eq, decide_eq_false_iff_not, Bool.not_eq_true', Bool.not_eq_false', Bool.and_eq_true, Bool.or_eq_true, Bool.and_eq_false_iff, Bool.or_eq_false_iff, Bool.cond_true_left, Bool.cond_false_right, Bool.cond_true_right, Bool.cond_false_left, Bool.or_false, Bool.and_true]
        exact ⟨rfl, rfl⟩
    · exact Nat.zero_le _
    intro j hj
    have hcb := countB_le zs id j
    have hzl := hC2.len
    simp only [go_sem, reduceIte, Nat.reduceBEq, Nat.reduceMul, reduceCtorEq, Nat.reduceAdd, Nat.reduceEqDiff, decide_eq_true_eq, decide_eq_false_iff_not, Bool.not_eq_true', Bool.not_eq_false', Bool.and_eq_true, Bool.or_eq_true, Bool.and_eq_false_iff, Bool.or_eq_false_iff, Bool.cond_true_left, Bool.cond_false_right, Bool.cond_true_right, Bool.cond_false_left, Bool.or_false, Bool.and_true, inR, fn26, hT2, d1]
    refine ⟨fun hj5 => ⟨by omega, fun hb => ⟨by omega, by omega, Again.intro (j + 1) (Ent_of [(6, 6), (8, 8), (11, 11), (12, 12)] rfl ?_ ?_) ?_ ?_⟩, fun hb => ⟨by omega, Again.intro (j + 1) (Ent_of [(6, 6), (8, 8), (11, 11), (12, 12)] rfl ?_ ?_) ?_ ?_⟩⟩, fun hj5 => ?_⟩
    · simp only [go_sem, reduceIte, Nat.reduceBEq, Nat.reduceMul, reduceCtorEq, Nat.reduceAdd, Nat.reduceEqDiff, decide_eq_true_eq, decide_eq_false_iff_not, Bool.not_eq_true', Bool.not_eq_false', Bool.and_eq_true, Bool.or_eq_true, Bool.and_eq_false_iff, Bool.or_eq_false_iff, Bool.cond_true_left, Bool.cond_false_right, Bool.cond_true_right, Bool.cond_false_left, Bool.or_false, Bool.and_true]
    · simp only [go_sem, reduceIte, Nat.reduceBEq, Nat.reduceMul, reduceCtorEq, Nat.reduceAdd, Nat.reduceEqDiff, decide_eq_true_eq, decide_eq_false_iff_not, Bool.not_eq_true', Bool.not_eq_false', Bool.and_eq_true, Bool.or_eq_true, Bool.and_eq_false_iff, Bool.or_eq_false_iff, Bool.cond_true_left, Bool.cond_false_right, Bool.cond_true_right, Bool.cond_false_left, Bool.or_false, Bool.and_true]
      rw [countB_yes (by omega) hb]
      omega
    · show j + 1 ≤ 5; omega
    · show 5 - (j + 1) < 5 - j; omega
    · simp only [go_sem, reduceIte, Nat.reduceBEq, Nat.reduceMul, reduceCtorEq, Nat.reduceAdd, Nat.reduceEqDiff, decide_eq_true_eq, decide_eq_false_iff_not, Bool.not_eq_true', Bool.not_eq_false', Bool.and_eq_true, Bool.or_eq_true, Bool.and_eq_false_iff, Bool.or_eq_false_iff, Bool.cond_true_left, Bool.cond_false_right, Bool.cond_true_right, Bool.cond_false_left, Bool.or_false, Bool.and_true]
    · simp only [go_sem, reduceIte, Nat.reduceBEq, Nat.reduceMul, reduceCtorEq, Nat.reduceAdd, Nat.reduceEqDiff, decide_eq_true_eq, decide_eq_false_iff_not, Bool.not_eq_true', Bool.not_eq_false', Bool.and_eq_true, Bool.or_eq_true, Bool.and_eq_false_iff, Bool.or_eq_false_iff, Bool.cond_true_left, Bool.cond_false_right, Bool.cond_true_right, Bool.cond_false_left, Bool.or_false, Bool.and_true]
      rw [countB_no (by omega) hb]
      omega
    · show j + 1 ≤ 5; omega
    · show 5 - (j + 1) < 5 - j; omega
    · have hj6 : j = 5 := by omega
      subst hj6
      have hfin : (ok == (decide (1 - w = 1) && y && decide (k / 2 + 1 ≤ (countB zs id 5 : Int)))) = true := by
        have : (decide (1 - w = 1) && y) = false := by
          cases hyv : y with
          | false => simp
          | true => simp only [Bool.and_true]; exact decide_eq_false fun c => hne ⟨c, hyv⟩
        rw [g2, this]; rfl
      have hxt : x.2.2.1 = 1 := hC2.term
      have hxr : x.2.2.2.2.2.2.2.2.1 = 1 := hC2.role
      simp only [hfin, hxt, hxr]
      refine ⟨fun _ => ⟨by decide, by omega, by omega⟩, fun _ => ⟨by omega, by omega⟩, fun h => ?_, fun _ => ⟨by omega, Again.intro (i + 1, x, zs) (Ent_of [(6, 6), (8, 8)] rfl ?_ ?_) ⟨?_, ?_, hC2⟩ (show 30 - (i + 1) < 30 - i by omega)⟩⟩
      · rcases h with (h | h) | h
        · cases h
        · exact h trivial
        · exact h trivial
      · simp only [go_sem, reduceIte, Nat.reduceBEq, Nat.reduceMul, reduceCtorEq, Nat.reduceAdd, Nat.reduceEqDiff, decide_eq_true_eq, decide_eq_false_iff_not, Bool.not_eq_true', Bool.not_eq_false', Bool.and_eq_true, Bool.or_eq_true, Bool.and_eq_false_iff, Bool.or_eq_false_iff, Bool.cond_true_left, Bool.cond_false_right, Bool.cond_true_right, Bool.cond_false_left, Bool.or_false, Bool.and_true]
        exact ⟨hxt, hxr⟩
      · simp only [go_sem, reduceIte, Nat.reduceBEq, Nat.reduceMul, reduceCtorEq, Nat.reduceAdd, Nat.reduceEqDiff, decide_eq_true_eq, decide_eq_false_iff_not, Bool.not_eq_true', Bool.not_eq_false', Bool.and_eq_true, Bool.or_eq_true, Bool.and_eq_false_iff, Bool.or_eq_false_iff, Bool.cond_true_left, Bool.cond_false_right, Bool.cond_true_right, Bool.cond_false_left, Bool.or_false, Bool.and_true]
        omega
      · show i + 1 ≤ fr.length; omega
      · show i + 1 ≤ 30; omega
end Go.AM
