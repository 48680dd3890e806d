import Derived.Test.YtbcbgfkojmligaaHB
import Derived.KernelRfl
import Derived.Test.YtbcbgfkojmligaaProg
/- What functions of the program answer, each under the conditions that its contract names. -/
set_option linter.unusedVariables false
set_option linter.unusedSimpArgs false
set_option maxRecDepth 100000
namespace Go.AM
def c5 : C := (.seq (.reg [⟨(some 6), .mv, [.c (.bool false)], none⟩])
 (.seq (.reg [⟨(some 14), .mv, [.t 2], none⟩,
  ⟨(some 15), (.call 23), [.t 14, .c (.int .i64 4)], none⟩,
  ⟨(some 16), (.bin .add), [.c (.int .i64 2), .t 15], none⟩,
  ⟨(some 7), .mv, [.t 16], none⟩])
 (.seq (.reg [⟨(some 17), .mv, [.t 0], none⟩,
  ⟨(some 18), (.call 23), [.t 17, .c (.int .i64 1000)], none⟩,
  ⟨(some 19), (.bin .add), [.c (.int .i64 1), .t 18], none⟩,
  ⟨(some 20), .mv, [.t 1], none⟩,
  ⟨(some 21), (.call 23), [.t 20, .c (.int .i64 1100)], none⟩,
  ⟨(some 8), .mv, [.t 19], none⟩,
  ⟨(some 9), .mv, [.t 21], none⟩])
 (.seq (.reg [⟨(some 23), .mv, [.t 7], none⟩,
  ⟨(some 24), (.call 31), [.c (.int .i64 1), .t 23], none⟩,
  ⟨(some 25), (.call 27), [.t 24], none⟩,
  ⟨(some 22), .mv, [.t 25], none⟩,
  ⟨(some 26), (.ext 0), [.t 22], none⟩,
  ⟨(some 27), (.ext 1), [.t 22], none⟩,
  ⟨(some 10), (.alloc [.int .i64 0, .int .i64 0, .int .i64 0, .int .i64 0, .int .i64 0, .int .i64 0, .str ⟨#[]⟩, .sl tEntry [] true, .int .i64 0, .int .i64 0, .int .i64 0, .sl .bool [] true, .sl tI [] true, .sl tI [] true, .int .i64 0]), [], none⟩,
  ⟨none, (.store 15), [.t 10, .t 26], none⟩,
  ⟨(some 11), .mv, [.t 27], none⟩])
 (.seq (.reg [⟨(some 28), .mv, [.t 8], none⟩,
  ⟨(some 29), (.fld 2), [.t 10], none⟩,
  ⟨none, (.store 1), [.t 29, .t 28], none⟩,
  ⟨(some 30), (.fld 14), [.t 10], none⟩,
  ⟨none, (.store 1), [.t 30, .c (.int .i64 7)], none⟩])
 (.seq (.reg [⟨(some 31), (.load 15 true), [.t 10], none⟩,
  ⟨(some 32), .mv, [.t 9], none⟩,
  ⟨(some 33), (.call 32), [.t 31, .t 32], none⟩,
  ⟨(some 12), (.alloc [.int .i64 0, .int .i64 0, .int .i64 0, .int .i64 0, .int .i64 0, .int .i64 0, .str ⟨#[]⟩, .sl tEntry [] true, .int .i64 0, .int .i64 0, .int .i64 0, .sl .bool [] true, .sl tI [] true, .sl tI [] true, .int .i64 0]), [], none⟩,
  ⟨none, (.store 15), [.t 12, .t 33], none⟩])
 (.seq (.seq (.reg [⟨(some 34), .mv, [.t 9], none⟩,
  ⟨(some 35), .mv, [.t 8], none⟩,
  ⟨(some 36), (.bin .leq), [.t 34, .t 35], none⟩])
 (.cond (.t 36) (.seq (.reg [⟨(some 37), (.load 15 true), [.t 10], none⟩,
  ⟨(some 38), (.load 15 true), [.t 12], none⟩,
  ⟨(some 39), (.call 33), [.t 37, .t 38], none⟩,
  ⟨(some 40), .mv, [.t 39], none⟩,
  ⟨(some 41), (.call 26), [], (some (40, true))⟩,
  ⟨(some 42), .pick, [.t 40, .t 41, .c (.bool false)], none⟩,
  ⟨(some 6), .mv, [.t 42], none⟩])
 .ret) .skip))
 (.seq (.seq (.reg [⟨(some 43), (.fld 11), [.t 12], none⟩,
  ⟨(some 44), (.load 1 false), [.t 43], none⟩,
  ⟨(some 45), .len, [.t 44], none⟩,
  ⟨(some 46), .mv, [.t 7], none⟩,
  ⟨(some 47), (.bin .neq), [.t 45, .t 46], none⟩])
 (.cond (.t 47) (.seq (.reg [⟨(some 6), .mv, [.c (.bool false)], none⟩])
 .ret) .skip))
 (.seq (.seq (.reg [⟨(some 13), .mv, [.c (.int .i64 0)], none⟩])
 (.block 0 (.loop (.seq (.seq (.reg [⟨(some 48), .mv, [.t 13], none⟩,
  ⟨(some 49), .mv, [.t 7], none⟩,
  ⟨(some 50), (.bin .lss), [.t 48, .t 49], none⟩])
 (.cond (.t 50) .skip (.exit 0)))
 (.seq (.block 1 (.seq (.reg [⟨(some 53), (.fld 11), [.t 12], none⟩,
  ⟨(some 54), (.load 1 false), [.t 53], none⟩,
  ⟨(some 55), .mv, [.t 13], none⟩,
  ⟨(some 56), (.idx 1), [.t 54, .t 55], none⟩,
  ⟨(some 57), (.load 1 false), [.t 56], none⟩])
 (.cond (.t 57) (.seq (.reg [⟨(some 6), .mv, [.c (.bool false)], none⟩])
 .ret) .skip)))
 (.reg [⟨(some 51), .mv, [.t 13], none⟩,
  ⟨(some 52), (.bin .add), [.t 51, .c (.int .i64 1)], none⟩,
  ⟨(some 13), .mv, [.t 52], none⟩]))))))
 (.seq (.reg [⟨(some 58), (.fld 2), [.t 12], none⟩,
  ⟨(some 59), (.load 1 false), [.t 58], none⟩,
  ⟨(some 60), .mv, [.t 9], none⟩,
  ⟨(some 61), (.bin .eql), [.t 59, .t 60], none⟩,
  ⟨(some 62), .mv, [.t 61], none⟩,
  ⟨(some 63), (.fld 3), [.t 12], (some (62, true))⟩,
  ⟨(some 64), (.load 1 false), [.t 63], (some (62, true))⟩,
  ⟨(some 65), (.bin .eql), [.t 64, .c (.int .i64 (-1))], (some (62, true))⟩,
  ⟨(some 66), .pick, [.t 62, .t 65, .c (.bool false)], none⟩,
  ⟨(some 67), .mv, [.t 66], none⟩,
  ⟨(some 68), (.fld 9), [.t 12], (some (67, true))⟩,
  ⟨(some 69), (.load 1 false), [.t 68], (some (67, true))⟩,
  ⟨(some 70), (.bin .eql), [.t 69, .c (.int .i64 (-1))], (some (67, true))⟩,
  ⟨(some 71), .pick, [.t 67, .t 70, .c (.bool false)], none⟩,
  ⟨(some 72), .mv, [.t 71], none⟩,
  ⟨(some 73), (.fld 8), [.t 12], (some (72, true))⟩,
  ⟨(some 74), (.load 1 false), [.t 73], (some (72, true))⟩,
  ⟨(some 75), (.bin .eql), [.t 74, .c (.int .i64 0)], (some (72, true))⟩,
  ⟨(some 76), .pick, [.t 72, .t 75, .c (.bool false)], none⟩,
  ⟨(some 77), .mv, [.t 76], none⟩,
  ⟨(some 78), (.fld 14), [.t 12], (some (77, true))⟩,
  ⟨(some 79), (.load 1 false), [.t 78], (some (77, true))⟩,
  ⟨(some 80), (.bin .eql), [.t 79, .c (.int .i64 7)], (some (77, true))⟩,
  ⟨(some 81), .pick, [.t 77, .t 80, .c (.bool false)], none⟩,
  ⟨(some 82), .mv, [.t 81], none⟩,
  ⟨(some 83), (.call 26), [], (some (82, true))⟩,
  ⟨(some 84), .pick, [.t 82, .t 83, .c (.bool false)], none⟩,
  ⟨(some 6), .mv, [.t 84], none⟩])
 .ret))))))))))
theorem comp5 : compC Go.Proofs.Try.prog ttL 85 [] (match Go.Proofs.Try.f5.body with | some b => b | none => .skip) = some (c5) := by kernel_rfl
def c33 : C := (.seq (.reg [⟨(some 2), .box, [.t 0], none⟩,
  ⟨(some 3), .box, [.t 1], none⟩,
  ⟨(some 4), .mv, [.c (.bool false)], none⟩])
 (.seq (.seq (.regd [⟨(some 8), (.fld 0), [.t 2], none⟩,
  ⟨(some 9), (.load 1 false), [.t 8], none⟩,
  ⟨(some 10), (.fld 0), [.t 3], none⟩,
  ⟨(some 11), (.load 1 false), [.t 10], none⟩,
  ⟨(some 12), (.bin .neq), [.t 9, .t 11], none⟩,
  ⟨(some 13), .mv, [.t 12], none⟩,
  ⟨(some 14), (.fld 1), [.t 2], (some (13, false))⟩,
  ⟨(some 15), (.load 1 false), [.t 14], (some (13, false))⟩,
  ⟨(some 16), (.fld 1), [.t 3], (some (13, false))⟩,
  ⟨(some 17), (.load 1 false), [.t 16], (some (13, false))⟩,
  ⟨(some 18), (.bin .neq), [.t 15, .t 17], (some (13, false))⟩,
  ⟨(some 19), .pick, [.t 13, .c (.bool true), .t 18], none⟩,
  ⟨(some 20), .mv, [.t 19], none⟩,
  ⟨(some 21), (.load 15 true), [.t 2], (some (20, false))⟩,
  ⟨(some 22), (.call 62), [.t 21], (some (20, false))⟩,
  ⟨(some 23), (.load 15 true), [.t 3], (some (20, false))⟩,
  ⟨(some 24), (.call 62), [.t 23], (some (20, false))⟩,
  ⟨(some 25), (.call 61), [.t 22, .t 24], (some (20, false))⟩,
  ⟨(some 26), .not, [.t 25], (some (20, false))⟩,
  ⟨(some 27), .pick, [.t 20, .c (.bool true), .t 26], none⟩,
  ⟨(some 28), .mv, [.t 27], none⟩,
  ⟨(some 29), (.fld 8), [.t 2], (some (28, false))⟩,
  ⟨(some 30), (.load 1 false), [.t 29], (some (28, false))⟩,
  ⟨(some 31), (.fld 8), [.t 3], (some (28, false))⟩,
  ⟨(some 32), (.load 1 false), [.t 31], (some (28, false))⟩,
  ⟨(some 33), (.bin .neq), [.t 30, .t 32], (some (28, false))⟩,
  ⟨(some 34), .pick, [.t 28, .c (.bool true), .t 33], none⟩,
  ⟨(some 35), .mv, [.t 34], none⟩,
  ⟨(some 36), (.fld 9), [.t 2], (some (35, false))⟩,
  ⟨(some 37), (.load 1 false), [.t 36], (some (35, false))⟩,
  ⟨(some 38), (.fld 9), [.t 3], (some (35, false))⟩,
  ⟨(some 39), (.load 1 false), [.t 38], (some (35, false))⟩,
  ⟨(some 40), (.bin .neq), [.t 37, .t 39], (some (35, false))⟩,
  ⟨(some 41), .pick, [.t 35, .c (.bool true), .t 40], none⟩,
  ⟨(some 42), .mv, [.t 41], none⟩,
  ⟨(some 43), (.fld 10), [.t 2], (some (42, false))⟩,
  ⟨(some 44), (.load 1 false), [.t 43], (some (42, false))⟩,
  ⟨(some 45), (.fld 10), [.t 3], (some (42, false))⟩,
  ⟨(some 46), (.load 1 false), [.t 45], (some (42, false))⟩,
  ⟨(some 47), (.bin .neq), [.t 44, .t 46], (some (42, false))⟩,
  ⟨(some 48), .pick, [.t 42, .c (.bool true), .t 47], none⟩,
  ⟨(some 49), .mv, [.t 48], none⟩,
  ⟨(some 50), (.fld 14), [.t 2], (some (49, false))⟩,
  ⟨(some 51), (.load 1 false), [.t 50], (some (49, false))⟩,
  ⟨(some 52), (.fld 14), [.t 3], (some (49, false))⟩,
  ⟨(some 53), (.load 1 false), [.t 52], (some (49, false))⟩,
  ⟨(some 54), (.bin .neq), [.t 51, .t 53], (some (49, false))⟩,
  ⟨(some 55), .pick, [.t 49, .c (.bool true), .t 54], none⟩,
  ⟨(some 56), .mv, [.t 55], none⟩,
  ⟨(some 57), (.fld 11), [.t 2], (some (56, false))⟩,
  ⟨(some 58), (.load 1 false), [.t 57], (some (56, false))⟩,
  ⟨(some 59), .len, [.t 58], (some (56, false))⟩,
  ⟨(some 60), (.fld 11), [.t 3], (some (56, false))⟩,
  ⟨(some 61), (.load 1 false), [.t 60], (some (56, false))⟩,
  ⟨(some 62), .len, [.t 61], (some (56, false))⟩,
  ⟨(some 63), (.bin .neq), [.t 59, .t 62], (some (56, false))⟩,
  ⟨(some 64), .pick, [.t 56, .c (.bool true), .t 63], none⟩,
  ⟨(some 65), .mv, [.t 64], none⟩,
  ⟨(some 66), (.fld 12), [.t 2], (some (65, false))⟩,
  ⟨(some 67), (.load 1 false), [.t 66], (some (65, false))⟩,
  ⟨(some 68), .len, [.t 67], (some (65, false))⟩,
  ⟨(some 69), (.fld 12), [.t 3], (some (65, false))⟩,
  ⟨(some 70), (.load 1 false), [.t 69], (some (65, false))⟩,
  ⟨(some 71), .len, [.t 70], (some (65, false))⟩,
  ⟨(some 72), (.bin .neq), [.t 68, .t 71], (some (65, false))⟩,
  ⟨(some 73), .pick, [.t 65, .c (.bool true), .t 72], none⟩,
  ⟨(some 74), .mv, [.t 73], none⟩,
  ⟨(some 75), (.fld 13), [.t 2], (some (74, false))⟩,
  ⟨(some 76), (.load 1 false), [.t 75], (some (74, false))⟩,
  ⟨(some 77), .len, [.t 76], (some (74, false))⟩,
  ⟨(some 78), (.fld 13), [.t 3], (some (74, false))⟩,
  ⟨(some 79), (.load 1 false), [.t 78], (some (74, false))⟩,
  ⟨(some 80), .len, [.t 79], (some (74, false))⟩,
  ⟨(some 81), (.bin .neq), [.t 77, .t 80], (some (74, false))⟩,
  ⟨(some 82), .pick, [.t 74, .c (.bool true), .t 81], none⟩] [0, 1, 0, 4, 10, 16, 32, 96, 32, 288, 672, 1056, 2080, 4096, 12288, 4096, 53248, 86016, 135168, 266240, 655360, 1048576, 3145728, 1048576, 9437184, 22020096, 34603008, 68157440, 134217728, 402653184, 134217728, 1207959552, 2818572288, 4429185024, 8724152320, 17179869184, 51539607552, 17179869184, 154618822656, 360777252864, 566935683072, 1116691496960, 2199023255552, 6597069766656, 2199023255552, 19791209299968, 46179488366592, 72567767433216, 142936511610880, 281474976710656, 844424930131968, 1407374883553280, 281474976710656, 4785074604081152, 9288674231451648, 20547673299877888, 36310271995674624, 72339069014638592, 144115188075855872, 432345564227567616, 720575940379279360, 144115188075855872, 2449958197289549824, 4755801206503243776, 10520408729537478656, 18590859261785407488, 37037603335494959104, 73786976294838206464, 221360928884514619392, 368934881474191032320, 73786976294838206464, 1254378597012249509888, 2434970217729660813312, 5386449269523189071872, 9518519942034128633856])
 (.cond (.t 82) (.seq (.reg [⟨(some 4), .mv, [.c (.bool false)], none⟩])
 .ret) .skip))
 (.seq (.seq (.reg [⟨(some 5), .mv, [.c (.int .i64 0)], none⟩])
 (.block 0 (.loop (.seq (.seq (.reg [⟨(some 83), .mv, [.t 5], none⟩,
  ⟨(some 84), (.fld 11), [.t 2], none⟩,
  ⟨(some 85), (.load 1 false), [.t 84], none⟩,
  ⟨(some 86), .len, [.t 85], none⟩,
  ⟨(some 87), (.bin .lss), [.t 83, .t 86], none⟩])
 (.cond (.t 87) .skip (.exit 0)))
 (.seq (.block 1 (.seq (.regd [⟨(some 90), (.fld 11), [.t 2], none⟩,
  ⟨(some 91), (.load 1 false), [.t 90], none⟩,
  ⟨(some 92), .mv, [.t 5], none⟩,
  ⟨(some 93), (.idx 1), [.t 91, .t 92], none⟩,
  ⟨(some 94), (.load 1 false), [.t 93], none⟩,
  ⟨(some 95), (.fld 11), [.t 3], none⟩,
  ⟨(some 96), (.load 1 false), [.t 95], none⟩,
  ⟨(some 97), .mv, [.t 5], none⟩,
  ⟨(some 98), (.idx 1), [.t 96, .t 97], none⟩,
  ⟨(some 99), (.load 1 false), [.t 98], none⟩,
  ⟨(some 100), (.binb .neq), [.t 94, .t 99], none⟩] [0, 1, 0, 6, 8, 0, 32, 0, 192, 256, 528])
 (.cond (.t 100) (.seq (.reg [⟨(some 4), .mv, [.c (.bool false)], none⟩])
 .ret) .skip)))
 (.reg [⟨(some 88), .mv, [.t 5], none⟩,
  ⟨(some 89), (.bin .add), [.t 88, .c (.int .i64 1)], none⟩,
  ⟨(some 5), .mv, [.t 89], none⟩]))))))
 (.seq (.seq (.reg [⟨(some 6), .mv, [.c (.int .i64 0)], none⟩])
 (.block 2 (.loop (.seq (.seq (.reg [⟨(some 101), .mv, [.t 6], none⟩,
  ⟨(some 102), (.fld 12), [.t 2], none⟩,
  ⟨(some 103), (.load 1 false), [.t 102], none⟩,
  ⟨(some 104), .len, [.t 103], none⟩,
  ⟨(some 105), (.bin .lss), [.t 101, .t 104], none⟩])
 (.cond (.t 105) .skip (.exit 2)))
 (.seq (.block 3 (.seq (.regd [⟨(some 108), (.fld 12), [.t 2], none⟩,
  ⟨(some 109), (.load 1 false), [.t 108], none⟩,
  ⟨(some 110), .mv, [.t 6], none⟩,
  ⟨(some 111), (.idx 1), [.t 109, .t 110], none⟩,
  ⟨(some 112), (.load 1 false), [.t 111], none⟩,
  ⟨(some 113), (.fld 12), [.t 3], none⟩,
  ⟨(some 114), (.load 1 false), [.t 113], none⟩,
  ⟨(some 115), .mv, [.t 6], none⟩,
  ⟨(some 116), (.idx 1), [.t 114, .t 115], none⟩,
  ⟨(some 117), (.load 1 false), [.t 116], none⟩,
  ⟨(some 118), (.bin .neq), [.t 112, .t 117], none⟩] [0, 1, 0, 6, 8, 0, 32, 0, 192, 256, 528])
 (.cond (.t 118) (.seq (.reg [⟨(some 4), .mv, [.c (.bool false)], none⟩])
 .ret) .skip)))
 (.reg [⟨(some 106), .mv, [.t 6], none⟩,
  ⟨(some 107), (.bin .add), [.t 106, .c (.int .i64 1)], none⟩,
  ⟨(some 6), .mv, [.t 107], none⟩]))))))
 (.seq (.seq (.reg [⟨(some 7), .mv, [.c (.int .i64 0)], none⟩])
 (.block 4 (.loop (.seq (.seq (.reg [⟨(some 119), .mv, [.t 7], none⟩,
  ⟨(some 120), (.fld 13), [.t 2], none⟩,
  ⟨(some 121), (.load 1 false), [.t 120], none⟩,
  ⟨(some 122), .len, [.t 121], none⟩,
  ⟨(some 123), (.bin .lss), [.t 119, .t 122], none⟩])
 (.cond (.t 123) .skip (.exit 4)))
 (.seq (.block 5 (.seq (.regd [⟨(some 126), (.fld 13), [.t 2], none⟩,
  ⟨(some 127), (.load 1 false), [.t 126], none⟩,
  ⟨(some 128), .mv, [.t 7], none⟩,
  ⟨(some 129), (.idx 1), [.t 127, .t 128], none⟩,
  ⟨(some 130), (.load 1 false), [.t 129], none⟩,
  ⟨(some 131), (.fld 13), [.t 3], none⟩,
  ⟨(some 132), (.load 1 false), [.t 131], none⟩,
  ⟨(some 133), .mv, [.t 7], none⟩,
  ⟨(some 134), (.idx 1), [.t 132, .t 133], none⟩,
  ⟨(some 135), (.load 1 false), [.t 134], none⟩,
  ⟨(some 136), (.bin .neq), [.t 130, .t 135], none⟩] [0, 1, 0, 6, 8, 0, 32, 0, 192, 256, 528])
 (.cond (.t 136) (.seq (.reg [⟨(some 4), .mv, [.c (.bool false)], none⟩])
 .ret) .skip)))
 (.reg [⟨(some 124), .mv, [.t 7], none⟩,
  ⟨(some 125), (.bin .add), [.t 124, .c (.int .i64 1)], none⟩,
  ⟨(some 7), .mv, [.t 125], none⟩]))))))
 (.seq (.reg [⟨(some 4), .mv, [.c (.bool true)], none⟩])
 .ret))))))
theorem comp33 : compC Go.Proofs.Try.prog ttL 137 [] (match Go.Proofs.Try.f33.body with | some b => b | none => .skip) = some (c33) := by kernel_rfl
def c37 : C := (.seq (.reg [⟨(some 4), .mv, [.c (.bool false)], none⟩])
 (.seq (.reg [⟨(some 5), .mv, [.t 0], none⟩,
  ⟨(some 6), .len, [.t 5], none⟩,
  ⟨(some 7), .mv, [.t 1], none⟩,
  ⟨(some 8), .len, [.t 7], none⟩,
  ⟨(some 9), (.bin .eql), [.t 6, .t 8], none⟩,
  ⟨(some 10), .mv, [.t 9], none⟩,
  ⟨(some 11), .mv, [.t 0], (some (10, true))⟩,
  ⟨(some 12), .mv, [.t 1], (some (10, true))⟩,
  ⟨(some 13), (.call 93), [.t 11, .t 12], (some (10, true))⟩,
  ⟨(some 14), .mv, [.t 0], (some (10, true))⟩,
  ⟨(some 15), .len, [.t 14], (some (10, true))⟩,
  ⟨(some 16), (.bin .eql), [.t 13, .t 15], (some (10, true))⟩,
  ⟨(some 17), .pick, [.t 10, .t 16, .c (.bool false)], none⟩,
  ⟨(some 4), .mv, [.t 17], none⟩])
 .ret))
theorem comp37 : compC Go.Proofs.Try.prog ttL 18 [] (match Go.Proofs.Try.f37.body with | some b => b | none => .skip) = some (c37) := by kernel_rfl
def c61 : C := (.seq (.reg [⟨(some 2), .box, [.t 0], none⟩,
  ⟨(some 3), .box, [.t 1], none⟩,
  ⟨(some 4), .mv, [.c (.bool false)], none⟩])
 (.seq (.reg [⟨(some 5), (.fld 0), [.t 2], none⟩,
  ⟨(some 6), (.load 1 false), [.t 5], none⟩,
  ⟨(some 7), (.fld 0), [.t 3], none⟩,
  ⟨(some 8), (.load 1 false), [.t 7], none⟩,
  ⟨(some 9), (.bin .eql), [.t 6, .t 8], none⟩,
  ⟨(some 10), .mv, [.t 9], none⟩,
  ⟨(some 11), (.fld 1), [.t 2], (some (10, true))⟩,
  ⟨(some 12), (.load 1 false), [.t 11], (some (10, true))⟩,
  ⟨(some 13), (.fld 1), [.t 3], (some (10, true))⟩,
  ⟨(some 14), (.load 1 false), [.t 13], (some (10, true))⟩,
  ⟨(some 15), (.bin .eql), [.t 12, .t 14], (some (10, true))⟩,
  ⟨(some 16), .pick, [.t 10, .t 15, .c (.bool false)], none⟩,
  ⟨(some 17), .mv, [.t 16], none⟩,
  ⟨(some 18), (.fld 2), [.t 2], (some (17, true))⟩,
  ⟨(some 19), (.load 1 false), [.t 18], (some (17, true))⟩,
  ⟨(some 20), (.fld 2), [.t 3], (some (17, true))⟩,
  ⟨(some 21), (.load 1 false), [.t 20], (some (17, true))⟩,
  ⟨(some 22), (.bin .eql), [.t 19, .t 21], (some (17, true))⟩,
  ⟨(some 23), .pick, [.t 17, .t 22, .c (.bool false)], none⟩,
  ⟨(some 24), .mv, [.t 23], none⟩,
  ⟨(some 25), (.fld 3), [.t 2], (some (24, true))⟩,
  ⟨(some 26), (.load 1 false), [.t 25], (some (24, true))⟩,
  ⟨(some 27), (.fld 3), [.t 3], (some (24, true))⟩,
  ⟨(some 28), (.load 1 false), [.t 27], (some (24, true))⟩,
  ⟨(some 29), (.bin .eql), [.t 26, .t 28], (some (24, true))⟩,
  ⟨(some 30), .pick, [.t 24, .t 29, .c (.bool false)], none⟩,
  ⟨(some 31), .mv, [.t 30], none⟩,
  ⟨(some 32), (.fld 4), [.t 2], (some (31, true))⟩,
  ⟨(some 33), (.load 1 false), [.t 32], (some (31, true))⟩,
  ⟨(some 34), (.fld 4), [.t 3], (some (31, true))⟩,
  ⟨(some 35), (.load 1 false), [.t 34], (some (31, true))⟩,
  ⟨(some 36), (.bin .eql), [.t 33, .t 35], (some (31, true))⟩,
  ⟨(some 37), .pick, [.t 31, .t 36, .c (.bool false)], none⟩,
  ⟨(some 38), .mv, [.t 37], none⟩,
  ⟨(some 39), (.fld 5), [.t 2], (some (38, true))⟩,
  ⟨(some 40), (.load 1 false), [.t 39], (some (38, true))⟩,
  ⟨(some 41), (.fld 5), [.t 3], (some (38, true))⟩,
  ⟨(some 42), (.load 1 false), [.t 41], (some (38, true))⟩,
  ⟨(some 43), (.call 37), [.t 40, .t 42], (some (38, true))⟩,
  ⟨(some 44), .pick, [.t 38, .t 43, .c (.bool false)], none⟩,
  ⟨(some 4), .mv, [.t 44], none⟩])
 .ret))
theorem comp61 : compC Go.Proofs.Try.prog ttL 45 [] (match Go.Proofs.Try.f61.body with | some b => b | none => .skip) = some (c61) := by kernel_rfl
def c93 : C := (.seq (.reg [⟨(some 4), .mv, [.c (.int .i64 0)], none⟩])
 (.seq (.reg [⟨(some 5), .mv, [.c (.int .i64 0)], none⟩])
 (.seq (.block 0 (.loop (.seq (.seq (.regd [⟨(some 6), .mv, [.t 5], none⟩,
  ⟨(some 7), .mv, [.t 0], none⟩,
  ⟨(some 8), .len, [.t 7], none⟩,
  ⟨(some 9), (.bin .lss), [.t 6, .t 8], none⟩,
  ⟨(some 10), .mv, [.t 9], none⟩,
  ⟨(some 11), .mv, [.t 5], (some (10, true))⟩,
  ⟨(some 12), .mv, [.t 1], (some (10, true))⟩,
  ⟨(some 13), .len, [.t 12], (some (10, true))⟩,
  ⟨(some 14), (.bin .lss), [.t 11, .t 13], (some (10, true))⟩,
  ⟨(some 15), .pick, [.t 10, .t 14, .c (.bool false)], none⟩,
  ⟨(some 16), .mv, [.t 15], none⟩,
  ⟨(some 17), .mv, [.t 0], (some (16, true))⟩,
  ⟨(some 18), .mv, [.t 5], (some (16, true))⟩,
  ⟨(some 19), (.idx 2), [.t 17, .t 18], (some (16, true))⟩,
  ⟨(some 20), (.fld 0), [.t 19], (some (16, true))⟩,
  ⟨(some 21), (.load 1 false), [.t 20], (some (16, true))⟩,
  ⟨(some 22), .mv, [.t 1], (some (16, true))⟩,
  ⟨(some 23), .mv, [.t 5], (some (16, true))⟩,
  ⟨(some 24), (.idx 2), [.t 22, .t 23], (some (16, true))⟩,
  ⟨(some 25), (.fld 0), [.t 24], (some (16, true))⟩,
  ⟨(some 26), (.load 1 false), [.t 25], (some (16, true))⟩,
  ⟨(some 27), (.bin .eql), [.t 21, .t 26], (some (16, true))⟩,
  ⟨(some 28), .pick, [.t 16, .t 27, .c (.bool false)], none⟩,
  ⟨(some 29), .mv, [.t 28], none⟩,
  ⟨(some 30), .mv, [.t 0], (some (29, true))⟩,
  ⟨(some 31), .mv, [.t 5], (some (29, true))⟩,
  ⟨(some 32), (.idx 2), [.t 30, .t 31], (some (29, true))⟩,
  ⟨(some 33), (.fld 1), [.t 32], (some (29, true))⟩,
  ⟨(some 34), (.load 1 false), [.t 33], (some (29, true))⟩,
  ⟨(some 35), .mv, [.t 1], (some (29, true))⟩,
  ⟨(some 36), .mv, [.t 5], (some (29, true))⟩,
  ⟨(some 37), (.idx 2), [.t 35, .t 36], (some (29, true))⟩,
  ⟨(some 38), (.fld 1), [.t 37], (some (29, true))⟩,
  ⟨(some 39), (.load 1 false), [.t 38], (some (29, true))⟩,
  ⟨(some 40), (.bin .eql), [.t 34, .t 39], (some (29, true))⟩,
  ⟨(some 41), .pick, [.t 29, .t 40, .c (.bool false)], none⟩] [0, 0, 2, 5, 8, 16, 16, 80, 176, 272, 528, 1024, 1024, 7168, 9216, 17408, 1024, 1024, 197632, 263168, 525312, 1082368, 2098176, 4195328, 8388608, 8388608, 58720256, 75497472, 142606336, 8388608, 8388608, 1619001344, 2155872256, 4303355904, 8866758656, 17188257792])
 (.cond (.t 41) .skip (.exit 0)))
 (.block 1 (.reg [⟨(some 42), .mv, [.t 5], none⟩,
  ⟨(some 43), (.bin .add), [.t 42, .c (.int .i64 1)], none⟩,
  ⟨(some 5), .mv, [.t 43], none⟩])))))
 (.seq (.reg [⟨(some 44), .mv, [.t 5], none⟩,
  ⟨(some 4), .mv, [.t 44], none⟩])
 .ret))))
theorem comp93 : compC Go.Proofs.Try.prog ttL 45 [] (match Go.Proofs.Try.f93.body with | some b => b | none => .skip) = some (c93) := by kernel_rfl
end Go.AM
set_option maxRecDepth 100000
set_option maxHeartbeats 4000000
set_option linter.unusedSimpArgs false
namespace Go.AM
open Go.Proofs
attribute [local congr] vc_congr evOps_congr evTab_congr bind_congr condK_congr tabK_congr
theorem str_eq (a b : ByteArray) : (a.toList == b.toList) = decide (a = b) := by
  by_cases h : a = b
  · subst h; simp
  · rw [decide_eq_false h]
    rw [beq_eq_false_iff_ne]
    intro h2
    apply h
    rw [ByteArray.toList_eq, ByteArray.toList_eq] at h2
    cases a; cases b
    simpa [Array.toList_inj] using h2
def alike : List E → List E → Nat
  | x :: xs, y :: ys => if x.1 = y.1 ∧ x.2.1 = y.2.1 then alike xs ys + 1 else 0
  | _, _ => 0
theorem alike_nil (a : List E) : alike a [] = 0 := by cases a <;> rfl
theorem alike_drop {a b : List E} {k : Nat} (h : k + alike (a.drop k) (b.drop k) = alike a b) (ha : k < a.length) (hb : k < b.length)
    (e1 : (a.getD k (dflt tEntry)).1 = (b.getD k (dflt tEntry)).1) (e2 : (a.getD k (dflt tEntry)).2.1 = (b.getD k (dflt tEntry)).2.1) :
    k + 1 + alike (a.drop (k + 1)) (b.drop (k + 1)) = alike a b := by
  rw [List.drop_eq_getElem_cons ha, List.drop_eq_getElem_cons hb] at h
  rw [List.getD_eq_getElem?_getD, List.getD_eq_getElem?_getD, List.getElem?_eq_getElem ha, List.getElem?_eq_getElem hb] at e1 e2
  simp only [Option.getD_some] at e1 e2
  simp only [alike, e1, e2, and_self, if_true] at h
  omega
theorem alike_stop {a b : List E} {k : Nat} (h : k + alike (a.drop k) (b.drop k) = alike a b)
    (hs : ¬ (k < a.length ∧ k < b.length ∧ (a.getD k (dflt tEntry)).1 = (b.getD k (dflt tEntry)).1 ∧ (a.getD k (dflt tEntry)).2.1 = (b.getD k (dflt tEntry)).2.1)) : k = alike a b := by
  by_cases ha : k < a.length
  · by_cases hb : k < b.length
    · rw [List.drop_eq_getElem_cons ha, List.drop_eq_getElem_cons hb] at h
      rw [List.getD_eq_getElem?_getD, List.getD_eq_getElem?_getD, List.getElem?_eq_getElem ha, List.getElem?_eq_getElem hb] at hs
      simp only [Option.getD_some, ha, hb, true_and] at hs
      simp only [alike, hs, if_false] at h
      omega
    · rw [List.drop_eq_nil_of_le (by omega : b.length ≤ k), alike_nil] at h
      omega
  · rw [List.drop_eq_nil_of_le (by omega : a.length ≤ k)] at h
    simp only [alike] at h
    omega
theorem alike_le (a b : List E) : alike a b ≤ a.length := by
  induction a generalizing b with
  | nil => simp [alike]
  | cons x a ih =>
    cases b with
    | nil => simp [alike]
    | cons y b =>
      have := ih b
      simp only [alike, List.length_cons]
      split <;> omega
theorem alike_all (a b : List E) : (a.length = b.length ∧ alike a b = a.length) ↔ a = b := by
  induction a generalizing b with
  | nil =>
    cases b with
    | nil => simp [alike]
    | cons y b => simp [alike]
  | cons x a ih =>
    cases b with
    | nil => simp [alike]
    | cons y b =>
      simp only [alike, List.length_cons, List.cons.injEq]
      rw [← ih b]
      have := alike_le a b
      have ext : x = y ↔ x.1 = y.1 ∧ x.2.1 = y.2.1 := by
        constructor
        · rintro rfl; exact ⟨rfl, rfl⟩
        · rintro ⟨h1, h2⟩
          obtain ⟨x1, x2, _⟩ := x
          obtain ⟨y1, y2, _⟩ := y
          simp only at h1 h2
          rw [h1, h2]
      rw [ext]
      split
      · rename_i h
        constructor
        · rintro ⟨h1, h2⟩; exact ⟨h, by omega, by omega⟩
        · rintro ⟨_, h1, h2⟩; exact ⟨by omega, by omega⟩
      · rename_i h
        constructor
        · rintro ⟨h1, h2⟩; omega
        · rintro ⟨h1, _⟩; exact absurd h1 h
def fn93 : Fn := { a := .pair (.list tEntry) (.pair (.list tEntry) .unit), r := .pair tI .unit, pre := fun x => smallL x.1, f := fun x => ((alike x.1 x.2.1 : Int), ()) }
theorem h93  : Holds Try.prog 93 (fn93) := by
  refine Holds.of_vc (T := []) (TT := ttL) (rowAt := []) (c := c93) (ros := [.t 4]) (.nil _) mixed Try.func93 (by decide +kernel) (by rfl) comp93 (by kernel_rfl) rfl rfl (fun h => by cases h) ?_
  rintro ⟨(a : List E), (b : List E), _⟩ hpre
  simp only [fn93] at hpre ⊢
  simp only [c93, go_sem, reduceIte, Nat.reduceBEq, Nat.reduceMul, reduceCtorEq, Nat.reduceAdd, Nat.reduceEqDiff, decide_eq_true_eq, decide_eq_false_iff_not, Bool.not_eq_true', Bool.not_eq_false', Bool.and_eq_true, Bool.or_eq_true, Bool.and_eq_false_iff, Bool.or_eq_false_iff, Bool.cond_true_left, Bool.cond_false_right, Bool.cond_true_right, Bool.cond_false_left, Bool.or_false, Bool.and_true, inR]
  refine loop_rule (β := Nat) (fun i => ⟨[(0, .sl tEntry a false), (1, .sl tEntry b false), (5, .int .i64 i)], []⟩) (fun i => i ≤ a.length ∧ i + alike (a.drop i) (b.drop i) = alike a b) (fun i => a.length - i) 0 ?_ ?_ ?_
  · refine Ent_of [] rfl ?_ ?_
    · simp only [go_sem, reduceIte, Nat.reduceBEq, Nat.reduceMul, reduceCtorEq, Nat.reduceAdd, Nat.reduceEqDiff, decide_eq_true_eq, decide_eq_false_iff_not, Bool.not_eq_true', Bool.not_eq_false', Bool.and_eq_true, Bool.or_eq_true, Bool.and_eq_false_iff, Bool.or_eq_false_iff, Bool.cond_true_left, Bool.cond_false_right, Bool.cond_true_right, Bool.cond_false_left, Bool.or_false, Bool.and_true]
    · simp only [go_sem, reduceIte, Nat.reduceBEq, Nat.reduceMul, reduceCtorEq, Nat.reduceAdd, Nat.reduceEqDiff, decide_eq_true_eq, decide_eq_false_iff_not, Bool.not_eq_true', Bool.not_eq_false', Bool.and_eq_true, Bool.or_eq_true, Bool.and_eq_false_iff, Bool.or_eq_false_iff, Bool.cond_true_left, Bool.cond_false_right, Bool.cond_true_right, Bool.cond_false_left, Bool.or_false, Bool.and_true]
      trivial
  · exact ⟨Nat.zero_le _, by rw [Nat.zero_add]; rfl⟩
  rintro i ⟨hi, hk⟩
  simp only [go_sem, reduceIte, Nat.reduceBEq, Nat.reduceMul, reduceCtorEq, Nat.reduceAdd, Nat.reduceEqDiff, decide_eq_true_eq, decide_eq_false_iff_not, Bool.not_eq_true', Bool.not_eq_false', Bool.and_eq_true, Bool.or_eq_true, Bool.and_eq_false_iff, Bool.or_eq_false_iff, Bool.cond_true_left, Bool.cond_false_right, Bool.cond_true_right, Bool.cond_false_left, Bool.or_false, Bool.and_true, inR, str_eq]
  simp only [sm] at hpre
  refine ⟨by omega, by omega, by omega, by omega, by rfl, fun h => ⟨by omega, Again.intro (i + 1) (Ent_of [] rfl ?_ ?_) ⟨?_, ?_⟩ (show a.length - (i + 1) < a.length - i by omega)⟩, fun h => ?_⟩
  · simp only [go_sem, reduceIte, Nat.reduceBEq, Nat.reduceMul, reduceCtorEq, Nat.reduceAdd, Nat.reduceEqDiff, decide_eq_true_eq, decide_eq_false_iff_not, Bool.not_eq_true', Bool.not_eq_false', Bool.and_eq_true, Bool.or_eq_true, Bool.and_eq_false_iff, Bool.or_eq_false_iff, Bool.cond_true_left, Bool.cond_false_right, Bool.cond_true_right, Bool.cond_false_left, Bool.or_false, Bool.and_true]
  · simp only [go_sem, reduceIte, Nat.reduceBEq, Nat.reduceMul, reduceCtorEq, Nat.reduceAdd, Nat.reduceEqDiff, decide_eq_true_eq, decide_eq_false_iff_not, Bool.not_eq_true', Bool.not_eq_false', Bool.and_eq_true, Bool.or_eq_true, Bool.and_eq_false_iff, Bool.or_eq_false_iff, Bool.cond_true_left, Bool.cond_false_right, Bool.cond_true_right, Bool.cond_false_left, Bool.or_false, Bool.and_true]
    omega
  · show i + 1 ≤ a.length; omega
  · exact alike_drop hk (by omega) (by omega) h.1.2 h.2
  · rw [← alike_stop hk (fun hc => ?_)]
    rcases h with (h | h) | h
    · omega
    · exact h hc.2.2.1
    · exact h hc.2.2.2
noncomputable def eqB {α : Type} (a b : α) : Bool := @decide (a = b) (Classical.propDecidable _)
theorem eqB_iff {α : Type} {a b : α} : eqB a b = true ↔ a = b := by unfold eqB; exact @decide_eq_true_iff _ (Classical.propDecidable _)
theorem eqB_self {α : Type} (a : α) : eqB a a = true := eqB_iff.2 rfl
theorem eqB_of {α : Type} {a b : α} {c : Bool} (h : c = true ↔ a = b) : c = eqB a b := by
  rw [Bool.eq_iff_iff, eqB_iff]; exact h
noncomputable def fn37 : Fn := { a := .pair (.list tEntry) (.pair (.list tEntry) .unit), r := .pair .bool .unit, pre := fun x => smallL x.1, f := fun x => (eqB x.1 x.2.1, ()) }
theorem h37  : Holds Try.prog 37 (fn37) := by
  refine Holds.of_vc (T := [(93, fn93)]) (TT := ttL) (rowAt := []) (c := c37) (ros := [.t 4]) (.cons _ h93 (.nil _)) mixed Try.func37 (by decide +kernel) (by rfl) comp37 (by kernel_rfl) rfl rfl (fun h => by cases h) ?_
  rintro ⟨(a : List E), (b : List E), _⟩ hpre
  simp only [fn37] at hpre ⊢
  simp only [c37, fn93, go_sem, reduceIte, Nat.reduceBEq, Nat.reduceMul, reduceCtorEq, Nat.reduceAdd, Nat.reduceEqDiff, decide_eq_true_eq, decide_eq_false_iff_not, Bool.not_eq_true', Bool.not_eq_false', Bool.and_eq_true, Bool.or_eq_true, Bool.and_eq_false_iff, Bool.or_eq_false_iff, Bool.cond_true_left, Bool.cond_false_right, Bool.cond_true_right, Bool.cond_false_left, Bool.or_false, Bool.and_true, inR]
  refine ⟨fun _ => hpre, eqB_of ?_⟩
  simp only [Bool.and_eq_true, Bool.or_eq_true, decide_eq_true_eq, decide_eq_false_iff_not, Bool.and_eq_false_iff, Bool.or_eq_false_iff, Bool.not_eq_true', Bool.not_eq_false']
  rw [← alike_all a b]
  omega
noncomputable def fn61 : Fn := { a := .pair tHard (.pair tHard .unit), r := .pair .bool .unit, pre := fun x => smallL x.1.2.2.2.2.2.1, f := fun x => (eqB x.1 x.2.1, ()) }
theorem h61  : Holds Try.prog 61 (fn61) := by
  refine Holds.of_vc (T := [(37, fn37)]) (TT := ttL) (rowAt := []) (c := c61) (ros := [.t 4]) (.cons _ h37 (.nil _)) mixed Try.func61 (by decide +kernel) (by rfl) comp61 (by kernel_rfl) rfl rfl (fun h => by cases h) ?_
  rintro ⟨(a : Hrd), (b : Hrd), _⟩ hpre
  simp only [fn61] at hpre ⊢
  simp only [c61, fn37, go_sem, reduceIte, Nat.reduceBEq, Nat.reduceMul, reduceCtorEq, Nat.reduceAdd, Nat.reduceEqDiff, decide_eq_true_eq, decide_eq_false_iff_not, Bool.not_eq_true', Bool.not_eq_false', Bool.and_eq_true, Bool.or_eq_true, Bool.and_eq_false_iff, Bool.or_eq_false_iff, Bool.cond_true_left, Bool.cond_false_right, Bool.cond_true_right, Bool.cond_false_left, Bool.or_false, Bool.and_true, inR, str_eq]
  refine ⟨fun _ => hpre, eqB_of ?_⟩
  simp only [Bool.and_eq_true, decide_eq_true_eq, eqB_iff]
  obtain ⟨a1, a2, a3, a4, a5, a6, _⟩ := a
  obtain ⟨b1, b2, b3, b4, b5, b6, _⟩ := b
  constructor
  · rintro ⟨⟨⟨⟨⟨h1, h2⟩, h3⟩, h4⟩, h5⟩, h6⟩
    simp only at h1 h2 h3 h4 h5 h6
    rw [h1, h2, h3, h4, h5, h6]
  · intro h
    cases h
    exact ⟨⟨⟨⟨⟨rfl, rfl⟩, rfl⟩, rfl⟩, rfl⟩, rfl⟩
theorem node_ext {a b : Node} (h : hard a = hard b) (h1 : a.1 = b.1) (h2 : a.2.1 = b.2.1) (h3 : nRole a = nRole b) (h4 : nLead a = nLead b) (h5 : nCommit a = nCommit b) (h6 : nVotes a = nVotes b) (h7 : nNext a = nNext b) (h8 : nMatch a = nMatch b) (h9 : nClock a = nClock b) : a = b := by
  obtain ⟨a1, a2, a3, a4, a5, a6, a7, a8, a9, a10, a11, a12, a13, a14, a15, _⟩ := a
  obtain ⟨b1, b2, b3, b4, b5, b6, b7, b8, b9, b10, b11, b12, b13, b14, b15, _⟩ := b
  unfold hard at h
  dsimp only [den, nId, nNodes, nTerm, nVote, nBase, nBT, nSnap, nLog, nRole, nLead, nCommit, nVotes, nNext, nMatch, nClock, mKind, mFrom, mTo, mTerm, mIndex, mAt, mYes, mCommit, mEntries, mSnap, eTerm, eCmd, mkN, mkM, mkE, last, inR, sm, lastT] at *
  simp only [Prod.mk.injEq] at h
  obtain ⟨g1, g2, g3, g4, g5, g6, _⟩ := h
  subst h1 h2 h3 h4 h5 h6 h7 h8 h9 g1 g2 g3 g4 g5 g6
  rfl
theorem eqB_ne {α : Type} {a b : α} (h : a ≠ b) : false = eqB a b := by
  cases hc : eqB a b with
  | false => rfl
  | true => exact absurd (eqB_iff.1 hc) h
theorem list_eq_of_getD {α : Type} (d : α) {l l' : List α} (hl : l.length = l'.length) (h : ∀ j, j < l.length → l.getD j d = l'.getD j d) : l = l' := by
  refine List.ext_getElem hl fun j h1 h2 => ?_
  have := h j h1
  rw [List.getD_eq_getElem?_getD, List.getD_eq_getElem?_getD, List.getElem?_eq_getElem h1, List.getElem?_eq_getElem h2] at this
  exact this
theorem upTo {α : Type} {d : α} {l l' : List α} {i : Nat} (h : ∀ j, j < i → l.getD j d = l'.getD j d) (e : l.getD i d = l'.getD i d) : ∀ j, j < i + 1 → l.getD j d = l'.getD j d := by
  intro j hj
  rcases Nat.lt_or_ge j i with h2 | h2
  · exact h j h2
  · rw [show j = i by omega]; exact e
noncomputable def fn33 : Fn := { a := .pair tNode (.pair tNode .unit), r := .pair .bool .unit, pre := fun x => smallL (nLog x.1) ∧ smallL (nVotes x.1) ∧ smallL (nNext x.1) ∧ smallL (nMatch x.1), f := fun x => (eqB x.1 x.2.1, ()) }
theorem h33  : Holds Try.prog 33 (fn33) := by
  refine Holds.of_vc (T := [(62, fn62), (61, fn61)]) (TT := ttL) (rowAt := []) (c := c33) (ros := [.t 4]) (.cons _ h62 (.cons _ h61 (.nil _))) mixed Try.func33 (by decide +kernel) (by rfl) comp33 (by kernel_rfl) rfl rfl (fun h => by cases h) ?_
  rintro ⟨(a : Node), (b : Node), _⟩ hpre
  simp only [fn33] at hpre ⊢
  simp only [c33, fn62, fn61, go_sem, reduceIte, Nat.reduceBEq, Nat.reduceMul, reduceCtorEq, Nat.reduceAdd, Nat.reduceEqDiff, decide_eq_true_eq, decide_eq_false_iff_not, Bool.not_eq_true', Bool.not_eq_false', Bool.and_eq_true, Bool.or_eq_true, Bool.and_eq_false_iff, Bool.or_eq_false_iff, Bool.cond_true_left, Bool.cond_false_right, Bool.cond_true_right, Bool.cond_false_left, Bool.or_false, Bool.and_true, inR]
  refine ⟨fun _ => hpre.1, by rfl, fun h => eqB_ne fun e => ?_, fun h => ?_⟩
  · subst e
    have := eqB_self (hard a)
    simp [this] at h
  have hl5 : (nVotes a).length = (nVotes b).length := by have := h.1.1.2; dsimp only [den, nId, nNodes, nTerm, nVote, nBase, nBT, nSnap, nLog, nRole, nLead, nCommit, nVotes, nNext, nMatch, nClock, mKind, mFrom, mTo, mTerm, mIndex, mAt, mYes, mCommit, mEntries, mSnap, eTerm, eCmd, mkN, mkM, mkE, last, inR, sm, lastT] at *; omega
  have hl6 : (nNext a).length = (nNext b).length := by have := h.1.2; dsimp only [den, nId, nNodes, nTerm, nVote, nBase, nBT, nSnap, nLog, nRole, nLead, nCommit, nVotes, nNext, nMatch, nClock, mKind, mFrom, mTo, mTerm, mIndex, mAt, mYes, mCommit, mEntries, mSnap, eTerm, eCmd, mkN, mkM, mkE, last, inR, sm, lastT] at *; omega
  have hl7 : (nMatch a).length = (nMatch b).length := by have := h.2; dsimp only [den, nId, nNodes, nTerm, nVote, nBase, nBT, nSnap, nLog, nRole, nLead, nCommit, nVotes, nNext, nMatch, nClock, mKind, mFrom, mTo, mTerm, mIndex, mAt, mYes, mCommit, mEntries, mSnap, eTerm, eCmd, mkN, mkM, mkE, last, inR, sm, lastT] at *; omega
  have hp := hpre
  simp only [sm] at hp
  refine loop_rule (β := Nat) (fun i => ⟨[(2, .ptr 2 0), (3, .ptr 3 0), (5, .int .i64 i)], [(2, .box (cellsA tNode a [])), (3, .box (cellsA tNode b []))]⟩) (fun i => i ≤ (nVotes a).length ∧ ∀ j, j < i → (nVotes a).getD j (dflt .bool) = (nVotes b).getD j (dflt .bool)) (fun i => (nVotes a).length - i) 0 ?_ ?_ ?_
  · refine Ent_of [(2, 2), (3, 3)] rfl ?_ ?_
    · simp only [go_sem, reduceIte, Nat.reduceBEq, Nat.reduceMul, reduceCtorEq, Nat.reduceAdd, Nat.reduceEqDiff, decide_eq_true_eq, decide_eq_false_iff_not, Bool.not_eq_true', Bool.not_eq_false', Bool.and_eq_true, Bool.or_eq_true, Bool.and_eq_false_iff, Bool.or_eq_false_iff, Bool.cond_true_left, Bool.cond_false_right, Bool.cond_true_right, Bool.cond_false_left, Bool.or_false, Bool.and_true]
    · simp only [go_sem, reduceIte, Nat.reduceBEq, Nat.reduceMul, reduceCtorEq, Nat.reduceAdd, Nat.reduceEqDiff, decide_eq_true_eq, decide_eq_false_iff_not, Bool.not_eq_true', Bool.not_eq_false', Bool.and_eq_true, Bool.or_eq_true, Bool.and_eq_false_iff, Bool.or_eq_false_iff, Bool.cond_true_left, Bool.cond_false_right, Bool.cond_true_right, Bool.cond_false_left, Bool.or_false, Bool.and_true]
      trivial
  · exact ⟨Nat.zero_le _, fun j hj => absurd hj (Nat.not_lt_zero j)⟩
  rintro i ⟨hi, hk⟩
  simp only [go_sem, reduceIte, Nat.reduceBEq, Nat.reduceMul, reduceCtorEq, Nat.reduceAdd, Nat.reduceEqDiff, decide_eq_true_eq, decide_eq_false_iff_not, Bool.not_eq_true', Bool.not_eq_false', Bool.and_eq_true, Bool.or_eq_true, Bool.and_eq_false_iff, Bool.or_eq_false_iff, Bool.cond_true_left, Bool.cond_false_right, Bool.cond_true_right, Bool.cond_false_left, Bool.or_false, Bool.and_true, inR]
  refine ⟨fun h => ⟨by dsimp only [den, nId, nNodes, nTerm, nVote, nBase, nBT, nSnap, nLog, nRole, nLead, nCommit, nVotes, nNext, nMatch, nClock, mKind, mFrom, mTo, mTerm, mIndex, mAt, mYes, mCommit, mEntries, mSnap, eTerm, eCmd, mkN, mkM, mkE, last, inR, sm, lastT] at *; omega, by dsimp only [den, nId, nNodes, nTerm, nVote, nBase, nBT, nSnap, nLog, nRole, nLead, nCommit, nVotes, nNext, nMatch, nClock, mKind, mFrom, mTo, mTerm, mIndex, mAt, mYes, mCommit, mEntries, mSnap, eTerm, eCmd, mkN, mkM, mkE, last, inR, sm, lastT] at *; omega, by rfl, fun hd => eqB_ne fun e => ?_, fun hs => ⟨by dsimp only [den, nId, nNodes, nTerm, nVote, nBase, nBT, nSnap, nLog, nRole, nLead, nCommit, nVotes, nNext, nMatch, nClock, mKind, mFrom, mTo, mTerm, mIndex, mAt, mYes, mCommit, mEntries, mSnap, eTerm, eCmd, mkN, mkM, mkE, last, inR, sm, lastT] at *; omega, Again.intro (i + 1) (Ent_of [(2, 2), (3, 3)] rfl ?_ ?_) ⟨?_, upTo hk ?_⟩ ?_⟩⟩, fun h => ?_⟩
  · subst e; simp at hd
  · simp only [go_sem, reduceIte, Nat.reduceBEq, Nat.reduceMul, reduceCtorEq, Nat.reduceAdd, Nat.reduceEqDiff, decide_eq_true_eq, decide_eq_false_iff_not, Bool.not_eq_true', Bool.not_eq_false', Bool.and_eq_true, Bool.or_eq_true, Bool.and_eq_false_iff, Bool.or_eq_false_iff, Bool.cond_true_left, Bool.cond_false_right, Bool.cond_true_right, Bool.cond_false_left, Bool.or_false, Bool.and_true]
  · simp only [go_sem, reduceIte, Nat.reduceBEq, Nat.reduceMul, reduceCtorEq, Nat.reduceAdd, Nat.reduceEqDiff, decide_eq_true_eq, decide_eq_false_iff_not, Bool.not_eq_true', Bool.not_eq_false', Bool.and_eq_true, Bool.or_eq_true, Bool.and_eq_false_iff, Bool.or_eq_false_iff, Bool.cond_true_left, Bool.cond_false_right, Bool.cond_true_right, Bool.cond_false_left, Bool.or_false, Bool.and_true]
    omega
  · show i + 1 ≤ (nVotes a).length; dsimp only [den, nId, nNodes, nTerm, nVote, nBase, nBT, nSnap, nLog, nRole, nLead, nCommit, nVotes, nNext, nMatch, nClock, mKind, mFrom, mTo, mTerm, mIndex, mAt, mYes, mCommit, mEntries, mSnap, eTerm, eCmd, mkN, mkM, mkE, last, inR, sm, lastT] at *; omega
  · simpa using hs
  · show (nVotes a).length - (i + 1) < (nVotes a).length - i; dsimp only [den, nId, nNodes, nTerm, nVote, nBase, nBT, nSnap, nLog, nRole, nLead, nCommit, nVotes, nNext, nMatch, nClock, mKind, mFrom, mTo, mTerm, mIndex, mAt, mYes, mCommit, mEntries, mSnap, eTerm, eCmd, mkN, mkM, mkE, last, inR, sm, lastT] at *; omega
  have ev5 : nVotes a = nVotes b := list_eq_of_getD _ hl5 fun j hj => hk j (by dsimp only [den, nId, nNodes, nTerm, nVote, nBase, nBT, nSnap, nLog, nRole, nLead, nCommit, nVotes, nNext, nMatch, nClock, mKind, mFrom, mTo, mTerm, mIndex, mAt, mYes, mCommit, mEntries, mSnap, eTerm, eCmd, mkN, mkM, mkE, last, inR, sm, lastT] at *; omega)
  clear hk h hi
  refine loop_rule (β := Nat) (fun i => ⟨[(2, .ptr 2 0), (3, .ptr 3 0), (6, .int .i64 i)], [(2, .box (cellsA tNode a [])), (3, .box (cellsA tNode b []))]⟩) (fun i => i ≤ (nNext a).length ∧ ∀ j, j < i → (nNext a).getD j (dflt tI) = (nNext b).getD j (dflt tI)) (fun i => (nNext a).length - i) 0 ?_ ?_ ?_
  · refine Ent_of [(2, 2), (3, 3)] rfl ?_ ?_
    · simp only [go_sem, reduceIte, Nat.reduceBEq, Nat.reduceMul, reduceCtorEq, Nat.reduceAdd, Nat.reduceEqDiff, decide_eq_true_eq, decide_eq_false_iff_not, Bool.not_eq_true', Bool.not_eq_false', Bool.and_eq_true, Bool.or_eq_true, Bool.and_eq_false_iff, Bool.or_eq_false_iff, Bool.cond_true_left, Bool.cond_false_right, Bool.cond_true_right, Bool.cond_false_left, Bool.or_false, Bool.and_true]
    · simp only [go_sem, reduceIte, Nat.reduceBEq, Nat.reduceMul, reduceCtorEq, Nat.reduceAdd, Nat.reduceEqDiff, decide_eq_true_eq, decide_eq_false_iff_not, Bool.not_eq_true', Bool.not_eq_false', Bool.and_eq_true, Bool.or_eq_true, Bool.and_eq_false_iff, Bool.or_eq_false_iff, Bool.cond_true_left, Bool.cond_false_right, Bool.cond_true_right, Bool.cond_false_left, Bool.or_false, Bool.and_true]
      trivial
  · exact ⟨Nat.zero_le _, fun j hj => absurd hj (Nat.not_lt_zero j)⟩
  rintro i ⟨hi, hk⟩
  simp only [go_sem, reduceIte, Nat.reduceBEq, Nat.reduceMul, reduceCtorEq, Nat.reduceAdd, Nat.reduceEqDiff, decide_eq_true_eq, decide_eq_false_iff_not, Bool.not_eq_true', Bool.not_eq_false', Bool.and_eq_true, Bool.or_eq_true, Bool.and_eq_false_iff, Bool.or_eq_false_iff, Bool.cond_true_left, Bool.cond_false_right, Bool.cond_true_right, Bool.cond_false_left, Bool.or_false, Bool.and_true, inR]
  refine ⟨fun h => ⟨by dsimp only [den, nId, nNodes, nTerm, nVote, nBase, nBT, nSnap, nLog, nRole, nLead, nCommit, nVotes, nNext, nMatch, nClock, mKind, mFrom, mTo, mTerm, mIndex, mAt, mYes, mCommit, mEntries, mSnap, eTerm, eCmd, mkN, mkM, mkE, last, inR, sm, lastT] at *; omega, by dsimp only [den, nId, nNodes, nTerm, nVote, nBase, nBT, nSnap, nLog, nRole, nLead, nCommit, nVotes, nNext, nMatch, nClock, mKind, mFrom, mTo, mTerm, mIndex, mAt, mYes, mCommit, mEntries, mSnap, eTerm, eCmd, mkN, mkM, mkE, last, inR, sm, lastT] at *; omega, by rfl, fun hd => eqB_ne fun e => ?_, fun hs => ⟨by dsimp only [den, nId, nNodes, nTerm, nVote, nBase, nBT, nSnap, nLog, nRole, nLead, nCommit, nVotes, nNext, nMatch, nClock, mKind, mFrom, mTo, mTerm, mIndex, mAt, mYes, mCommit, mEntries, mSnap, eTerm, eCmd, mkN, mkM, mkE, last, inR, sm, lastT] at *; omega, Again.intro (i + 1) (Ent_of [(2, 2), (3, 3)] rfl ?_ ?_) ⟨?_, upTo hk ?_⟩ ?_⟩⟩, fun h => ?_⟩
  · subst e; simp at hd
  · simp only [go_sem, reduceIte, Nat.reduceBEq, Nat.reduceMul, reduceCtorEq, Nat.reduceAdd, Nat.reduceEqDiff, decide_eq_true_eq, decide_eq_false_iff_not, Bool.not_eq_true', Bool.not_eq_false', Bool.and_eq_true, Bool.or_eq_true, Bool.and_eq_false_iff, Bool.or_eq_false_iff, Bool.cond_true_left, Bool.cond_false_right, Bool.cond_true_right, Bool.cond_false_left, Bool.or_false, Bool.and_true]
  · simp only [go_sem, reduceIte, Nat.reduceBEq, Nat.reduceMul, reduceCtorEq, Nat.reduceAdd, Nat.reduceEqDiff, decide_eq_true_eq, decide_eq_false_iff_not, Bool.not_eq_true', Bool.not_eq_false', Bool.and_eq_true, Bool.or_eq_true, Bool.and_eq_false_iff, Bool.or_eq_false_iff, Bool.cond_true_left, Bool.cond_false_right, Bool.cond_true_right, Bool.cond_false_left, Bool.or_false, Bool.and_true]
    omega
  · show i + 1 ≤ (nNext a).length; dsimp only [den, nId, nNodes, nTerm, nVote, nBase, nBT, nSnap, nLog, nRole, nLead, nCommit, nVotes, nNext, nMatch, nClock, mKind, mFrom, mTo, mTerm, mIndex, mAt, mYes, mCommit, mEntries, mSnap, eTerm, eCmd, mkN, mkM, mkE, last, inR, sm, lastT] at *; omega
  · simpa using hs
  · show (nNext a).length - (i + 1) < (nNext a).length - i; dsimp only [den, nId, nNodes, nTerm, nVote, nBase, nBT, nSnap, nLog, nRole, nLead, nCommit, nVotes, nNext, nMatch, nClock, mKind, mFrom, mTo, mTerm, mIndex, mAt, mYes, mCommit, mEntries, mSnap, eTerm, eCmd, mkN, mkM, mkE, last, inR, sm, lastT] at *; omega
  have ev6 : nNext a = nNext b := list_eq_of_getD _ hl6 fun j hj => hk j (by dsimp only [den, nId, nNodes, nTerm, nVote, nBase, nBT, nSnap, nLog, nRole, nLead, nCommit, nVotes, nNext, nMatch, nClock, mKind, mFrom, mTo, mTerm, mIndex, mAt, mYes, mCommit, mEntries, mSnap, eTerm, eCmd, mkN, mkM, mkE, last, inR, sm, lastT] at *; omega)
  clear hk h hi
  refine loop_rule (β := Nat) (fun i => ⟨[(2, .ptr 2 0), (3, .ptr 3 0), (7, .int .i64 i)], [(2, .box (cellsA tNode a [])), (3, .box (cellsA tNode b []))]⟩) (fun i => i ≤ (nMatch a).length ∧ ∀ j, j < i → (nMatch a).getD j (dflt tI) = (nMatch b).getD j (dflt tI)) (fun i => (nMatch a).length - i) 0 ?_ ?_ ?_
  · refine Ent_of [(2, 2), (3, 3)] rfl ?_ ?_
    · simp only [go_sem, reduceIte, Nat.reduceBEq, Nat.reduceMul, reduceCtorEq, Nat.reduceAdd, Nat.reduceEqDiff, decide_eq_true_eq, decide_eq_false_iff_not, Bool.not_eq_true', Bool.not_eq_false', Bool.and_eq_true, Bool.or_eq_true, Bool.and_eq_false_iff, Bool.or_eq_false_iff, Bool.cond_true_left, Bool.cond_false_right, Bool.cond_true_right, Bool.cond_false_left, Bool.or_false, Bool.and_true]
    · simp only [go_sem, reduceIte, Nat.reduceBEq, Nat.reduceMul, reduceCtorEq, Nat.reduceAdd, Nat.reduceEqDiff, decide_eq_true_eq, decide_eq_false_iff_not, Bool.not_eq_true', Bool.not_eq_false', Bool.and_eq_true, Bool.or_eq_true, Bool.and_eq_false_iff, Bool.or_eq_false_iff, Bool.cond_true_left, Bool.cond_false_right, Bool.cond_true_right, Bool.cond_false_left, Bool.or_false, Bool.and_true]
      trivial
  · exact ⟨Nat.zero_le _, fun j hj => absurd hj (Nat.not_lt_zero j)⟩
  rintro i ⟨hi, hk⟩
  simp only [go_sem, reduceIte, Nat.reduceBEq, Nat.reduceMul, reduceCtorEq, Nat.reduceAdd, Nat.reduceEqDiff, decide_eq_true_eq, decide_eq_false_iff_not, Bool.not_eq_true', Bool.not_eq_false', Bool.and_eq_true, Bool.or_eq_true, Bool.and_eq_false_iff, Bool.or_eq_false_iff, Bool.cond_true_left, Bool.cond_false_right, Bool.cond_true_right, Bool.cond_false_left, Bool.or_false, Bool.and_true, inR]
  refine ⟨fun h => ⟨by dsimp only [den, nId, nNodes, nTerm, nVote, nBase, nBT, nSnap, nLog, nRole, nLead, nCommit, nVotes, nNext, nMatch, nClock, mKind, mFrom, mTo, mTerm, mIndex, mAt, mYes, mCommit, mEntries, mSnap, eTerm, eCmd, mkN, mkM, mkE, last, inR, sm, lastT] at *; omega, by dsimp only [den, nId, nNodes, nTerm, nVote, nBase, nBT, nSnap, nLog, nRole, nLead, nCommit, nVotes, nNext, nMatch, nClock, mKind, mFrom, mTo, mTerm, mIndex, mAt, mYes, mCommit, mEntries, mSnap, eTerm, eCmd, mkN, mkM, mkE, last, inR, sm, lastT] at *; omega, by rfl, fun hd => eqB_ne fun e => ?_, fun hs => ⟨by dsimp only [den, nId, nNodes, nTerm, nVote, nBase, nBT, nSnap, nLog, nRole, nLead, nCommit, nVotes, nNext, nMatch, nClock, mKind, mFrom, mTo, mTerm, mIndex, mAt, mYes, mCommit, mEntries, mSnap, eTerm, eCmd, mkN, mkM, mkE, last, inR, sm, lastT] at *; omega, Again.intro (i + 1) (Ent_of [(2, 2), (3, 3)] rfl ?_ ?_) ⟨?_, upTo hk ?_⟩ ?_⟩⟩, fun h => ?_⟩
  · subst e; simp at hd
  · simp only [go_sem, reduceIte, Nat.reduceBEq, Nat.reduceMul, reduceCtorEq, Nat.reduceAdd, Nat.reduceEqDiff, decide_eq_true_eq, decide_eq_false_iff_not, Bool.not_eq_true', Bool.not_eq_false', Bool.and_eq_true, Bool.or_eq_true, Bool.and_eq_false_iff, Bool.or_eq_false_iff, Bool.cond_true_left, Bool.cond_false_right, Bool.cond_true_right, Bool.cond_false_left, Bool.or_false, Bool.and_true]
  · simp only [go_sem, reduceIte, Nat.reduceBEq, Nat.reduceMul, reduceCtorEq, Nat.reduceAdd, Nat.reduceEqDiff, decide_eq_true_eq, decide_eq_false_iff_not, Bool.not_eq_true', Bool.not_eq_false', Bool.and_eq_true, Bool.or_eq_true, Bool.and_eq_false_iff, Bool.or_eq_false_iff, Bool.cond_true_left, Bool.cond_false_right, Bool.cond_true_right, Bool.cond_false_left, Bool.or_false, Bool.and_true]
    omega
  · show i + 1 ≤ (nMatch a).length; dsimp only [den, nId, nNodes, nTerm, nVote, nBase, nBT, nSnap, nLog, nRole, nLead, nCommit, nVotes, nNext, nMatch, nClock, mKind, mFrom, mTo, mTerm, mIndex, mAt, mYes, mCommit, mEntries, mSnap, eTerm, eCmd, mkN, mkM, mkE, last, inR, sm, lastT] at *; omega
  · simpa using hs
  · show (nMatch a).length - (i + 1) < (nMatch a).length - i; dsimp only [den, nId, nNodes, nTerm, nVote, nBase, nBT, nSnap, nLog, nRole, nLead, nCommit, nVotes, nNext, nMatch, nClock, mKind, mFrom, mTo, mTerm, mIndex, mAt, mYes, mCommit, mEntries, mSnap, eTerm, eCmd, mkN, mkM, mkE, last, inR, sm, lastT] at *; omega
  have ev7 : nMatch a = nMatch b := list_eq_of_getD _ hl7 fun j hj => hk j (by dsimp only [den, nId, nNodes, nTerm, nVote, nBase, nBT, nSnap, nLog, nRole, nLead, nCommit, nVotes, nNext, nMatch, nClock, mKind, mFrom, mTo, mTerm, mIndex, mAt, mYes, mCommit, mEntries, mSnap, eTerm, eCmd, mkN, mkM, mkE, last, inR, sm, lastT] at *; omega)
  clear hk h hi
  have h2 := h.1.1.1
  exact (eqB_iff.2 (node_ext (eqB_iff.1 h2.1.1.1.1.2) h2.1.1.1.1.1.1 h2.1.1.1.1.1.2 h2.1.1.1.2 h2.1.1.2 h2.1.2 ev5 ev6 ev7 h2.2)).symm
theorem start1_nodes (n : Node) : nNodes (start1 n) = nNodes n := by unfold start1 own; split <;> rfl
theorem start1_next (n : Node) : nNext (start1 n) = nNext n := by unfold start1 own; split <;> rfl
theorem start1_match (n : Node) : nMatch (start1 n) = nMatch n := by unfold start1 own; split <;> rfl
theorem start1_log (n : Node) : nLog (start1 n) = nLog n := by unfold start1 own; split <;> rfl
def voteDownFn : Fn := { a := .pair tI (.pair tI (.pair tI .unit)), r := .pair .bool .unit, pre := fun x => InR .i64 x.1 ∧ InR .i64 x.2.1 ∧ InR .i64 x.2.2.1, f := fun _ => (true, ()) }
theorem h5  : Holds Try.prog 5 (voteDownFn) := by
  refine Holds.of_vc (T := [(23, fn23), (31, fn31), (27, fn27), (32, fn32), (33, fn33), (26, fn26)]) (TT := ttL) (rowAt := []) (c := c5) (ros := [.t 6]) (.cons _ h23 (.cons _ h31 (.cons _ h27 (.cons _ h32 (.cons _ h33 (.cons _ h26 (.nil _))))))) mixed Try.func5 (by decide +kernel) (by rfl) comp5 (by kernel_rfl) rfl rfl (fun h => by cases h) ?_
  rintro ⟨(a : Int), (b : Int), (nodes : Int), _⟩ hpre
  simp only [voteDownFn] at hpre ⊢
  simp only [c5, fn23, fn31, fn27, fn32, fn33, fn26, go_sem, reduceIte, Nat.reduceBEq, Nat.reduceMul, reduceCtorEq, Nat.reduceAdd, Nat.reduceEqDiff, decide_eq_true_eq, decide_eq_false_iff_not, Bool.not_eq_true', Bool.not_eq_false', Bool.and_eq_true, Bool.or_eq_true, Bool.and_eq_false_iff, Bool.or_eq_false_iff, Bool.cond_true_left, Bool.cond_false_right, Bool.cond_true_right, Bool.cond_false_left, Bool.or_false, Bool.and_true, inR]
  have s0 := start1_nodes (newN 1 (2 + nodes % 4))
  have s1 := start1_vlen (newN 1 (2 + nodes % 4)) (show 1 ≤ min (max (2 + nodes % 4) 1) 5 by omega) (show min (max (2 + nodes % 4) 1) 5 ≤ 5 by omega)
  have s2 : nNodes (newN 1 (2 + nodes % 4)) = min (max (2 + nodes % 4) 1) 5 := rfl
  have s3 : nNext (start1 (newN 1 (2 + nodes % 4))) = nNext (newN 1 (2 + nodes % 4)) := start1_next _
  have s4 : nMatch (start1 (newN 1 (2 + nodes % 4))) = nMatch (newN 1 (2 + nodes % 4)) := start1_match _
  have s5 : nLog (start1 (newN 1 (2 + nodes % 4))) = nLog (newN 1 (2 + nodes % 4)) := start1_log _
  generalize hx : 1 + a % 1000 = x
  generalize hy : b % 1100 = y
  have n1 : nBase (newN 1 (2 + nodes % 4)) = 0 := rfl
  have n2 : last (newN 1 (2 + nodes % 4)) = 0 := rfl
  have n3 : nTerm (newN 1 (2 + nodes % 4)) = 0 := rfl
  have n4 : (nNext (newN 1 (2 + nodes % 4))).length = (min (max (2 + nodes % 4) 1) 5).toNat := List.length_replicate ..
  have n5 : (nMatch (newN 1 (2 + nodes % 4))).length = (min (max (2 + nodes % 4) 1) 5).toNat := List.length_replicate ..
  have n6 : (nLog (newN 1 (2 + nodes % 4))).length = 0 := rfl
  rw [← s3] at n4
  rw [← s4] at n5
  rw [← s5] at n6
  rw [s2] at s0 s1
  simp only [n1, n2, n3]
  clear s2 s3 s4 s5 n1 n2 n3
  generalize start1 (newN 1 (2 + nodes % 4)) = s at *
  generalize hcc : (pr (a := tI) s.1 (pr (a := tI) s.2.1 (pr (a := tI) x (pr (a := tI) s.2.2.2.1 (pr (a := tI) s.2.2.2.2.1 (pr (a := tI) s.2.2.2.2.2.1 (pr (a := .str) s.2.2.2.2.2.2.1 (pr (a := .list tEntry) s.2.2.2.2.2.2.2.1 (pr (a := tI) s.2.2.2.2.2.2.2.2.1 (pr (a := tI) s.2.2.2.2.2.2.2.2.2.1 (pr (a := tI) s.2.2.2.2.2.2.2.2.2.2.1 (pr (a := .list .bool) s.2.2.2.2.2.2.2.2.2.2.2.1 (pr (a := .list tI) s.2.2.2.2.2.2.2.2.2.2.2.2.1 (pr (a := .list tI) s.2.2.2.2.2.2.2.2.2.2.2.2.2.1 (pr (a := tI) (b := .unit) 7 ()))))))))))))))) = c
  have c1 : nTerm c = x := by rw [← hcc]; rfl
  have c2 : (nNext c).length = (min (max (2 + nodes % 4) 1) 5).toNat := by rw [← hcc]; exact n4
  have c3 : (nMatch c).length = (min (max (2 + nodes % 4) 1) 5).toNat := by rw [← hcc]; exact n5
  have c4 : (nLog c).length = 0 := by rw [← hcc]; exact n6
  have c5 : (nVotes c).length = (min (max (2 + nodes % 4) 1) 5).toNat := by rw [← hcc]; exact s1
  have c6 : nNodes c = min (max (2 + nodes % 4) 1) 5 := by rw [← hcc]; exact s0
  have c7 : nClock c = 7 := by rw [← hcc]; rfl
  clear hcc n4 n5 n6 s0 s1
  refine ⟨by decide, by omega, by decide, by omega, by decide, by omega, fun h => ⟨⟨?_, ?_, ?_, ?_⟩, ?_⟩, fun h => ?_⟩
  · rw [sm]; omega
  · rw [sm]; omega
  · rw [sm]; omega
  · rw [sm]; omega
  · have : down c y = c := down_same (by omega)
    rw [this]
    exact eqB_self c
  have hd : down c y = mkN (nId c) (nNodes c) y (-1) (nBase c) (nBT c) (nSnap c) (nLog c) 0 (-1) (nCommit c) (votes c) (nNext c) (nMatch c) (nClock c) := by
    unfold down; exact if_pos (by omega)
  have hv : (votes c).length = (2 + nodes % 4).toNat := by rw [votes_len]; omega
  simp only [hd]
  refine ⟨fun h2 => h2 (by omega), fun h2 => ?_⟩
  refine loop_rule (β := Nat) (fun i => ⟨[(7, .int .i64 (2 + nodes % 4)), (9, .int .i64 y), (12, .ptr 12 0), (13, .int .i64 i)], [(12, .box (cellsA tNode (mkN (nId c) (nNodes c) y (-1) (nBase c) (nBT c) (nSnap c) (nLog c) 0 (-1) (nCommit c) (votes c) (nNext c) (nMatch c) (nClock c)) []))]⟩) (fun i => i ≤ (votes c).length) (fun i => (votes c).length - i) 0 ?_ ?_ ?_
  · refine Ent_of [(12, 12)] rfl ?_ ?_
    · simp only [go_sem, reduceIte, Nat.reduceBEq, Nat.reduceMul, reduceCtorEq, Nat.reduceAdd, Nat.reduceEqDiff, decide_eq_true_eq, decide_eq_false_iff_not, Bool.not_eq_true', Bool.not_eq_false', Bool.and_eq_true, Bool.or_eq_true, Bool.and_eq_false_iff, Bool.or_eq_false_iff, Bool.cond_true_left, Bool.cond_false_right, Bool.cond_true_right, Bool.cond_false_left, Bool.or_false, Bool.and_true]
    · simp only [go_sem, reduceIte, Nat.reduceBEq, Nat.reduceMul, reduceCtorEq, Nat.reduceAdd, Nat.reduceEqDiff, decide_eq_true_eq, decide_eq_false_iff_not, Bool.not_eq_true', Bool.not_eq_false', Bool.and_eq_true, Bool.or_eq_true, Bool.and_eq_false_iff, Bool.or_eq_false_iff, Bool.cond_true_left, Bool.cond_false_right, Bool.cond_true_right, Bool.cond_false_left, Bool.or_false, Bool.and_true]
      trivial
  · exact Nat.zero_le _
  intro i hi
  have hf : (votes c).getD i (dflt .bool) = false := by
    unfold votes
    rw [List.getD_eq_getElem?_getD, List.getElem?_replicate]
    split <;> rfl
  simp only [go_sem, reduceIte, Nat.reduceBEq, Nat.reduceMul, reduceCtorEq, Nat.reduceAdd, Nat.reduceEqDiff, decide_eq_true_eq, decide_eq_false_iff_not, Bool.not_eq_true', Bool.not_eq_false', Bool.and_eq_true, Bool.or_eq_true, Bool.and_eq_false_iff, Bool.or_eq_false_iff, Bool.cond_true_left, Bool.cond_false_right, Bool.cond_true_right, Bool.cond_false_left, Bool.or_false, Bool.and_true, inR, hf]
  refine ⟨fun h3 => ⟨by omega, by omega, Again.intro (i + 1) (Ent_of [(12, 12)] rfl ?_ ?_) ?_ ?_⟩, fun h3 => ?_⟩
  · simp only [go_sem, reduceIte, Nat.reduceBEq, Nat.reduceMul, reduceCtorEq, Nat.reduceAdd, Nat.reduceEqDiff, decide_eq_true_eq, decide_eq_false_iff_not, Bool.not_eq_true', Bool.not_eq_false', Bool.and_eq_true, Bool.or_eq_true, Bool.and_eq_false_iff, Bool.or_eq_false_iff, Bool.cond_true_left, Bool.cond_false_right, Bool.cond_true_right, Bool.cond_false_left, Bool.or_false, Bool.and_true]
  · simp only [go_sem, reduceIte, Nat.reduceBEq, Nat.reduceMul, reduceCtorEq, Nat.reduceAdd, Nat.reduceEqDiff, decide_eq_true_eq, decide_eq_false_iff_not, Bool.not_eq_true', Bool.not_eq_false', Bool.and_eq_true, Bool.or_eq_true, Bool.and_eq_false_iff, Bool.or_eq_false_iff, Bool.cond_true_left, Bool.cond_false_right, Bool.cond_true_right, Bool.cond_false_left, Bool.or_false, Bool.and_true]
    omega
  · show i + 1 ≤ (votes c).length; omega
  · show (votes c).length - (i + 1) < (votes c).length - i; omega
  · exact c7
end Go.AM
