import Derived.Test.YtbcbgfkojmligaaHE
import Derived.KernelRfl
import Derived.Test.YtbcbgfkojmligaaProg
/- What functions of the program answer, each under the conditions that its contract names. -/
set_option linter.unusedVariables false
set_option linter.unusedSimpArgs false
set_option maxRecDepth 100000
namespace Go.AM
def c34 : C := (.seq (.reg [⟨(some 3), .box, [.t 0], none⟩,
  ⟨(some 6), (.alloc [.int .i64 0, .int .i64 0, .int .i64 0, .int .i64 0, .int .i64 0, .int .i64 0, .str ⟨#[]⟩, .sl tEntry [] true, .int .i64 0, .int .i64 0, .int .i64 0, .sl .bool [] true, .sl tI [] true, .sl tI [] true, .int .i64 0]), [], none⟩])
 (.seq (.reg [⟨(some 11), .mv, [.t 1], none⟩,
  ⟨(some 12), (.fld 4), [.t 3], none⟩,
  ⟨(some 13), (.load 1 false), [.t 12], none⟩,
  ⟨(some 14), (.bin .sub), [.t 11, .t 13], none⟩,
  ⟨(some 7), .mv, [.t 14], none⟩])
 (.seq (.seq (.reg [⟨(some 15), .mv, [.t 1], none⟩,
  ⟨(some 16), (.fld 4), [.t 3], none⟩,
  ⟨(some 17), (.load 1 false), [.t 16], none⟩,
  ⟨(some 18), (.bin .lss), [.t 15, .t 17], none⟩,
  ⟨(some 19), .mv, [.t 18], none⟩,
  ⟨(some 20), .mv, [.t 1], (some (19, false))⟩,
  ⟨(some 21), (.load 15 true), [.t 3], (some (19, false))⟩,
  ⟨(some 22), (.call 52), [.t 21], (some (19, false))⟩,
  ⟨(some 23), (.bin .gtr), [.t 20, .t 22], (some (19, false))⟩,
  ⟨(some 24), .pick, [.t 19, .c (.bool true), .t 23], none⟩,
  ⟨(some 25), .mv, [.t 24], none⟩,
  ⟨(some 26), .mv, [.t 7], (some (25, false))⟩,
  ⟨(some 27), (.bin .lss), [.t 26, .c (.int .i64 0)], (some (25, false))⟩,
  ⟨(some 28), .pick, [.t 25, .c (.bool true), .t 27], none⟩,
  ⟨(some 29), .mv, [.t 28], none⟩,
  ⟨(some 30), .mv, [.t 7], (some (29, false))⟩,
  ⟨(some 31), (.fld 7), [.t 3], (some (29, false))⟩,
  ⟨(some 32), (.load 1 false), [.t 31], (some (29, false))⟩,
  ⟨(some 33), .len, [.t 32], (some (29, false))⟩,
  ⟨(some 34), (.bin .gtr), [.t 30, .t 33], (some (29, false))⟩,
  ⟨(some 35), .pick, [.t 29, .c (.bool true), .t 34], none⟩])
 (.cond (.t 35) (.seq (.reg [⟨(some 36), (.load 15 true), [.t 3], none⟩,
  ⟨none, (.store 15), [.t 6, .t 36], none⟩])
 .ret) .skip))
 (.seq (.seq (.reg [⟨(some 37), .mv, [.t 2], none⟩,
  ⟨(some 38), .len, [.t 37], none⟩,
  ⟨(some 39), .mv, [.c (.int .i64 0)], none⟩])
 (.block 0 (.loop (.seq (.reg [⟨(some 40), (.bin .lss), [.t 39, .t 38], none⟩])
 (.seq (.cond (.t 40) .skip (.exit 0))
 (.seq (.block 1 (.seq (.reg [⟨(some 41), .mv, [.t 39], none⟩,
  ⟨(some 42), (.idx 2), [.t 37, .t 39], none⟩,
  ⟨(some 43), (.load 2 true), [.t 42], none⟩,
  ⟨(some 9), (.alloc [.int .i64 0, .str ⟨#[]⟩]), [], none⟩,
  ⟨(some 8), .mv, [.t 41], none⟩,
  ⟨none, (.store 2), [.t 9, .t 43], none⟩])
 (.seq (.reg [⟨(some 44), .mv, [.t 7], none⟩,
  ⟨(some 45), .mv, [.t 8], none⟩,
  ⟨(some 46), (.bin .add), [.t 44, .t 45], none⟩,
  ⟨(some 10), .mv, [.t 46], none⟩])
 (.seq (.regd [⟨(some 47), .mv, [.t 10], none⟩,
  ⟨(some 48), (.fld 7), [.t 3], none⟩,
  ⟨(some 49), (.load 1 false), [.t 48], none⟩,
  ⟨(some 50), .len, [.t 49], none⟩,
  ⟨(some 51), (.bin .geq), [.t 47, .t 50], none⟩,
  ⟨(some 52), .mv, [.t 51], none⟩,
  ⟨(some 53), (.fld 7), [.t 3], (some (52, false))⟩,
  ⟨(some 54), (.load 1 false), [.t 53], (some (52, false))⟩,
  ⟨(some 55), .mv, [.t 10], (some (52, false))⟩,
  ⟨(some 56), (.idx 2), [.t 54, .t 55], (some (52, false))⟩,
  ⟨(some 57), (.fld 0), [.t 56], (some (52, false))⟩,
  ⟨(some 58), (.load 1 false), [.t 57], (some (52, false))⟩,
  ⟨(some 59), (.fld 0), [.t 9], (some (52, false))⟩,
  ⟨(some 60), (.load 1 false), [.t 59], (some (52, false))⟩,
  ⟨(some 61), (.bin .neq), [.t 58, .t 60], (some (52, false))⟩,
  ⟨(some 62), .pick, [.t 52, .c (.bool true), .t 61], none⟩] [0, 0, 2, 4, 9, 16, 32, 96, 32, 416, 544, 1056, 32, 4128, 10272, 16416])
 (.cond (.t 62) (.seq (.regd [⟨(some 63), (.fld 7), [.t 3], none⟩,
  ⟨(some 64), (.load 1 false), [.t 63], none⟩,
  ⟨(some 65), .mv, [.t 10], none⟩,
  ⟨(some 66), .mv, [.t 10], none⟩,
  ⟨(some 67), (.slc 2 false true true), [.t 64, .t 65, .t 66], none⟩,
  ⟨(some 68), .mv, [.t 2], none⟩,
  ⟨(some 69), .mv, [.t 8], none⟩,
  ⟨(some 70), (.slc 2 true false false), [.t 68, .t 69], none⟩,
  ⟨(some 71), (.app 2 24), [.t 67, .t 70], none⟩,
  ⟨(some 72), (.fld 7), [.t 3], none⟩,
  ⟨none, (.store 1), [.t 72, .t 71], none⟩] [0, 1, 0, 0, 14, 0, 0, 96, 144, 511, 1023])
 (.seq (.reg [⟨(some 73), (.load 15 true), [.t 3], none⟩,
  ⟨none, (.store 15), [.t 6, .t 73], none⟩])
 .ret)) .skip)))))
 (.reg [⟨(some 74), (.bin .add), [.t 39, .c (.int .i64 1)], none⟩,
  ⟨(some 39), .mv, [.t 74], none⟩])))))))
 (.seq (.reg [⟨(some 75), (.load 15 true), [.t 3], none⟩,
  ⟨none, (.store 15), [.t 6, .t 75], none⟩])
 .ret)))))
theorem comp34 : compC Go.Proofs.Try.prog ttL 76 [] (match Go.Proofs.Try.f34.body with | some b => b | none => .skip) = some (c34) := by kernel_rfl
def c46 : C := (.seq (.reg [⟨(some 1), .box, [.t 0], none⟩,
  ⟨(some 2), .mv, [.c (.bool false)], none⟩])
 (.seq (.seq (.reg [⟨(some 4), (.fld 1), [.t 1], none⟩,
  ⟨(some 5), (.load 1 false), [.t 4], none⟩,
  ⟨(some 6), (.call 97), [.t 5, .c (.int .i64 1), .c (.int .i64 5)], none⟩,
  ⟨(some 7), .not, [.t 6], none⟩,
  ⟨(some 8), .mv, [.t 7], none⟩,
  ⟨(some 9), (.fld 0), [.t 1], (some (8, false))⟩,
  ⟨(some 10), (.load 1 false), [.t 9], (some (8, false))⟩,
  ⟨(some 11), (.fld 1), [.t 1], (some (8, false))⟩,
  ⟨(some 12), (.load 1 false), [.t 11], (some (8, false))⟩,
  ⟨(some 13), (.bin .sub), [.t 12, .c (.int .i64 1)], (some (8, false))⟩,
  ⟨(some 14), (.call 97), [.t 10, .c (.int .i64 0), .t 13], (some (8, false))⟩,
  ⟨(some 15), .not, [.t 14], (some (8, false))⟩,
  ⟨(some 16), .pick, [.t 8, .c (.bool true), .t 15], none⟩,
  ⟨(some 17), .mv, [.t 16], none⟩,
  ⟨(some 18), (.fld 11), [.t 1], (some (17, false))⟩,
  ⟨(some 19), (.load 1 false), [.t 18], (some (17, false))⟩,
  ⟨(some 20), .len, [.t 19], (some (17, false))⟩,
  ⟨(some 21), (.fld 1), [.t 1], (some (17, false))⟩,
  ⟨(some 22), (.load 1 false), [.t 21], (some (17, false))⟩,
  ⟨(some 23), (.bin .neq), [.t 20, .t 22], (some (17, false))⟩,
  ⟨(some 24), .pick, [.t 17, .c (.bool true), .t 23], none⟩,
  ⟨(some 25), .mv, [.t 24], none⟩,
  ⟨(some 26), (.fld 12), [.t 1], (some (25, false))⟩,
  ⟨(some 27), (.load 1 false), [.t 26], (some (25, false))⟩,
  ⟨(some 28), .len, [.t 27], (some (25, false))⟩,
  ⟨(some 29), (.fld 1), [.t 1], (some (25, false))⟩,
  ⟨(some 30), (.load 1 false), [.t 29], (some (25, false))⟩,
  ⟨(some 31), (.bin .neq), [.t 28, .t 30], (some (25, false))⟩,
  ⟨(some 32), .pick, [.t 25, .c (.bool true), .t 31], none⟩,
  ⟨(some 33), .mv, [.t 32], none⟩,
  ⟨(some 34), (.fld 13), [.t 1], (some (33, false))⟩,
  ⟨(some 35), (.load 1 false), [.t 34], (some (33, false))⟩,
  ⟨(some 36), .len, [.t 35], (some (33, false))⟩,
  ⟨(some 37), (.fld 1), [.t 1], (some (33, false))⟩,
  ⟨(some 38), (.load 1 false), [.t 37], (some (33, false))⟩,
  ⟨(some 39), (.bin .neq), [.t 36, .t 38], (some (33, false))⟩,
  ⟨(some 40), .pick, [.t 33, .c (.bool true), .t 39], none⟩])
 (.cond (.t 40) (.seq (.reg [⟨(some 2), .mv, [.c (.bool false)], none⟩])
 .ret) .skip))
 (.seq (.seq (.reg [⟨(some 41), (.fld 2), [.t 1], none⟩,
  ⟨(some 42), (.load 1 false), [.t 41], none⟩,
  ⟨(some 43), (.fld 4), [.t 1], none⟩,
  ⟨(some 44), (.load 1 false), [.t 43], none⟩,
  ⟨(some 45), (.fld 5), [.t 1], none⟩,
  ⟨(some 46), (.load 1 false), [.t 45], none⟩,
  ⟨(some 47), (.fld 10), [.t 1], none⟩,
  ⟨(some 48), (.load 1 false), [.t 47], none⟩,
  ⟨(some 49), (.fld 14), [.t 1], none⟩,
  ⟨(some 50), (.load 1 false), [.t 49], none⟩,
  ⟨(some 51), (.bslice tI 5), [.t 42, .t 44, .t 46, .t 48, .t 50], none⟩,
  ⟨(some 52), (.call 98), [.t 51, .c (.int .i64 0), .c (.int .i64 1099511627776)], none⟩,
  ⟨(some 53), .not, [.t 52], none⟩,
  ⟨(some 54), .mv, [.t 53], none⟩,
  ⟨(some 55), (.fld 3), [.t 1], (some (54, false))⟩,
  ⟨(some 56), (.load 1 false), [.t 55], (some (54, false))⟩,
  ⟨(some 57), (.fld 9), [.t 1], (some (54, false))⟩,
  ⟨(some 58), (.load 1 false), [.t 57], (some (54, false))⟩,
  ⟨(some 59), (.bslice tI 2), [.t 56, .t 58], (some (54, false))⟩,
  ⟨(some 60), (.fld 1), [.t 1], (some (54, false))⟩,
  ⟨(some 61), (.load 1 false), [.t 60], (some (54, false))⟩,
  ⟨(some 62), (.bin .sub), [.t 61, .c (.int .i64 1)], (some (54, false))⟩,
  ⟨(some 63), (.call 98), [.t 59, .c (.int .i64 (-1)), .t 62], (some (54, false))⟩,
  ⟨(some 64), .not, [.t 63], (some (54, false))⟩,
  ⟨(some 65), .pick, [.t 54, .c (.bool true), .t 64], none⟩,
  ⟨(some 66), .mv, [.t 65], none⟩,
  ⟨(some 67), (.fld 8), [.t 1], (some (66, false))⟩,
  ⟨(some 68), (.load 1 false), [.t 67], (some (66, false))⟩,
  ⟨(some 69), (.call 97), [.t 68, .c (.int .i64 0), .c (.int .i64 2)], (some (66, false))⟩,
  ⟨(some 70), .not, [.t 69], (some (66, false))⟩,
  ⟨(some 71), .pick, [.t 66, .c (.bool true), .t 70], none⟩])
 (.cond (.t 71) (.seq (.reg [⟨(some 2), .mv, [.c (.bool false)], none⟩])
 .ret) .skip))
 (.seq (.reg [⟨(some 72), (.clo 99), [.t 1], none⟩,
  ⟨(some 3), .mv, [.t 72], none⟩])
 (.seq (.regd [⟨(some 73), (.fld 10), [.t 1], none⟩,
  ⟨(some 74), (.load 1 false), [.t 73], none⟩,
  ⟨(some 75), (.fld 4), [.t 1], none⟩,
  ⟨(some 76), (.load 1 false), [.t 75], none⟩,
  ⟨(some 77), (.load 15 true), [.t 1], none⟩,
  ⟨(some 78), (.call 52), [.t 77], none⟩,
  ⟨(some 79), (.call 97), [.t 74, .t 76, .t 78], none⟩,
  ⟨(some 80), .mv, [.t 79], none⟩,
  ⟨(some 81), (.fld 12), [.t 1], (some (80, true))⟩,
  ⟨(some 82), (.load 1 false), [.t 81], (some (80, true))⟩,
  ⟨(some 83), (.call 98), [.t 82, .c (.int .i64 1), .c (.int .i64 1099511627776)], (some (80, true))⟩,
  ⟨(some 84), .pick, [.t 80, .t 83, .c (.bool false)], none⟩,
  ⟨(some 85), .mv, [.t 84], none⟩,
  ⟨(some 86), (.fld 13), [.t 1], (some (85, true))⟩,
  ⟨(some 87), (.load 1 false), [.t 86], (some (85, true))⟩,
  ⟨(some 88), (.call 98), [.t 87, .c (.int .i64 0), .c (.int .i64 1099511627776)], (some (85, true))⟩,
  ⟨(some 89), .pick, [.t 85, .t 88, .c (.bool false)], none⟩,
  ⟨(some 90), .mv, [.t 89], none⟩,
  ⟨(some 91), (.fld 7), [.t 1], (some (90, true))⟩,
  ⟨(some 92), (.load 1 false), [.t 91], (some (90, true))⟩,
  ⟨(some 93), .mv, [.t 3], (some (90, true))⟩,
  ⟨(some 94), (.call 100), [.t 92, .t 93], (some (90, true))⟩,
  ⟨(some 95), .not, [.t 94], (some (90, true))⟩,
  ⟨(some 96), .pick, [.t 90, .t 95, .c (.bool false)], none⟩,
  ⟨(some 2), .mv, [.t 96], none⟩] [0, 1, 0, 4, 0, 16, 42, 64, 128, 384, 640, 1152, 3072, 4096, 12288, 20480, 36864, 98304, 131072, 393216, 131072, 1703936, 2228224, 4325376, 16777215])
 .ret)))))
theorem comp46 : compC Go.Proofs.Try.prog ttL 97 [] (match Go.Proofs.Try.f46.body with | some b => b | none => .skip) = some (c46) := by kernel_rfl
def c64 : C := (.seq (.reg [⟨(some 4), (.alloc [.int .i64 0, .int .i64 0, .int .i64 0, .int .i64 0, .int .i64 0, .int .i64 0, .str ⟨#[]⟩, .sl tEntry [] true, .int .i64 0, .int .i64 0, .int .i64 0, .sl .bool [] true, .sl tI [] true, .sl tI [] true, .int .i64 0]), [], none⟩])
 (.seq (.reg [⟨(some 7), .mv, [.t 1], none⟩,
  ⟨(some 8), .mn, [.t 7, .c (.int .i64 5)], none⟩,
  ⟨(some 9), .mx, [.c (.int .i64 1), .t 8], none⟩,
  ⟨(some 1), .mv, [.t 9], none⟩])
 (.seq (.reg [⟨(some 10), .mv, [.t 0], none⟩,
  ⟨(some 11), .mv, [.t 1], none⟩,
  ⟨(some 12), (.bin .sub), [.t 11, .c (.int .i64 1)], none⟩,
  ⟨(some 13), .mn, [.t 10, .t 12], none⟩,
  ⟨(some 14), .mx, [.c (.int .i64 0), .t 13], none⟩,
  ⟨(some 15), .mv, [.t 1], none⟩,
  ⟨(some 16), (.build [.int .i64 0, .int .i64 0, .int .i64 0, .int .i64 0, .int .i64 0, .int .i64 0, .str ⟨#[]⟩, .sl tEntry [] true, .int .i64 0, .int .i64 0, .int .i64 0, .sl .bool [] true, .sl tI [] true, .sl tI [] true, .int .i64 0] [(0, 1), (1, 1), (3, 1), (9, 1)]), [.t 14, .t 15, .c (.int .i64 (-1)), .c (.int .i64 (-1))], none⟩,
  ⟨(some 5), (.alloc [.int .i64 0, .int .i64 0, .int .i64 0, .int .i64 0, .int .i64 0, .int .i64 0, .str ⟨#[]⟩, .sl tEntry [] true, .int .i64 0, .int .i64 0, .int .i64 0, .sl .bool [] true, .sl tI [] true, .sl tI [] true, .int .i64 0]), [], none⟩,
  ⟨none, (.store 15), [.t 5, .t 16], none⟩])
 (.seq (.regd [⟨(some 17), .mv, [.t 1], none⟩,
  ⟨(some 18), (.mks .bool 1), [.t 17, .t 17], none⟩,
  ⟨(some 19), .mv, [.t 1], none⟩,
  ⟨(some 20), (.mks tI 8), [.t 19, .t 19], none⟩,
  ⟨(some 21), .mv, [.t 1], none⟩,
  ⟨(some 22), (.mks tI 8), [.t 21, .t 21], none⟩,
  ⟨(some 23), (.fld 11), [.t 5], none⟩,
  ⟨none, (.store 1), [.t 23, .t 18], none⟩,
  ⟨(some 24), (.fld 12), [.t 5], none⟩,
  ⟨none, (.store 1), [.t 24, .t 20], none⟩,
  ⟨(some 25), (.fld 13), [.t 5], none⟩,
  ⟨none, (.store 1), [.t 25, .t 22], none⟩] [0, 1, 0, 4, 0, 16, 3, 67, 207, 463, 1023, 2047])
 (.seq (.seq (.reg [⟨(some 26), (.fld 12), [.t 5], none⟩,
  ⟨(some 27), (.load 1 false), [.t 26], none⟩,
  ⟨(some 28), .len, [.t 27], none⟩,
  ⟨(some 29), .mv, [.c (.int .i64 0)], none⟩])
 (.block 0 (.loop (.seq (.reg [⟨(some 30), (.bin .lss), [.t 29, .t 28], none⟩])
 (.seq (.cond (.t 30) .skip (.exit 0))
 (.seq (.block 1 (.seq (.reg [⟨(some 31), .mv, [.t 29], none⟩,
  ⟨(some 6), .mv, [.t 31], none⟩])
 (.reg [⟨(some 32), (.fld 12), [.t 5], none⟩,
  ⟨(some 33), (.load 1 false), [.t 32], none⟩,
  ⟨(some 34), .mv, [.t 6], none⟩,
  ⟨(some 35), (.idx 1), [.t 33, .t 34], none⟩,
  ⟨none, (.store 1), [.t 35, .c (.int .i64 1)], none⟩])))
 (.reg [⟨(some 36), (.bin .add), [.t 29, .c (.int .i64 1)], none⟩,
  ⟨(some 29), .mv, [.t 36], none⟩])))))))
 (.seq (.reg [⟨(some 37), (.load 15 true), [.t 5], none⟩,
  ⟨none, (.store 15), [.t 4, .t 37], none⟩])
 .ret))))))
theorem comp64 : compC Go.Proofs.Try.prog ttL 38 [] (match Go.Proofs.Try.f64.body with | some b => b | none => .skip) = some (c64) := by kernel_rfl
end Go.AM
set_option maxRecDepth 100000
set_option maxHeartbeats 4000000
set_option linter.unusedSimpArgs false
namespace Go.AM
open Go.Proofs
attribute [local congr] vc_congr evOps_congr evTab_congr bind_congr condK_congr tabK_congr
def MM : Int := 1099511627776
def checkA (n : Node) : Bool := inB (nNodes n) 1 5 && inB (nId n) 0 (nNodes n - 1) && decide (((nVotes n).length : Int) = nNodes n) && decide (((nNext n).length : Int) = nNodes n) && decide (((nMatch n).length : Int) = nNodes n)
def checkB (n : Node) : Bool := eachB [nTerm n, nBase n, nBT n, nCommit n, nClock n] 0 MM && eachB [nVote n, nLead n] (-1) (nNodes n - 1) && inB (nRole n) 0 2
def checkC (n : Node) : Bool := inB (nCommit n) (nBase n) (last n) && eachB (nNext n) 1 MM && eachB (nMatch n) 0 MM && !((nLog n).any fun e => !inB e.1 0 (nTerm n))
def checkN (n : Node) : Bool := checkA n && checkB n && checkC n
def fn46 : Fn := { a := .pair tNode .unit, r := .pair .bool .unit, pre := fun x => InR .i64 (last x.1) ∧ smallL (nLog x.1) ∧ smallL (nNext x.1) ∧ smallL (nMatch x.1), f := fun x => (checkN x.1, ()) }
theorem h46  : Holds Try.prog 46 (fn46) := by
  refine Holds.of_vc (T := [(97, fn97), (98, fn98), (99, fn99), (52, fn52), (100, fn100)]) (TT := ttL) (rowAt := []) (c := c46) (ros := [.t 2]) (.cons _ h97 (.cons _ h98 (.cons _ h99 (.cons _ h52 (.cons _ h100 (.nil _)))))) mixed Try.func46 (by decide +kernel) (by rfl) comp46 (by kernel_rfl) rfl rfl (fun h => by cases h) ?_
  rintro ⟨(n : Node), _⟩ hpre
  simp only [fn46] at hpre ⊢
  simp only [c46, fn97, fn98, fn99, fn52, fn100, go_sem, reduceIte, Nat.reduceBEq, Nat.reduceMul, reduceCtorEq, Nat.reduceAdd, Nat.reduceEqDiff, decide_eq_true_eq, decide_eq_false_iff_not, Bool.not_eq_true', Bool.not_eq_false', Bool.and_eq_true, Bool.or_eq_true, Bool.and_eq_false_iff, Bool.or_eq_false_iff, Bool.cond_true_left, Bool.cond_false_right, Bool.cond_true_right, Bool.cond_false_left, Bool.or_false, Bool.and_true, inR]
  have hin : inB (nNodes n) 1 5 = true → 1 ≤ nNodes n ∧ nNodes n ≤ 5 := by unfold inB; simp only [Bool.and_eq_true, Bool.or_eq_true, decide_eq_true_eq, decide_eq_false_iff_not, Bool.and_eq_false_iff, Bool.or_eq_false_iff, Bool.not_eq_true', Bool.not_eq_false']; exact id
  refine ⟨fun h => by have := hin h; dsimp only [den, nId, nNodes, nTerm, nVote, nBase, nBT, nSnap, nLog, nRole, nLead, nCommit, nVotes, nNext, nMatch, nClock, mKind, mFrom, mTo, mTerm, mIndex, mAt, mYes, mCommit, mEntries, mSnap, eTerm, eCmd, mkN, mkM, mkE, last, inR, sm, lastT] at *; omega, fun h => ?_, fun h => ?_⟩
  · have : checkA n = false := by unfold checkA; simp only [Bool.and_eq_true, Bool.or_eq_true, decide_eq_true_eq, decide_eq_false_iff_not, Bool.and_eq_false_iff, Bool.or_eq_false_iff, Bool.not_eq_true', Bool.not_eq_false']; exact h
    unfold checkN; rw [this]; rfl
  have hA : checkA n = true := by unfold checkA; simp only [Bool.and_eq_true, Bool.or_eq_true, decide_eq_true_eq, decide_eq_false_iff_not, Bool.and_eq_false_iff, Bool.or_eq_false_iff, Bool.not_eq_true', Bool.not_eq_false']; exact h
  have hN5 := hin h.1.1.1.1
  refine ⟨by rw [sm]; simp, fun _ => by dsimp only [den, nId, nNodes, nTerm, nVote, nBase, nBT, nSnap, nLog, nRole, nLead, nCommit, nVotes, nNext, nMatch, nClock, mKind, mFrom, mTo, mTerm, mIndex, mAt, mYes, mCommit, mEntries, mSnap, eTerm, eCmd, mkN, mkM, mkE, last, inR, sm, lastT] at *; omega, fun _ => by rw [sm]; simp, fun h => ?_, fun h => ?_⟩
  · have : checkB n = false := by unfold checkB; simp only [Bool.and_eq_true, Bool.or_eq_true, decide_eq_true_eq, decide_eq_false_iff_not, Bool.and_eq_false_iff, Bool.or_eq_false_iff, Bool.not_eq_true', Bool.not_eq_false']; exact h
    unfold checkN; rw [this, Bool.and_false]; rfl
  have hB : checkB n = true := by unfold checkB; simp only [Bool.and_eq_true, Bool.or_eq_true, decide_eq_true_eq, decide_eq_false_iff_not, Bool.and_eq_false_iff, Bool.or_eq_false_iff, Bool.not_eq_true', Bool.not_eq_false']; exact h
  refine ⟨hpre.1, fun _ => hpre.2.2.1, fun _ => hpre.2.2.2, fun _ => hpre.2.1, by rfl, ?_⟩
  unfold checkN
  rw [hA, hB]
  rfl
def fn64 : Fn := { a := .pair tI (.pair tI .unit), r := .pair tNode .unit, pre := fun _ => True, f := fun x => (newN x.1 x.2.1, ()) }
theorem h64  : Holds Try.prog 64 (fn64) := by
  refine Holds.of_vc (T := []) (TT := ttL) (rowAt := []) (c := c64) (ros := [.c 4 15]) (.nil _) mixed Try.func64 (by decide +kernel) (by rfl) comp64 (by kernel_rfl) rfl rfl (fun h => by cases h) ?_
  rintro ⟨(id : Int), (nodes : Int), _⟩ hpre
  simp only [fn64] at hpre ⊢
  simp only [c64, go_sem, reduceIte, Nat.reduceBEq, Nat.reduceMul, reduceCtorEq, Nat.reduceAdd, Nat.reduceEqDiff, decide_eq_true_eq, decide_eq_false_iff_not, Bool.not_eq_true', Bool.not_eq_false', Bool.and_eq_true, Bool.or_eq_true, Bool.and_eq_false_iff, Bool.or_eq_false_iff, Bool.cond_true_left, Bool.cond_false_right, Bool.cond_true_right, Bool.cond_false_left, Bool.or_false, Bool.and_true, inR]
  have hk1 : 1 ≤ max 1 (min nodes 5) := by omega
  have hk5 : max 1 (min nodes 5) ≤ 5 := by omega
  have hke : max 1 (min nodes 5) = min (max nodes 1) 5 := by omega
  simp only [newN]
  rw [← hke]
  generalize max 1 (min nodes 5) = k at *
  refine ⟨by omega, by omega, by omega, by omega, by rfl, ?_⟩
  refine loop_rule (β := Nat) (fun i => ⟨[(4, .ptr 4 0), (5, .ptr 5 0), (28, .int .i64 k.toNat), (29, .int .i64 i)], [(4, .box zN),
    (5, .box [.int .i64 (max 0 (min id (k - 1))), .int .i64 k, .int .i64 0, .int .i64 (-1), .int .i64 0, .int .i64 0, .str ⟨#[]⟩, .sl tEntry [] true, .int .i64 0, .int .i64 (-1), .int .i64 0, .own 18 0 k.toNat, .own 20 0 k.toNat, .own 22 0 k.toNat, .int .i64 0]),
    (18, .row .bool (List.replicate k.toNat false) false), (20, .row tI (List.replicate i (1 : Int) ++ List.replicate (k.toNat - i) (0 : Int)) false), (22, .row tI (List.replicate k.toNat (0 : Int)) false)]⟩)
    (fun i => i ≤ k.toNat) (fun i => k.toNat - i) 0 ?_ ?_ ?_
  · refine Ent_of [(4, 4), (5, 5), (18, 18), (20, 20), (22, 22)] rfl ?_ ?_
    · simp only [go_sem, reduceIte, Nat.reduceBEq, Nat.reduceMul, reduceCtorEq, Nat.reduceAdd, Nat.reduceEqDiff, decide_eq_true_eq, decide_eq_false_iff_not, Bool.not_eq_true', Bool.not_eq_false', Bool.and_eq_true, Bool.or_eq_true, Bool.and_eq_false_iff, Bool.or_eq_false_iff, Bool.cond_true_left, Bool.cond_false_right, Bool.cond_true_right, Bool.cond_false_left, Bool.or_false, Bool.and_true]
      exact ⟨rfl, rfl, rfl⟩
    · simp only [go_sem, reduceIte, Nat.reduceBEq, Nat.reduceMul, reduceCtorEq, Nat.reduceAdd, Nat.reduceEqDiff, decide_eq_true_eq, decide_eq_false_iff_not, Bool.not_eq_true', Bool.not_eq_false', Bool.and_eq_true, Bool.or_eq_true, Bool.and_eq_false_iff, Bool.or_eq_false_iff, Bool.cond_true_left, Bool.cond_false_right, Bool.cond_true_right, Bool.cond_false_left, Bool.or_false, Bool.and_true]
      trivial
  · exact Nat.zero_le _
  · intro i hi
    simp only [go_sem, reduceIte, Nat.reduceBEq, Nat.reduceMul, reduceCtorEq, Nat.reduceAdd, Nat.reduceEqDiff, decide_eq_true_eq, decide_eq_false_iff_not, Bool.not_eq_true', Bool.not_eq_false', Bool.and_eq_true, Bool.or_eq_true, Bool.and_eq_false_iff, Bool.or_eq_false_iff, Bool.cond_true_left, Bool.cond_false_right, Bool.cond_true_right, Bool.cond_false_left, Bool.or_false, Bool.and_true, inR]
    refine ⟨fun h => ⟨by omega, by omega, Again.intro (i + 1) (Ent_of [(4, 4), (5, 5), (18, 18), (20, 20), (22, 22)] rfl ?_ ?_) ?_ ?_⟩, fun h => ?_⟩
    · simp only [go_sem, reduceIte, Nat.reduceBEq, Nat.reduceMul, reduceCtorEq, Nat.reduceAdd, Nat.reduceEqDiff, decide_eq_true_eq, decide_eq_false_iff_not, Bool.not_eq_true', Bool.not_eq_false', Bool.and_eq_true, Bool.or_eq_true, Bool.and_eq_false_iff, Bool.or_eq_false_iff, Bool.cond_true_left, Bool.cond_false_right, Bool.cond_true_right, Bool.cond_false_left, Bool.or_false, Bool.and_true]
      exact (ones_set i k.toNat (by omega)).symm
    · simp only [go_sem, reduceIte, Nat.reduceBEq, Nat.reduceMul, reduceCtorEq, Nat.reduceAdd, Nat.reduceEqDiff, decide_eq_true_eq, decide_eq_false_iff_not, Bool.not_eq_true', Bool.not_eq_false', Bool.and_eq_true, Bool.or_eq_true, Bool.and_eq_false_iff, Bool.or_eq_false_iff, Bool.cond_true_left, Bool.cond_false_right, Bool.cond_true_right, Bool.cond_false_left, Bool.or_false, Bool.and_true]
      omega
    · show i + 1 ≤ k.toNat; omega
    · show k.toNat - (i + 1) < k.toNat - i; omega
    · rw [show i = k.toNat by omega, Nat.sub_self, List.replicate_zero, List.append_nil, List.take_replicate, Nat.min_self, show max 0 (min id (k - 1)) = min (max id 0) (k - 1) by omega]
      rfl
theorem put'_ne {m l : List E} {k i : Nat} (hi : i < l.length) (h : m.length ≤ k ∨ ¬ (m.getD k (dflt tEntry)).1 = (l.getD i (dflt tEntry)).1) : put' m k (l.drop i) = m.take k ++ l.drop i := by
  rw [List.drop_eq_getElem_cons hi]
  rw [List.getD_eq_getElem?_getD, List.getD_eq_getElem?_getD, List.getElem?_eq_getElem hi] at h
  refine if_neg fun e => ?_
  rcases h with h | h
  · rw [List.getElem?_eq_none h] at e
    cases e
  · rcases Nat.lt_or_ge k m.length with hk | hk
    · rw [List.getElem?_eq_getElem hk] at e h
      simp only [Option.map_some, Option.some.injEq, Option.getD_some] at e h
      exact h e
    · rw [List.getElem?_eq_none hk] at e
      cases e
theorem put'_eq {m l : List E} {k i : Nat} (hi : i < l.length) (hk : k < m.length) (h : (m.getD k (dflt tEntry)).1 = (l.getD i (dflt tEntry)).1) : put' m k (l.drop i) = put' m (k + 1) (l.drop (i + 1)) := by
  rw [List.drop_eq_getElem_cons hi]
  rw [List.getD_eq_getElem?_getD, List.getD_eq_getElem?_getD, List.getElem?_eq_getElem hi, List.getElem?_eq_getElem hk] at h
  simp only [Option.getD_some] at h
  refine if_pos ?_
  rw [List.getElem?_eq_getElem hk]
  simp only [Option.map_some, h]
theorem put'_nil {m : List E} {k : Nat} : put' m k [] = m := rfl
def fn34 : Fn := { a := .pair tNode (.pair tI (.pair (.list tEntry) .unit)), r := .pair tNode .unit, pre := fun x => smallL (nLog x.1) ∧ smallL x.2.2.1 ∧ InR .i64 (x.2.1 - nBase x.1) ∧ InR .i64 (last x.1), f := fun x => (put x.1 x.2.1 x.2.2.1, ()) }
theorem h34  : Holds Try.prog 34 (fn34) := by
  refine Holds.of_vc (T := [(52, fn52)]) (TT := ttL) (rowAt := []) (c := c34) (ros := [.c 6 15]) (.cons _ h52 (.nil _)) mixed Try.func34 (by decide +kernel) (by rfl) comp34 (by kernel_rfl) rfl rfl (fun h => by cases h) ?_
  rintro ⟨(n : Node), (prev : Int), (l : List E), _⟩ hpre
  simp only [fn34] at hpre ⊢
  simp only [c34, fn52, go_sem, reduceIte, Nat.reduceBEq, Nat.reduceMul, reduceCtorEq, Nat.reduceAdd, Nat.reduceEqDiff, decide_eq_true_eq, decide_eq_false_iff_not, Bool.not_eq_true', Bool.not_eq_false', Bool.and_eq_true, Bool.or_eq_true, Bool.and_eq_false_iff, Bool.or_eq_false_iff, Bool.cond_true_left, Bool.cond_false_right, Bool.cond_true_right, Bool.cond_false_left, Bool.or_false, Bool.and_true, inR]
  obtain ⟨p1, p2, p3, p4⟩ := hpre
  refine ⟨p3, fun _ => p4, fun h => ?_, fun h => ?_⟩
  · exact (if_pos (by dsimp only [den, nId, nNodes, nTerm, nVote, nBase, nBT, nSnap, nLog, nRole, nLead, nCommit, nVotes, nNext, nMatch, nClock, mKind, mFrom, mTo, mTerm, mIndex, mAt, mYes, mCommit, mEntries, mSnap, eTerm, eCmd, mkN, mkM, mkE, last, inR, sm, lastT] at *; omega)).symm
  have hput : put n prev l = setLog n (put' (nLog n) (prev - nBase n).toNat l) := if_neg (by dsimp only [den, nId, nNodes, nTerm, nVote, nBase, nBT, nSnap, nLog, nRole, nLead, nCommit, nVotes, nNext, nMatch, nClock, mKind, mFrom, mTo, mTerm, mIndex, mAt, mYes, mCommit, mEntries, mSnap, eTerm, eCmd, mkN, mkM, mkE, last, inR, sm, lastT] at *; omega)
  rw [hput]
  clear hput
  have hat : 0 ≤ prev - nBase n ∧ prev - nBase n ≤ (nLog n).length := by dsimp only [den, nId, nNodes, nTerm, nVote, nBase, nBT, nSnap, nLog, nRole, nLead, nCommit, nVotes, nNext, nMatch, nClock, mKind, mFrom, mTo, mTerm, mIndex, mAt, mYes, mCommit, mEntries, mSnap, eTerm, eCmd, mkN, mkM, mkE, last, inR, sm, lastT] at *; omega
  generalize hat' : prev - n.2.2.2.2.1 = at_ at *
  refine loop_rule (β := Nat) (fun i => ⟨[(2, .sl tEntry l false), (3, .ptr 3 0), (6, .ptr 6 0), (7, .int .i64 at_), (37, .sl tEntry l false), (38, .int .i64 l.length), (39, .int .i64 i)], [(3, .box (cellsA tNode n [])), (6, .box zN)]⟩)
    (fun i => i ≤ l.length ∧ at_.toNat + i ≤ (nLog n).length ∧ put' (nLog n) (at_.toNat + i) (l.drop i) = put' (nLog n) at_.toNat l) (fun i => l.length - i) 0 ?_ ?_ ?_
  · refine Ent_of [(3, 3), (6, 6)] rfl ?_ ?_
    · simp only [go_sem, reduceIte, Nat.reduceBEq, Nat.reduceMul, reduceCtorEq, Nat.reduceAdd, Nat.reduceEqDiff, decide_eq_true_eq, decide_eq_false_iff_not, Bool.not_eq_true', Bool.not_eq_false', Bool.and_eq_true, Bool.or_eq_true, Bool.and_eq_false_iff, Bool.or_eq_false_iff, Bool.cond_true_left, Bool.cond_false_right, Bool.cond_true_right, Bool.cond_false_left, Bool.or_false, Bool.and_true]
    · simp only [go_sem, reduceIte, Nat.reduceBEq, Nat.reduceMul, reduceCtorEq, Nat.reduceAdd, Nat.reduceEqDiff, decide_eq_true_eq, decide_eq_false_iff_not, Bool.not_eq_true', Bool.not_eq_false', Bool.and_eq_true, Bool.or_eq_true, Bool.and_eq_false_iff, Bool.or_eq_false_iff, Bool.cond_true_left, Bool.cond_false_right, Bool.cond_true_right, Bool.cond_false_left, Bool.or_false, Bool.and_true]
      trivial
  · refine ⟨Nat.zero_le _, ?_, rfl⟩
    dsimp only [den, nId, nNodes, nTerm, nVote, nBase, nBT, nSnap, nLog, nRole, nLead, nCommit, nVotes, nNext, nMatch, nClock, mKind, mFrom, mTo, mTerm, mIndex, mAt, mYes, mCommit, mEntries, mSnap, eTerm, eCmd, mkN, mkM, mkE, last, inR, sm, lastT] at *; omega
  rintro i ⟨hi, hki, hk⟩
  simp only [sm] at p1 p2
  simp only [go_sem, reduceIte, Nat.reduceBEq, Nat.reduceMul, reduceCtorEq, Nat.reduceAdd, Nat.reduceEqDiff, decide_eq_true_eq, decide_eq_false_iff_not, Bool.not_eq_true', Bool.not_eq_false', Bool.and_eq_true, Bool.or_eq_true, Bool.and_eq_false_iff, Bool.or_eq_false_iff, Bool.cond_true_left, Bool.cond_false_right, Bool.cond_true_right, Bool.cond_false_left, Bool.or_false, Bool.and_true, inR, decide_true]
  have hki' : at_.toNat + i ≤ n.2.2.2.2.2.2.2.1.length := hki
  have p1' : n.2.2.2.2.2.2.2.1.length ≤ 1048576 := p1
  have hat1 : 0 ≤ at_ := hat.1
  have e0 : (at_ + (i : Int)).toNat = at_.toNat + i := by omega
  have hl1 : (List.take (at_.toNat + i) n.2.2.2.2.2.2.2.1).length ≤ 1048576 := by rw [List.length_take]; omega
  have hl2 : (List.drop i l).length ≤ 1048576 := by rw [List.length_drop]; omega
  simp only [e0]
  refine ⟨fun h => ⟨by omega, by omega, fun h2 => by omega, by rfl, fun h2 => ⟨by omega, by omega, ⟨.inr ?_, by omega, by omega⟩, by rfl, ?_⟩, fun h2 => ⟨by omega, Again.intro (i + 1) (Ent_of [(3, 3), (6, 6)] rfl ?_ ?_) ⟨?_, ?_, ?_⟩ (show l.length - (i + 1) < l.length - i by omega)⟩⟩, fun h => ?_⟩
  · intro e
    have := congrArg List.length e
    rw [List.length_drop] at this
    simp only [List.length_nil] at this
    omega
  · rw [← hk, put'_ne (by omega) ?_, List.take_of_length_le (by rw [List.length_append]; exact Nat.le_refl _)]
    · rfl
    · rcases h2 with h2 | h2
      · left; show n.2.2.2.2.2.2.2.1.length ≤ _; omega
      · exact .inr h2
  · simp only [go_sem, reduceIte, Nat.reduceBEq, Nat.reduceMul, reduceCtorEq, Nat.reduceAdd, Nat.reduceEqDiff, decide_eq_true_eq, decide_eq_false_iff_not, Bool.not_eq_true', Bool.not_eq_false', Bool.and_eq_true, Bool.or_eq_true, Bool.and_eq_false_iff, Bool.or_eq_false_iff, Bool.cond_true_left, Bool.cond_false_right, Bool.cond_true_right, Bool.cond_false_left, Bool.or_false, Bool.and_true]
  · simp only [go_sem, reduceIte, Nat.reduceBEq, Nat.reduceMul, reduceCtorEq, Nat.reduceAdd, Nat.reduceEqDiff, decide_eq_true_eq, decide_eq_false_iff_not, Bool.not_eq_true', Bool.not_eq_false', Bool.and_eq_true, Bool.or_eq_true, Bool.and_eq_false_iff, Bool.or_eq_false_iff, Bool.cond_true_left, Bool.cond_false_right, Bool.cond_true_right, Bool.cond_false_left, Bool.or_false, Bool.and_true]
    omega
  · show i + 1 ≤ l.length; omega
  · show at_.toNat + (i + 1) ≤ n.2.2.2.2.2.2.2.1.length; omega
  · rw [← hk, put'_eq (by omega) (show at_.toNat + i < n.2.2.2.2.2.2.2.1.length by omega) h2.2]
    rfl
  · rw [← hk, show i = l.length by omega, List.drop_length, put'_nil]
    rfl
end Go.AM
