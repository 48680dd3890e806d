import Derived.Test.YtbcbgfkojmligaaAA
import Derived.KernelRfl
import Derived.Test.YtbcbgfkojmligaaProg
/- Functions of the program as code of the abstract machine, each with the proof that it is that code; no condition. -/
set_option maxRecDepth 100000
namespace Go.AM
def c34 : C := (.seq (.reg [⟨(some 3), .box, [.t 0], none⟩,
  ⟨(some 6), (.alloc [.int .i64 0, .int .i64 0, .int .i64 0, .int .i64 0, .int .i64 0, .int .i64 0, .str ⟨#[]⟩, .sl tEntry [] true, .int .i64 0, .int .i64 0, .int .i64 0, .sl .bool [] true, .sl tI [] true, .sl tI [] true, .int .i64 0]), [], none⟩])
 (.seq (.reg [⟨(some 11), .mv, [.t 1], none⟩,
  ⟨(some 12), (.fld 4), [.t 3], none⟩,
  ⟨(some 13), (.load 1 false), [.t 12], none⟩,
  ⟨(some 14), (.bin .sub), [.t 11, .t 13], none⟩,
  ⟨(some 7), .mv, [.t 14], none⟩])
 (.seq (.seq (.reg [⟨(some 15), .mv, [.t 1], none⟩,
  ⟨(some 16), (.fld 4), [.t 3], none⟩,
  ⟨(some 17), (.load 1 false), [.t 16], none⟩,
  ⟨(some 18), (.bin .lss), [.t 15, .t 17], none⟩,
  ⟨(some 19), .mv, [.t 18], none⟩,
  ⟨(some 20), .mv, [.t 1], (some (19, false))⟩,
  ⟨(some 21), (.load 15 true), [.t 3], (some (19, false))⟩,
  ⟨(some 22), (.call 52), [.t 21], (some (19, false))⟩,
  ⟨(some 23), (.bin .gtr), [.t 20, .t 22], (some (19, false))⟩,
  ⟨(some 24), .pick, [.t 19, .c (.bool true), .t 23], none⟩,
  ⟨(some 25), .mv, [.t 24], none⟩,
  ⟨(some 26), .mv, [.t 7], (some (25, false))⟩,
  ⟨(some 27), (.bin .lss), [.t 26, .c (.int .i64 0)], (some (25, false))⟩,
  ⟨(some 28), .pick, [.t 25, .c (.bool true), .t 27], none⟩,
  ⟨(some 29), .mv, [.t 28], none⟩,
  ⟨(some 30), .mv, [.t 7], (some (29, false))⟩,
  ⟨(some 31), (.fld 7), [.t 3], (some (29, false))⟩,
  ⟨(some 32), (.load 1 false), [.t 31], (some (29, false))⟩,
  ⟨(some 33), .len, [.t 32], (some (29, false))⟩,
  ⟨(some 34), (.bin .gtr), [.t 30, .t 33], (some (29, false))⟩,
  ⟨(some 35), .pick, [.t 29, .c (.bool true), .t 34], none⟩])
 (.cond (.t 35) (.seq (.reg [⟨(some 36), (.load 15 true), [.t 3], none⟩,
  ⟨none, (.store 15), [.t 6, .t 36], none⟩])
 .ret) .skip))
 (.seq (.seq (.reg [⟨(some 37), .mv, [.t 2], none⟩,
  ⟨(some 38), .len, [.t 37], none⟩,
  ⟨(some 39), .mv, [.c (.int .i64 0)], none⟩])
 (.block 0 (.loop (.seq (.reg [⟨(some 40), (.bin .lss), [.t 39, .t 38], none⟩])
 (.seq (.cond (.t 40) .skip (.exit 0))
 (.seq (.block 1 (.seq (.reg [⟨(some 41), .mv, [.t 39], none⟩,
  ⟨(some 42), (.idx 2), [.t 37, .t 39], none⟩,
  ⟨(some 43), (.load 2 true), [.t 42], none⟩,
  ⟨(some 9), (.alloc [.int .i64 0, .str ⟨#[]⟩]), [], none⟩,
  ⟨(some 8), .mv, [.t 41], none⟩,
  ⟨none, (.store 2), [.t 9, .t 43], none⟩])
 (.seq (.reg [⟨(some 44), .mv, [.t 7], none⟩,
  ⟨(some 45), .mv, [.t 8], none⟩,
  ⟨(some 46), (.bin .add), [.t 44, .t 45], none⟩,
  ⟨(some 10), .mv, [.t 46], none⟩])
 (.seq (.regd [⟨(some 47), .mv, [.t 10], none⟩,
  ⟨(some 48), (.fld 7), [.t 3], none⟩,
  ⟨(some 49), (.load 1 false), [.t 48], none⟩,
  ⟨(some 50), .len, [.t 49], none⟩,
  ⟨(some 51), (.bin .geq), [.t 47, .t 50], none⟩,
  ⟨(some 52), .mv, [.t 51], none⟩,
  ⟨(some 53), (.fld 7), [.t 3], (some (52, false))⟩,
  ⟨(some 54), (.load 1 false), [.t 53], (some (52, false))⟩,
  ⟨(some 55), .mv, [.t 10], (some (52, false))⟩,
  ⟨(some 56), (.idx 2), [.t 54, .t 55], (some (52, false))⟩,
  ⟨(some 57), (.fld 0), [.t 56], (some (52, false))⟩,
  ⟨(some 58), (.load 1 false), [.t 57], (some (52, false))⟩,
  ⟨(some 59), (.fld 0), [.t 9], (some (52, false))⟩,
  ⟨(some 60), (.load 1 false), [.t 59], (some (52, false))⟩,
  ⟨(some 61), (.bin .neq), [.t 58, .t 60], (some (52, false))⟩,
  ⟨(some 62), .pick, [.t 52, .c (.bool true), .t 61], none⟩] [0, 0, 2, 4, 9, 16, 32, 96, 32, 416, 544, 1056, 32, 4128, 10272, 16416])
 (.cond (.t 62) (.seq (.regd [⟨(some 63), (.fld 7), [.t 3], none⟩,
  ⟨(some 64), (.load 1 false), [.t 63], none⟩,
  ⟨(some 65), .mv, [.t 10], none⟩,
  ⟨(some 66), .mv, [.t 10], none⟩,
  ⟨(some 67), (.slc 2 false true true), [.t 64, .t 65, .t 66], none⟩,
  ⟨(some 68), .mv, [.t 2], none⟩,
  ⟨(some 69), .mv, [.t 8], none⟩,
  ⟨(some 70), (.slc 2 true false false), [.t 68, .t 69], none⟩,
  ⟨(some 71), (.app 2 24), [.t 67, .t 70], none⟩,
  ⟨(some 72), (.fld 7), [.t 3], none⟩,
  ⟨none, (.store 1), [.t 72, .t 71], none⟩] [0, 1, 0, 0, 14, 0, 0, 96, 144, 511, 1023])
 (.seq (.reg [⟨(some 73), (.load 15 true), [.t 3], none⟩,
  ⟨none, (.store 15), [.t 6, .t 73], none⟩])
 .ret)) .skip)))))
 (.reg [⟨(some 74), (.bin .add), [.t 39, .c (.int .i64 1)], none⟩,
  ⟨(some 39), .mv, [.t 74], none⟩])))))))
 (.seq (.reg [⟨(some 75), (.load 15 true), [.t 3], none⟩,
  ⟨none, (.store 15), [.t 6, .t 75], none⟩])
 .ret)))))
theorem comp34 : compC Go.Proofs.Try.prog ttL 76 [] (match Go.Proofs.Try.f34.body with | some b => b | none => .skip) = some (c34) := by kernel_rfl
def c46 : C := (.seq (.reg [⟨(some 1), .box, [.t 0], none⟩,
  ⟨(some 2), .mv, [.c (.bool false)], none⟩])
 (.seq (.seq (.reg [⟨(some 4), (.fld 1), [.t 1], none⟩,
  ⟨(some 5), (.load 1 false), [.t 4], none⟩,
  ⟨(some 6), (.call 97), [.t 5, .c (.int .i64 1), .c (.int .i64 5)], none⟩,
  ⟨(some 7), .not, [.t 6], none⟩,
  ⟨(some 8), .mv, [.t 7], none⟩,
  ⟨(some 9), (.fld 0), [.t 1], (some (8, false))⟩,
  ⟨(some 10), (.load 1 false), [.t 9], (some (8, false))⟩,
  ⟨(some 11), (.fld 1), [.t 1], (some (8, false))⟩,
  ⟨(some 12), (.load 1 false), [.t 11], (some (8, false))⟩,
  ⟨(some 13), (.bin .sub), [.t 12, .c (.int .i64 1)], (some (8, false))⟩,
  ⟨(some 14), (.call 97), [.t 10, .c (.int .i64 0), .t 13], (some (8, false))⟩,
  ⟨(some 15), .not, [.t 14], (some (8, false))⟩,
  ⟨(some 16), .pick, [.t 8, .c (.bool true), .t 15], none⟩,
  ⟨(some 17), .mv, [.t 16], none⟩,
  ⟨(some 18), (.fld 11), [.t 1], (some (17, false))⟩,
  ⟨(some 19), (.load 1 false), [.t 18], (some (17, false))⟩,
  ⟨(some 20), .len, [.t 19], (some (17, false))⟩,
  ⟨(some 21), (.fld 1), [.t 1], (some (17, false))⟩,
  ⟨(some 22), (.load 1 false), [.t 21], (some (17, false))⟩,
  ⟨(some 23), (.bin .neq), [.t 20, .t 22], (some (17, false))⟩,
  ⟨(some 24), .pick, [.t 17, .c (.bool true), .t 23], none⟩,
  ⟨(some 25), .mv, [.t 24], none⟩,
  ⟨(some 26), (.fld 12), [.t 1], (some (25, false))⟩,
  ⟨(some 27), (.load 1 false), [.t 26], (some (25, false))⟩,
  ⟨(some 28), .len, [.t 27], (some (25, false))⟩,
  ⟨(some 29), (.fld 1), [.t 1], (some (25, false))⟩,
  ⟨(some 30), (.load 1 false), [.t 29], (some (25, false))⟩,
  ⟨(some 31), (.bin .neq), [.t 28, .t 30], (some (25, false))⟩,
  ⟨(some 32), .pick, [.t 25, .c (.bool true), .t 31], none⟩,
  ⟨(some 33), .mv, [.t 32], none⟩,
  ⟨(some 34), (.fld 13), [.t 1], (some (33, false))⟩,
  ⟨(some 35), (.load 1 false), [.t 34], (some (33, false))⟩,
  ⟨(some 36), .len, [.t 35], (some (33, false))⟩,
  ⟨(some 37), (.fld 1), [.t 1], (some (33, false))⟩,
  ⟨(some 38), (.load 1 false), [.t 37], (some (33, false))⟩,
  ⟨(some 39), (.bin .neq), [.t 36, .t 38], (some (33, false))⟩,
  ⟨(some 40), .pick, [.t 33, .c (.bool true), .t 39], none⟩])
 (.cond (.t 40) (.seq (.reg [⟨(some 2), .mv, [.c (.bool false)], none⟩])
 .ret) .skip))
 (.seq (.seq (.reg [⟨(some 41), (.fld 2), [.t 1], none⟩,
  ⟨(some 42), (.load 1 false), [.t 41], none⟩,
  ⟨(some 43), (.fld 4), [.t 1], none⟩,
  ⟨(some 44), (.load 1 false), [.t 43], none⟩,
  ⟨(some 45), (.fld 5), [.t 1], none⟩,
  ⟨(some 46), (.load 1 false), [.t 45], none⟩,
  ⟨(some 47), (.fld 10), [.t 1], none⟩,
  ⟨(some 48), (.load 1 false), [.t 47], none⟩,
  ⟨(some 49), (.fld 14), [.t 1], none⟩,
  ⟨(some 50), (.load 1 false), [.t 49], none⟩,
  ⟨(some 51), (.bslice tI 5), [.t 42, .t 44, .t 46, .t 48, .t 50], none⟩,
  ⟨(some 52), (.call 98), [.t 51, .c (.int .i64 0), .c (.int .i64 1099511627776)], none⟩,
  ⟨(some 53), .not, [.t 52], none⟩,
  ⟨(some 54), .mv, [.t 53], none⟩,
  ⟨(some 55), (.fld 3), [.t 1], (some (54, false))⟩,
  ⟨(some 56), (.load 1 false), [.t 55], (some (54, false))⟩,
  ⟨(some 57), (.fld 9), [.t 1], (some (54, false))⟩,
  ⟨(some 58), (.load 1 false), [.t 57], (some (54, false))⟩,
  ⟨(some 59), (.bslice tI 2), [.t 56, .t 58], (some (54, false))⟩,
  ⟨(some 60), (.fld 1), [.t 1], (some (54, false))⟩,
  ⟨(some 61), (.load 1 false), [.t 60], (some (54, false))⟩,
  ⟨(some 62), (.bin .sub), [.t 61, .c (.int .i64 1)], (some (54, false))⟩,
  ⟨(some 63), (.call 98), [.t 59, .c (.int .i64 (-1)), .t 62], (some (54, false))⟩,
  ⟨(some 64), .not, [.t 63], (some (54, false))⟩,
  ⟨(some 65), .pick, [.t 54, .c (.bool true), .t 64], none⟩,
  ⟨(some 66), .mv, [.t 65], none⟩,
  ⟨(some 67), (.fld 8), [.t 1], (some (66, false))⟩,
  ⟨(some 68), (.load 1 false), [.t 67], (some (66, false))⟩,
  ⟨(some 69), (.call 97), [.t 68, .c (.int .i64 0), .c (.int .i64 2)], (some (66, false))⟩,
  ⟨(some 70), .not, [.t 69], (some (66, false))⟩,
  ⟨(some 71), .pick, [.t 66, .c (.bool true), .t 70], none⟩])
 (.cond (.t 71) (.seq (.reg [⟨(some 2), .mv, [.c (.bool false)], none⟩])
 .ret) .skip))
 (.seq (.reg [⟨(some 72), (.clo 99), [.t 1], none⟩,
  ⟨(some 3), .mv, [.t 72], none⟩])
 (.seq (.regd [⟨(some 73), (.fld 10), [.t 1], none⟩,
  ⟨(some 74), (.load 1 false), [.t 73], none⟩,
  ⟨(some 75), (.fld 4), [.t 1], none⟩,
  ⟨(some 76), (.load 1 false), [.t 75], none⟩,
  ⟨(some 77), (.load 15 true), [.t 1], none⟩,
  ⟨(some 78), (.call 52), [.t 77], none⟩,
  ⟨(some 79), (.call 97), [.t 74, .t 76, .t 78], none⟩,
  ⟨(some 80), .mv, [.t 79], none⟩,
  ⟨(some 81), (.fld 12), [.t 1], (some (80, true))⟩,
  ⟨(some 82), (.load 1 false), [.t 81], (some (80, true))⟩,
  ⟨(some 83), (.call 98), [.t 82, .c (.int .i64 1), .c (.int .i64 1099511627776)], (some (80, true))⟩,
  ⟨(some 84), .pick, [.t 80, .t 83, .c (.bool false)], none⟩,
  ⟨(some 85), .mv, [.t 84], none⟩,
  ⟨(some 86), (.fld 13), [.t 1], (some (85, true))⟩,
  ⟨(some 87), (.load 1 false), [.t 86], (some (85, true))⟩,
  ⟨(some 88), (.call 98), [.t 87, .c (.int .i64 0), .c (.int .i64 1099511627776)], (some (85, true))⟩,
  ⟨(some 89), .pick, [.t 85, .t 88, .c (.bool false)], none⟩,
  ⟨(some 90), .mv, [.t 89], none⟩,
  ⟨(some 91), (.fld 7), [.t 1], (some (90, true))⟩,
  ⟨(some 92), (.load 1 false), [.t 91], (some (90, true))⟩,
  ⟨(some 93), .mv, [.t 3], (some (90, true))⟩,
  ⟨(some 94), (.call 100), [.t 92, .t 93], (some (90, true))⟩,
  ⟨(some 95), .not, [.t 94], (some (90, true))⟩,
  ⟨(some 96), .pick, [.t 90, .t 95, .c (.bool false)], none⟩,
  ⟨(some 2), .mv, [.t 96], none⟩] [0, 1, 0, 4, 0, 16, 42, 64, 128, 384, 640, 1152, 3072, 4096, 12288, 20480, 36864, 98304, 131072, 393216, 131072, 1703936, 2228224, 4325376, 16777215])
 .ret)))))
theorem comp46 : compC Go.Proofs.Try.prog ttL 97 [] (match Go.Proofs.Try.f46.body with | some b => b | none => .skip) = some (c46) := by kernel_rfl
def c64 : C := (.seq (.reg [⟨(some 4), (.alloc [.int .i64 0, .int .i64 0, .int .i64 0, .int .i64 0, .int .i64 0, .int .i64 0, .str ⟨#[]⟩, .sl tEntry [] true, .int .i64 0, .int .i64 0, .int .i64 0, .sl .bool [] true, .sl tI [] true, .sl tI [] true, .int .i64 0]), [], none⟩])
 (.seq (.reg [⟨(some 7), .mv, [.t 1], none⟩,
  ⟨(some 8), .mn, [.t 7, .c (.int .i64 5)], none⟩,
  ⟨(some 9), .mx, [.c (.int .i64 1), .t 8], none⟩,
  ⟨(some 1), .mv, [.t 9], none⟩])
 (.seq (.reg [⟨(some 10), .mv, [.t 0], none⟩,
  ⟨(some 11), .mv, [.t 1], none⟩,
  ⟨(some 12), (.bin .sub), [.t 11, .c (.int .i64 1)], none⟩,
  ⟨(some 13), .mn, [.t 10, .t 12], none⟩,
  ⟨(some 14), .mx, [.c (.int .i64 0), .t 13], none⟩,
  ⟨(some 15), .mv, [.t 1], none⟩,
  ⟨(some 16), (.build [.int .i64 0, .int .i64 0, .int .i64 0, .int .i64 0, .int .i64 0, .int .i64 0, .str ⟨#[]⟩, .sl tEntry [] true, .int .i64 0, .int .i64 0, .int .i64 0, .sl .bool [] true, .sl tI [] true, .sl tI [] true, .int .i64 0] [(0, 1), (1, 1), (3, 1), (9, 1)]), [.t 14, .t 15, .c (.int .i64 (-1)), .c (.int .i64 (-1))], none⟩,
  ⟨(some 5), (.alloc [.int .i64 0, .int .i64 0, .int .i64 0, .int .i64 0, .int .i64 0, .int .i64 0, .str ⟨#[]⟩, .sl tEntry [] true, .int .i64 0, .int .i64 0, .int .i64 0, .sl .bool [] true, .sl tI [] true, .sl tI [] true, .int .i64 0]), [], none⟩,
  ⟨none, (.store 15), [.t 5, .t 16], none⟩])
 (.seq (.regd [⟨(some 17), .mv, [.t 1], none⟩,
  ⟨(some 18), (.mks .bool 1), [.t 17, .t 17], none⟩,
  ⟨(some 19), .mv, [.t 1], none⟩,
  ⟨(some 20), (.mks tI 8), [.t 19, .t 19], none⟩,
  ⟨(some 21), .mv, [.t 1], none⟩,
  ⟨(some 22), (.mks tI 8), [.t 21, .t 21], none⟩,
  ⟨(some 23), (.fld 11), [.t 5], none⟩,
  ⟨none, (.store 1), [.t 23, .t 18], none⟩,
  ⟨(some 24), (.fld 12), [.t 5], none⟩,
  ⟨none, (.store 1), [.t 24, .t 20], none⟩,
  ⟨(some 25), (.fld 13), [.t 5], none⟩,
  ⟨none, (.store 1), [.t 25, .t 22], none⟩] [0, 1, 0, 4, 0, 16, 3, 67, 207, 463, 1023, 2047])
 (.seq (.seq (.reg [⟨(some 26), (.fld 12), [.t 5], none⟩,
  ⟨(some 27), (.load 1 false), [.t 26], none⟩,
  ⟨(some 28), .len, [.t 27], none⟩,
  ⟨(some 29), .mv, [.c (.int .i64 0)], none⟩])
 (.block 0 (.loop (.seq (.reg [⟨(some 30), (.bin .lss), [.t 29, .t 28], none⟩])
 (.seq (.cond (.t 30) .skip (.exit 0))
 (.seq (.block 1 (.seq (.reg [⟨(some 31), .mv, [.t 29], none⟩,
  ⟨(some 6), .mv, [.t 31], none⟩])
 (.reg [⟨(some 32), (.fld 12), [.t 5], none⟩,
  ⟨(some 33), (.load 1 false), [.t 32], none⟩,
  ⟨(some 34), .mv, [.t 6], none⟩,
  ⟨(some 35), (.idx 1), [.t 33, .t 34], none⟩,
  ⟨none, (.store 1), [.t 35, .c (.int .i64 1)], none⟩])))
 (.reg [⟨(some 36), (.bin .add), [.t 29, .c (.int .i64 1)], none⟩,
  ⟨(some 29), .mv, [.t 36], none⟩])))))))
 (.seq (.reg [⟨(some 37), (.load 15 true), [.t 5], none⟩,
  ⟨none, (.store 15), [.t 4, .t 37], none⟩])
 .ret))))))
theorem comp64 : compC Go.Proofs.Try.prog ttL 38 [] (match Go.Proofs.Try.f64.body with | some b => b | none => .skip) = some (c64) := by kernel_rfl
end Go.AM
