import Derived.Test.YtbcbgfkojmligaaAA
import Derived.KernelRfl
import Derived.Test.YtbcbgfkojmligaaProg
/- Functions of the program as code of the abstract machine, each with the proof that it is that code; no condition. -/
set_option maxRecDepth 100000
namespace Go.AM
def c51 : C := (.seq (.reg [⟨(some 3), .box, [.t 0], none⟩,
  ⟨(some 6), (.alloc [.int .i64 0, .int .i64 0, .int .i64 0, .int .i64 0, .int .i64 0, .int .i64 0, .str ⟨#[]⟩, .sl tEntry [] true, .int .i64 0, .int .i64 0, .int .i64 0, .sl .bool [] true, .sl tI [] true, .sl tI [] true, .int .i64 0]), [], none⟩])
 (.seq (.reg [⟨(some 10), (.load 15 true), [.t 3], none⟩,
  ⟨(some 11), .mv, [.t 1], none⟩,
  ⟨(some 12), (.call 48), [.t 10, .t 11], none⟩,
  ⟨(some 9), .mv, [.t 12], none⟩,
  ⟨(some 13), (.ext 0), [.t 9], none⟩,
  ⟨(some 14), (.ext 1), [.t 9], none⟩,
  ⟨(some 7), .mv, [.t 13], none⟩,
  ⟨(some 8), .mv, [.t 14], none⟩])
 (.seq (.seq (.reg [⟨(some 15), .mv, [.t 1], none⟩,
  ⟨(some 16), (.fld 4), [.t 3], none⟩,
  ⟨(some 17), (.load 1 false), [.t 16], none⟩,
  ⟨(some 18), (.bin .leq), [.t 15, .t 17], none⟩,
  ⟨(some 19), .mv, [.t 18], none⟩,
  ⟨(some 20), .mv, [.t 1], (some (19, false))⟩,
  ⟨(some 21), (.fld 10), [.t 3], (some (19, false))⟩,
  ⟨(some 22), (.load 1 false), [.t 21], (some (19, false))⟩,
  ⟨(some 23), (.bin .gtr), [.t 20, .t 22], (some (19, false))⟩,
  ⟨(some 24), .pick, [.t 19, .c (.bool true), .t 23], none⟩,
  ⟨(some 25), .mv, [.t 24], none⟩,
  ⟨(some 26), .mv, [.t 8], (some (25, false))⟩,
  ⟨(some 27), .not, [.t 26], (some (25, false))⟩,
  ⟨(some 28), .pick, [.t 25, .c (.bool true), .t 27], none⟩])
 (.cond (.t 28) (.seq (.reg [⟨(some 29), (.load 15 true), [.t 3], none⟩,
  ⟨none, (.store 15), [.t 6, .t 29], none⟩])
 .ret) .skip))
 (.seq (.reg [⟨(some 30), (.load 15 true), [.t 3], none⟩,
  ⟨(some 31), .mv, [.t 1], none⟩,
  ⟨(some 32), (.call 53), [.t 30, .t 31], none⟩,
  ⟨(some 33), (.call 105), [.t 32], none⟩,
  ⟨(some 34), (.fld 7), [.t 3], none⟩,
  ⟨none, (.store 1), [.t 34, .t 33], none⟩])
 (.seq (.reg [⟨(some 35), .mv, [.t 1], none⟩,
  ⟨(some 36), .mv, [.t 7], none⟩,
  ⟨(some 37), .mv, [.t 2], none⟩,
  ⟨(some 38), (.fld 4), [.t 3], none⟩,
  ⟨none, (.store 1), [.t 38, .t 35], none⟩,
  ⟨(some 39), (.fld 5), [.t 3], none⟩,
  ⟨none, (.store 1), [.t 39, .t 36], none⟩,
  ⟨(some 40), (.fld 6), [.t 3], none⟩,
  ⟨none, (.store 1), [.t 40, .t 37], none⟩])
 (.seq (.reg [⟨(some 41), (.load 15 true), [.t 3], none⟩,
  ⟨none, (.store 15), [.t 6, .t 41], none⟩])
 .ret))))))
theorem comp51 : compC Go.Proofs.Try.prog ttL 42 [] (match Go.Proofs.Try.f51.body with | some b => b | none => .skip) = some (c51) := by kernel_rfl
def c54 : C := (.seq (.reg [⟨(some 5), .box, [.t 2], none⟩,
  ⟨(some 6), (.alloc [.int .i64 0, .int .i64 0, .int .i64 0, .int .i64 0, .int .i64 0, .int .i64 0, .str ⟨#[]⟩, .sl tEntry [] true, .int .i64 0, .int .i64 0, .int .i64 0, .sl .bool [] true, .sl tI [] true, .sl tI [] true, .int .i64 0]), [], none⟩])
 (.seq (.reg [⟨(some 8), .mv, [.t 0], none⟩,
  ⟨(some 9), .mv, [.t 1], none⟩,
  ⟨(some 10), (.call 64), [.t 8, .t 9], none⟩,
  ⟨(some 7), (.alloc [.int .i64 0, .int .i64 0, .int .i64 0, .int .i64 0, .int .i64 0, .int .i64 0, .str ⟨#[]⟩, .sl tEntry [] true, .int .i64 0, .int .i64 0, .int .i64 0, .sl .bool [] true, .sl tI [] true, .sl tI [] true, .int .i64 0]), [], none⟩,
  ⟨none, (.store 15), [.t 7, .t 10], none⟩])
 (.seq (.regd [⟨(some 11), (.fld 0), [.t 5], none⟩,
  ⟨(some 12), (.load 1 false), [.t 11], none⟩,
  ⟨(some 13), (.fld 1), [.t 5], none⟩,
  ⟨(some 14), (.load 1 false), [.t 13], none⟩,
  ⟨(some 15), (.fld 2), [.t 5], none⟩,
  ⟨(some 16), (.load 1 false), [.t 15], none⟩,
  ⟨(some 17), (.fld 3), [.t 5], none⟩,
  ⟨(some 18), (.load 1 false), [.t 17], none⟩,
  ⟨(some 19), (.fld 4), [.t 5], none⟩,
  ⟨(some 20), (.load 1 false), [.t 19], none⟩,
  ⟨(some 21), (.fld 5), [.t 5], none⟩,
  ⟨(some 22), (.load 1 false), [.t 21], none⟩,
  ⟨(some 23), (.call 105), [.t 22], none⟩,
  ⟨(some 24), (.fld 2), [.t 5], none⟩,
  ⟨(some 25), (.load 1 false), [.t 24], none⟩,
  ⟨(some 26), (.fld 2), [.t 7], none⟩,
  ⟨none, (.store 1), [.t 26, .t 12], none⟩,
  ⟨(some 27), (.fld 3), [.t 7], none⟩,
  ⟨none, (.store 1), [.t 27, .t 14], none⟩,
  ⟨(some 28), (.fld 4), [.t 7], none⟩,
  ⟨none, (.store 1), [.t 28, .t 16], none⟩,
  ⟨(some 29), (.fld 5), [.t 7], none⟩,
  ⟨none, (.store 1), [.t 29, .t 18], none⟩,
  ⟨(some 30), (.fld 6), [.t 7], none⟩,
  ⟨none, (.store 1), [.t 30, .t 20], none⟩,
  ⟨(some 31), (.fld 7), [.t 7], none⟩,
  ⟨none, (.store 1), [.t 31, .t 23], none⟩,
  ⟨(some 32), (.fld 10), [.t 7], none⟩,
  ⟨none, (.store 1), [.t 32, .t 25], none⟩] [0, 1, 0, 4, 0, 16, 0, 64, 0, 256, 0, 1024, 2048, 0, 8192, 3, 36867, 98319, 229391, 491583, 1015871, 2064639, 4161791, 8356863, 16745471, 33529855, 67084287, 134217727, 268435455])
 (.seq (.reg [⟨(some 33), (.load 15 true), [.t 7], none⟩,
  ⟨none, (.store 15), [.t 6, .t 33], none⟩])
 .ret))))
theorem comp54 : compC Go.Proofs.Try.prog ttL 34 [] (match Go.Proofs.Try.f54.body with | some b => b | none => .skip) = some (c54) := by kernel_rfl
def c55 : C := (.seq (.reg [⟨(some 1), .box, [.t 0], none⟩,
  ⟨(some 2), (.alloc [.int .i64 0, .int .i64 0, .int .i64 0, .int .i64 0, .str ⟨#[]⟩, .sl tEntry [] true]), [], none⟩])
 (.seq (.regd [⟨(some 3), (.fld 2), [.t 1], none⟩,
  ⟨(some 4), (.load 1 false), [.t 3], none⟩,
  ⟨(some 5), (.fld 3), [.t 1], none⟩,
  ⟨(some 6), (.load 1 false), [.t 5], none⟩,
  ⟨(some 7), (.fld 4), [.t 1], none⟩,
  ⟨(some 8), (.load 1 false), [.t 7], none⟩,
  ⟨(some 9), (.fld 5), [.t 1], none⟩,
  ⟨(some 10), (.load 1 false), [.t 9], none⟩,
  ⟨(some 11), (.fld 6), [.t 1], none⟩,
  ⟨(some 12), (.load 1 false), [.t 11], none⟩,
  ⟨(some 13), (.fld 7), [.t 1], none⟩,
  ⟨(some 14), (.load 1 false), [.t 13], none⟩,
  ⟨(some 15), (.call 105), [.t 14], none⟩,
  ⟨(some 16), (.build [.int .i64 0, .int .i64 0, .int .i64 0, .int .i64 0, .str ⟨#[]⟩, .sl tEntry [] true] [(0, 1), (1, 1), (2, 1), (3, 1), (4, 1), (5, 1)]), [.t 4, .t 6, .t 8, .t 10, .t 12, .t 15], none⟩,
  ⟨none, (.store 6), [.t 2, .t 16], none⟩] [0, 1, 0, 4, 0, 16, 0, 64, 0, 256, 0, 1024, 2048, 4778, 16383])
 .ret))
theorem comp55 : compC Go.Proofs.Try.prog ttL 17 [] (match Go.Proofs.Try.f55.body with | some b => b | none => .skip) = some (c55) := by kernel_rfl
def c58 : C := (.seq (.reg [⟨(some 3), .box, [.t 0], none⟩,
  ⟨(some 6), (.alloc [.int .i64 0, .int .i64 0, .int .i64 0, .int .i64 0, .int .i64 0, .int .i64 0, .str ⟨#[]⟩, .sl tEntry [] true, .int .i64 0, .int .i64 0, .int .i64 0, .sl .bool [] true, .sl tI [] true, .sl tI [] true, .int .i64 0]), [], none⟩])
 (.seq (.seq (.reg [⟨(some 10), .mv, [.t 1], none⟩,
  ⟨(some 11), (.fld 4), [.t 3], none⟩,
  ⟨(some 12), (.load 1 false), [.t 11], none⟩,
  ⟨(some 13), (.bin .lss), [.t 10, .t 12], none⟩,
  ⟨(some 14), .mv, [.t 13], none⟩,
  ⟨(some 15), .mv, [.t 1], (some (14, false))⟩,
  ⟨(some 16), (.load 15 true), [.t 3], (some (14, false))⟩,
  ⟨(some 17), (.call 30), [.t 16], (some (14, false))⟩,
  ⟨(some 18), (.bin .gtr), [.t 15, .t 17], (some (14, false))⟩,
  ⟨(some 19), .pick, [.t 14, .c (.bool true), .t 18], none⟩])
 (.cond (.t 19) (.seq (.reg [⟨(some 20), (.load 15 true), [.t 3], none⟩,
  ⟨none, (.store 15), [.t 6, .t 20], none⟩])
 .ret) .skip))
 (.seq (.reg [⟨(some 21), (.fld 7), [.t 3], none⟩,
  ⟨(some 22), (.load 1 false), [.t 21], none⟩,
  ⟨(some 23), (.app 2 24), [.c (.sl tEntry [] true), .t 22], none⟩,
  ⟨(some 7), .mv, [.t 23], none⟩])
 (.seq (.seq (.reg [⟨(some 8), .mv, [.c (.int .i64 0)], none⟩])
 (.block 0 (.loop (.seq (.seq (.reg [⟨(some 24), .mv, [.t 8], none⟩,
  ⟨(some 25), .mv, [.t 2], none⟩,
  ⟨(some 26), .len, [.t 25], none⟩,
  ⟨(some 27), (.bin .lss), [.t 24, .t 26], none⟩])
 (.cond (.t 27) .skip (.exit 0)))
 (.seq (.block 1 (.seq (.reg [⟨(some 30), .mv, [.t 1], none⟩,
  ⟨(some 31), (.fld 4), [.t 3], none⟩,
  ⟨(some 32), (.load 1 false), [.t 31], none⟩,
  ⟨(some 33), (.bin .sub), [.t 30, .t 32], none⟩,
  ⟨(some 34), .mv, [.t 8], none⟩,
  ⟨(some 35), (.bin .add), [.t 33, .t 34], none⟩,
  ⟨(some 9), .mv, [.t 35], none⟩])
 (.seq (.seq (.regd [⟨(some 36), .mv, [.t 9], none⟩,
  ⟨(some 37), .mv, [.t 7], none⟩,
  ⟨(some 38), .len, [.t 37], none⟩,
  ⟨(some 39), (.bin .lss), [.t 36, .t 38], none⟩,
  ⟨(some 40), .mv, [.t 39], none⟩,
  ⟨(some 41), .mv, [.t 7], (some (40, true))⟩,
  ⟨(some 42), .mv, [.t 9], (some (40, true))⟩,
  ⟨(some 43), (.idx 2), [.t 41, .t 42], (some (40, true))⟩,
  ⟨(some 44), (.fld 0), [.t 43], (some (40, true))⟩,
  ⟨(some 45), (.load 1 false), [.t 44], (some (40, true))⟩,
  ⟨(some 46), .mv, [.t 2], (some (40, true))⟩,
  ⟨(some 47), .mv, [.t 8], (some (40, true))⟩,
  ⟨(some 48), (.idx 2), [.t 46, .t 47], (some (40, true))⟩,
  ⟨(some 49), (.fld 0), [.t 48], (some (40, true))⟩,
  ⟨(some 50), (.load 1 false), [.t 49], (some (40, true))⟩,
  ⟨(some 51), (.bin .eql), [.t 45, .t 50], (some (40, true))⟩,
  ⟨(some 52), .pick, [.t 40, .t 51, .c (.bool false)], none⟩] [0, 0, 2, 5, 8, 16, 16, 112, 144, 272, 16, 16, 3088, 4112, 8208, 16912, 32784])
 (.cond (.t 52) (.exit 1) .skip))
 (.seq (.regd [⟨(some 53), .mv, [.t 7], none⟩,
  ⟨(some 54), .mv, [.t 9], none⟩,
  ⟨(some 55), .mv, [.t 7], none⟩,
  ⟨(some 56), .len, [.t 55], none⟩,
  ⟨(some 57), .mn, [.t 54, .t 56], none⟩,
  ⟨(some 58), (.slc 2 false true false), [.t 53, .t 57], none⟩,
  ⟨(some 59), .mv, [.t 2], none⟩,
  ⟨(some 60), .mv, [.t 8], none⟩,
  ⟨(some 61), (.slc 2 true false false), [.t 59, .t 60], none⟩,
  ⟨(some 62), (.app 2 24), [.t 58, .t 61], none⟩,
  ⟨(some 7), .mv, [.t 62], none⟩] [0, 0, 0, 4, 10, 17, 0, 0, 192, 288, 1023])
 (.exit 0)))))
 (.reg [⟨(some 28), .mv, [.t 8], none⟩,
  ⟨(some 29), (.bin .add), [.t 28, .c (.int .i64 1)], none⟩,
  ⟨(some 8), .mv, [.t 29], none⟩]))))))
 (.seq (.reg [⟨(some 63), .mv, [.t 7], none⟩,
  ⟨(some 64), (.fld 7), [.t 3], none⟩,
  ⟨none, (.store 1), [.t 64, .t 63], none⟩])
 (.seq (.reg [⟨(some 65), (.load 15 true), [.t 3], none⟩,
  ⟨none, (.store 15), [.t 6, .t 65], none⟩])
 .ret))))))
theorem comp58 : compC Go.Proofs.Try.prog ttL 66 [] (match Go.Proofs.Try.f58.body with | some b => b | none => .skip) = some (c58) := by kernel_rfl
def c63 : C := (.seq (.reg [⟨(some 5), .box, [.t 2], none⟩,
  ⟨(some 6), (.alloc [.int .i64 0, .int .i64 0, .int .i64 0, .int .i64 0, .int .i64 0, .int .i64 0, .str ⟨#[]⟩, .sl tEntry [] true, .int .i64 0, .int .i64 0, .int .i64 0, .sl .bool [] true, .sl tI [] true, .sl tI [] true, .int .i64 0]), [], none⟩])
 (.seq (.reg [⟨(some 8), .mv, [.t 0], none⟩,
  ⟨(some 9), .mv, [.t 1], none⟩,
  ⟨(some 10), (.call 31), [.t 8, .t 9], none⟩,
  ⟨(some 7), (.alloc [.int .i64 0, .int .i64 0, .int .i64 0, .int .i64 0, .int .i64 0, .int .i64 0, .str ⟨#[]⟩, .sl tEntry [] true, .int .i64 0, .int .i64 0, .int .i64 0, .sl .bool [] true, .sl tI [] true, .sl tI [] true, .int .i64 0]), [], none⟩,
  ⟨none, (.store 15), [.t 7, .t 10], none⟩])
 (.seq (.regd [⟨(some 11), (.fld 0), [.t 5], none⟩,
  ⟨(some 12), (.load 1 false), [.t 11], none⟩,
  ⟨(some 13), (.fld 1), [.t 5], none⟩,
  ⟨(some 14), (.load 1 false), [.t 13], none⟩,
  ⟨(some 15), (.fld 2), [.t 5], none⟩,
  ⟨(some 16), (.load 1 false), [.t 15], none⟩,
  ⟨(some 17), (.fld 3), [.t 5], none⟩,
  ⟨(some 18), (.load 1 false), [.t 17], none⟩,
  ⟨(some 19), (.fld 4), [.t 5], none⟩,
  ⟨(some 20), (.load 1 false), [.t 19], none⟩,
  ⟨(some 21), (.fld 2), [.t 5], none⟩,
  ⟨(some 22), (.load 1 false), [.t 21], none⟩,
  ⟨(some 23), (.fld 2), [.t 7], none⟩,
  ⟨none, (.store 1), [.t 23, .t 12], none⟩,
  ⟨(some 24), (.fld 3), [.t 7], none⟩,
  ⟨none, (.store 1), [.t 24, .t 14], none⟩,
  ⟨(some 25), (.fld 4), [.t 7], none⟩,
  ⟨none, (.store 1), [.t 25, .t 16], none⟩,
  ⟨(some 26), (.fld 5), [.t 7], none⟩,
  ⟨none, (.store 1), [.t 26, .t 18], none⟩,
  ⟨(some 27), (.fld 6), [.t 7], none⟩,
  ⟨none, (.store 1), [.t 27, .t 20], none⟩,
  ⟨(some 28), (.fld 10), [.t 7], none⟩,
  ⟨none, (.store 1), [.t 28, .t 22], none⟩] [0, 1, 0, 4, 0, 16, 0, 64, 0, 256, 0, 1024, 3, 4099, 12303, 28687, 61503, 127039, 258303, 520447, 1045503, 2094079, 4194303, 8388607])
 (.seq (.reg [⟨(some 29), (.fld 5), [.t 5], none⟩,
  ⟨(some 30), (.load 1 false), [.t 29], none⟩,
  ⟨(some 31), (.app 2 24), [.c (.sl tEntry [] true), .t 30], none⟩,
  ⟨(some 32), (.fld 7), [.t 7], none⟩,
  ⟨none, (.store 1), [.t 32, .t 31], none⟩])
 (.seq (.reg [⟨(some 33), (.load 15 true), [.t 7], none⟩,
  ⟨none, (.store 15), [.t 6, .t 33], none⟩])
 .ret)))))
theorem comp63 : compC Go.Proofs.Try.prog ttL 34 [] (match Go.Proofs.Try.f63.body with | some b => b | none => .skip) = some (c63) := by kernel_rfl
def c102 : C := (.seq (.reg [⟨(some 4), .mv, [.c (.bool false)], none⟩])
 (.seq (.seq (.reg [⟨(some 6), .mv, [.t 0], none⟩,
  ⟨(some 7), .len, [.t 6], none⟩,
  ⟨(some 8), .mv, [.t 1], none⟩,
  ⟨(some 9), .len, [.t 8], none⟩,
  ⟨(some 10), (.bin .neq), [.t 7, .t 9], none⟩])
 (.cond (.t 10) (.seq (.reg [⟨(some 4), .mv, [.c (.bool false)], none⟩])
 .ret) .skip))
 (.seq (.seq (.reg [⟨(some 11), .mv, [.t 0], none⟩,
  ⟨(some 12), .len, [.t 11], none⟩,
  ⟨(some 13), .mv, [.c (.int .i64 0)], none⟩])
 (.block 0 (.loop (.seq (.reg [⟨(some 14), (.bin .lss), [.t 13, .t 12], none⟩])
 (.seq (.cond (.t 14) .skip (.exit 0))
 (.seq (.block 1 (.seq (.reg [⟨(some 15), .mv, [.t 13], none⟩,
  ⟨(some 5), .mv, [.t 15], none⟩])
 (.seq (.regd [⟨(some 16), .mv, [.t 0], none⟩,
  ⟨(some 17), .mv, [.t 5], none⟩,
  ⟨(some 18), (.idx 2), [.t 16, .t 17], none⟩,
  ⟨(some 19), (.load 2 true), [.t 18], none⟩,
  ⟨(some 20), .mv, [.t 1], none⟩,
  ⟨(some 21), .mv, [.t 5], none⟩,
  ⟨(some 22), (.idx 2), [.t 20, .t 21], none⟩,
  ⟨(some 23), (.load 2 true), [.t 22], none⟩,
  ⟨(some 24), (.bina .neq [.i, .s]), [.t 19, .t 23], none⟩] [0, 0, 3, 4, 0, 0, 48, 64, 136])
 (.cond (.t 24) (.seq (.reg [⟨(some 4), .mv, [.c (.bool false)], none⟩])
 .ret) .skip))))
 (.reg [⟨(some 25), (.bin .add), [.t 13, .c (.int .i64 1)], none⟩,
  ⟨(some 13), .mv, [.t 25], none⟩])))))))
 (.seq (.reg [⟨(some 4), .mv, [.c (.bool true)], none⟩])
 .ret))))
theorem comp102 : compC Go.Proofs.Try.prog ttL 26 [] (match Go.Proofs.Try.f102.body with | some b => b | none => .skip) = some (c102) := by kernel_rfl
def c103 : C := (.seq (.reg [⟨(some 4), .mv, [.c (.bool false)], none⟩])
 (.seq (.seq (.reg [⟨(some 6), .mv, [.t 0], none⟩,
  ⟨(some 7), .len, [.t 6], none⟩,
  ⟨(some 8), .mv, [.t 1], none⟩,
  ⟨(some 9), .len, [.t 8], none⟩,
  ⟨(some 10), (.bin .neq), [.t 7, .t 9], none⟩])
 (.cond (.t 10) (.seq (.reg [⟨(some 4), .mv, [.c (.bool false)], none⟩])
 .ret) .skip))
 (.seq (.seq (.reg [⟨(some 11), .mv, [.t 0], none⟩,
  ⟨(some 12), .len, [.t 11], none⟩,
  ⟨(some 13), .mv, [.c (.int .i64 0)], none⟩])
 (.block 0 (.loop (.seq (.reg [⟨(some 14), (.bin .lss), [.t 13, .t 12], none⟩])
 (.seq (.cond (.t 14) .skip (.exit 0))
 (.seq (.block 1 (.seq (.reg [⟨(some 15), .mv, [.t 13], none⟩,
  ⟨(some 5), .mv, [.t 15], none⟩])
 (.seq (.regd [⟨(some 16), .mv, [.t 0], none⟩,
  ⟨(some 17), .mv, [.t 5], none⟩,
  ⟨(some 18), (.idx 1), [.t 16, .t 17], none⟩,
  ⟨(some 19), (.load 1 false), [.t 18], none⟩,
  ⟨(some 20), .mv, [.t 1], none⟩,
  ⟨(some 21), .mv, [.t 5], none⟩,
  ⟨(some 22), (.idx 1), [.t 20, .t 21], none⟩,
  ⟨(some 23), (.load 1 false), [.t 22], none⟩,
  ⟨(some 24), (.binb .neq), [.t 19, .t 23], none⟩] [0, 0, 3, 4, 0, 0, 48, 64, 136])
 (.cond (.t 24) (.seq (.reg [⟨(some 4), .mv, [.c (.bool false)], none⟩])
 .ret) .skip))))
 (.reg [⟨(some 25), (.bin .add), [.t 13, .c (.int .i64 1)], none⟩,
  ⟨(some 13), .mv, [.t 25], none⟩])))))))
 (.seq (.reg [⟨(some 4), .mv, [.c (.bool true)], none⟩])
 .ret))))
theorem comp103 : compC Go.Proofs.Try.prog ttL 26 [] (match Go.Proofs.Try.f103.body with | some b => b | none => .skip) = some (c103) := by kernel_rfl
def c104 : C := (.seq (.reg [⟨(some 4), .mv, [.c (.bool false)], none⟩])
 (.seq (.seq (.reg [⟨(some 6), .mv, [.t 0], none⟩,
  ⟨(some 7), .len, [.t 6], none⟩,
  ⟨(some 8), .mv, [.t 1], none⟩,
  ⟨(some 9), .len, [.t 8], none⟩,
  ⟨(some 10), (.bin .neq), [.t 7, .t 9], none⟩])
 (.cond (.t 10) (.seq (.reg [⟨(some 4), .mv, [.c (.bool false)], none⟩])
 .ret) .skip))
 (.seq (.seq (.reg [⟨(some 11), .mv, [.t 0], none⟩,
  ⟨(some 12), .len, [.t 11], none⟩,
  ⟨(some 13), .mv, [.c (.int .i64 0)], none⟩])
 (.block 0 (.loop (.seq (.reg [⟨(some 14), (.bin .lss), [.t 13, .t 12], none⟩])
 (.seq (.cond (.t 14) .skip (.exit 0))
 (.seq (.block 1 (.seq (.reg [⟨(some 15), .mv, [.t 13], none⟩,
  ⟨(some 5), .mv, [.t 15], none⟩])
 (.seq (.regd [⟨(some 16), .mv, [.t 0], none⟩,
  ⟨(some 17), .mv, [.t 5], none⟩,
  ⟨(some 18), (.idx 1), [.t 16, .t 17], none⟩,
  ⟨(some 19), (.load 1 false), [.t 18], none⟩,
  ⟨(some 20), .mv, [.t 1], none⟩,
  ⟨(some 21), .mv, [.t 5], none⟩,
  ⟨(some 22), (.idx 1), [.t 20, .t 21], none⟩,
  ⟨(some 23), (.load 1 false), [.t 22], none⟩,
  ⟨(some 24), (.bin .neq), [.t 19, .t 23], none⟩] [0, 0, 3, 4, 0, 0, 48, 64, 136])
 (.cond (.t 24) (.seq (.reg [⟨(some 4), .mv, [.c (.bool false)], none⟩])
 .ret) .skip))))
 (.reg [⟨(some 25), (.bin .add), [.t 13, .c (.int .i64 1)], none⟩,
  ⟨(some 13), .mv, [.t 25], none⟩])))))))
 (.seq (.reg [⟨(some 4), .mv, [.c (.bool true)], none⟩])
 .ret))))
theorem comp104 : compC Go.Proofs.Try.prog ttL 26 [] (match Go.Proofs.Try.f104.body with | some b => b | none => .skip) = some (c104) := by kernel_rfl
def c105 : C := (.seq (.reg [⟨(some 2), .mv, [.c (.sl tEntry [] true)], none⟩])
 (.seq (.seq (.reg [⟨(some 3), .mv, [.t 0], none⟩,
  ⟨(some 4), .isnil, [.t 3], none⟩])
 (.cond (.t 4) (.seq (.reg [⟨(some 2), .mv, [.c (.sl tEntry [] true)], none⟩])
 .ret) .skip))
 (.seq (.reg [⟨(some 5), (.bslice tEntry 0), [], none⟩,
  ⟨(some 6), .mv, [.t 0], none⟩,
  ⟨(some 7), (.app 2 24), [.t 5, .t 6], none⟩,
  ⟨(some 2), .mv, [.t 7], none⟩])
 .ret)))
theorem comp105 : compC Go.Proofs.Try.prog ttL 8 [] (match Go.Proofs.Try.f105.body with | some b => b | none => .skip) = some (c105) := by kernel_rfl
end Go.AM
