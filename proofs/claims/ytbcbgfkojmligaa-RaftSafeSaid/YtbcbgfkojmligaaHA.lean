import Derived.Test.YtbcbgfkojmligaaAL
import Derived.KernelRfl
import Derived.Test.YtbcbgfkojmligaaProg
/- What functions of the program answer, each under the conditions that its contract names. -/
set_option linter.unusedVariables false
set_option linter.unusedSimpArgs false
set_option maxRecDepth 100000
namespace Go.AM
def c23 : C := (.seq (.reg [⟨(some 4), .mv, [.c (.int .i64 0)], none⟩])
 (.seq (.reg [⟨(some 6), .mv, [.t 0], none⟩,
  ⟨(some 7), .mv, [.t 1], none⟩,
  ⟨(some 8), (.bin .rem), [.t 6, .t 7], none⟩,
  ⟨(some 5), .mv, [.t 8], none⟩])
 (.seq (.seq (.reg [⟨(some 9), .mv, [.t 5], none⟩,
  ⟨(some 10), (.bin .lss), [.t 9, .c (.int .i64 0)], none⟩])
 (.cond (.t 10) (.reg [⟨(some 11), .mv, [.t 5], none⟩,
  ⟨(some 12), .mv, [.t 1], none⟩,
  ⟨(some 13), (.bin .add), [.t 11, .t 12], none⟩,
  ⟨(some 5), .mv, [.t 13], none⟩]) .skip))
 (.seq (.reg [⟨(some 14), .mv, [.t 5], none⟩,
  ⟨(some 4), .mv, [.t 14], none⟩])
 .ret))))
theorem comp23 : compC Go.Proofs.Try.prog ttL 15 [] (match Go.Proofs.Try.f23.body with | some b => b | none => .skip) = some (c23) := by kernel_rfl
def c25 : C := (.seq (.reg [⟨(some 2), .box, [.t 0], none⟩,
  ⟨(some 3), .box, [.t 1], none⟩,
  ⟨(some 4), (.alloc [.int .i64 0, .int .i64 0, .int .i64 0, .int .i64 0, .int .i64 0, .int .i64 0, .str ⟨#[]⟩, .sl tEntry [] true, .int .i64 0, .int .i64 0, .int .i64 0, .sl .bool [] true, .sl tI [] true, .sl tI [] true, .int .i64 0]), [], none⟩,
  ⟨(some 5), .mv, [.c (.sl tMsg [] true)], none⟩])
 (.seq (.reg [⟨(some 11), (.load 15 true), [.t 2], none⟩,
  ⟨(some 12), (.fld 3), [.t 3], none⟩,
  ⟨(some 13), (.load 1 false), [.t 12], none⟩,
  ⟨(some 14), (.call 32), [.t 11, .t 13], none⟩,
  ⟨none, (.store 15), [.t 2, .t 14], none⟩])
 (.seq (.reg [⟨(some 15), (.load 15 true), [.t 2], none⟩,
  ⟨(some 16), (.call 52), [.t 15], none⟩,
  ⟨(some 6), .mv, [.t 16], none⟩])
 (.seq (.reg [⟨(some 18), (.load 15 true), [.t 2], none⟩,
  ⟨(some 19), .mv, [.t 6], none⟩,
  ⟨(some 20), (.call 48), [.t 18, .t 19], none⟩,
  ⟨(some 17), .mv, [.t 20], none⟩,
  ⟨(some 21), (.ext 0), [.t 17], none⟩,
  ⟨(some 22), (.ext 1), [.t 17], none⟩,
  ⟨(some 7), .mv, [.t 21], none⟩,
  ⟨(some 8), .mv, [.t 22], none⟩])
 (.seq (.reg [⟨(some 23), (.fld 5), [.t 3], none⟩,
  ⟨(some 24), (.load 1 false), [.t 23], none⟩,
  ⟨(some 25), .mv, [.t 7], none⟩,
  ⟨(some 26), (.bin .gtr), [.t 24, .t 25], none⟩,
  ⟨(some 27), .mv, [.t 26], none⟩,
  ⟨(some 28), (.fld 5), [.t 3], (some (27, false))⟩,
  ⟨(some 29), (.load 1 false), [.t 28], (some (27, false))⟩,
  ⟨(some 30), .mv, [.t 7], (some (27, false))⟩,
  ⟨(some 31), (.bin .eql), [.t 29, .t 30], (some (27, false))⟩,
  ⟨(some 32), .mv, [.t 31], (some (27, false))⟩,
  ⟨(some 33), (.fld 4), [.t 3], (some (32, true))⟩,
  ⟨(some 34), (.load 1 false), [.t 33], (some (32, true))⟩,
  ⟨(some 35), .mv, [.t 6], (some (32, true))⟩,
  ⟨(some 36), (.bin .geq), [.t 34, .t 35], (some (32, true))⟩,
  ⟨(some 37), .pick, [.t 32, .t 36, .c (.bool false)], (some (27, false))⟩,
  ⟨(some 38), .pick, [.t 27, .c (.bool true), .t 37], none⟩,
  ⟨(some 9), .mv, [.t 38], none⟩])
 (.seq (.reg [⟨(some 39), (.fld 3), [.t 3], none⟩,
  ⟨(some 40), (.load 1 false), [.t 39], none⟩,
  ⟨(some 41), (.fld 2), [.t 2], none⟩,
  ⟨(some 42), (.load 1 false), [.t 41], none⟩,
  ⟨(some 43), (.bin .eql), [.t 40, .t 42], none⟩,
  ⟨(some 44), .mv, [.t 43], none⟩,
  ⟨(some 45), (.fld 3), [.t 2], (some (44, true))⟩,
  ⟨(some 46), (.load 1 false), [.t 45], (some (44, true))⟩,
  ⟨(some 47), (.bin .eql), [.t 46, .c (.int .i64 (-1))], (some (44, true))⟩,
  ⟨(some 48), .mv, [.t 47], (some (44, true))⟩,
  ⟨(some 49), (.fld 3), [.t 2], (some (48, false))⟩,
  ⟨(some 50), (.load 1 false), [.t 49], (some (48, false))⟩,
  ⟨(some 51), (.fld 1), [.t 3], (some (48, false))⟩,
  ⟨(some 52), (.load 1 false), [.t 51], (some (48, false))⟩,
  ⟨(some 53), (.bin .eql), [.t 50, .t 52], (some (48, false))⟩,
  ⟨(some 54), .pick, [.t 48, .c (.bool true), .t 53], (some (44, true))⟩,
  ⟨(some 55), .pick, [.t 44, .t 54, .c (.bool false)], none⟩,
  ⟨(some 56), .mv, [.t 55], none⟩,
  ⟨(some 57), .mv, [.t 9], (some (56, true))⟩,
  ⟨(some 58), .pick, [.t 56, .t 57, .c (.bool false)], none⟩,
  ⟨(some 10), .mv, [.t 58], none⟩])
 (.seq (.seq (.reg [⟨(some 59), .mv, [.t 10], none⟩])
 (.cond (.t 59) (.reg [⟨(some 60), (.fld 1), [.t 3], none⟩,
  ⟨(some 61), (.load 1 false), [.t 60], none⟩,
  ⟨(some 62), (.fld 3), [.t 2], none⟩,
  ⟨none, (.store 1), [.t 62, .t 61], none⟩,
  ⟨(some 63), (.fld 14), [.t 2], none⟩,
  ⟨none, (.store 1), [.t 63, .c (.int .i64 0)], none⟩]) .skip))
 (.seq (.regd [⟨(some 64), (.load 15 true), [.t 2], none⟩,
  ⟨(some 65), (.fld 0), [.t 2], none⟩,
  ⟨(some 66), (.load 1 false), [.t 65], none⟩,
  ⟨(some 67), (.fld 1), [.t 3], none⟩,
  ⟨(some 68), (.load 1 false), [.t 67], none⟩,
  ⟨(some 69), (.fld 2), [.t 2], none⟩,
  ⟨(some 70), (.load 1 false), [.t 69], none⟩,
  ⟨(some 71), .mv, [.t 10], none⟩,
  ⟨(some 72), (.build [.int .i64 0, .int .i64 0, .int .i64 0, .int .i64 0, .int .i64 0, .int .i64 0, .bool false, .int .i64 0, .sl tEntry [] true, .str ⟨#[]⟩] [(0, 1), (1, 1), (2, 1), (3, 1), (6, 1)]), [.c (.int .i64 2), .t 66, .t 68, .t 70, .t 71], none⟩,
  ⟨(some 73), (.bslice tMsg 1), [.t 72], none⟩,
  ⟨none, (.store 15), [.t 4, .t 64], none⟩,
  ⟨(some 5), .mv, [.t 73], none⟩] [0, 0, 2, 0, 8, 0, 32, 0, 212, 256, 1, 2047])
 .ret))))))))
theorem comp25 : compC Go.Proofs.Try.prog ttL 74 [] (match Go.Proofs.Try.f25.body with | some b => b | none => .skip) = some (c25) := by kernel_rfl
def c27 : C := (.seq (.reg [⟨(some 1), .box, [.t 0], none⟩,
  ⟨(some 2), (.alloc [.int .i64 0, .int .i64 0, .int .i64 0, .int .i64 0, .int .i64 0, .int .i64 0, .str ⟨#[]⟩, .sl tEntry [] true, .int .i64 0, .int .i64 0, .int .i64 0, .sl .bool [] true, .sl tI [] true, .sl tI [] true, .int .i64 0]), [], none⟩,
  ⟨(some 3), .mv, [.c (.sl tMsg [] true)], none⟩])
 (.seq (.reg [⟨(some 9), (.fld 2), [.t 1], none⟩,
  ⟨(some 10), (.load 1 false), [.t 9], none⟩,
  ⟨(some 11), (.bin .add), [.t 10, .c (.int .i64 1)], none⟩,
  ⟨(some 12), (.fld 2), [.t 1], none⟩,
  ⟨none, (.store 1), [.t 12, .t 11], none⟩])
 (.seq (.reg [⟨(some 13), (.fld 0), [.t 1], none⟩,
  ⟨(some 14), (.load 1 false), [.t 13], none⟩,
  ⟨(some 15), (.fld 8), [.t 1], none⟩,
  ⟨none, (.store 1), [.t 15, .c (.int .i64 1)], none⟩,
  ⟨(some 16), (.fld 9), [.t 1], none⟩,
  ⟨none, (.store 1), [.t 16, .c (.int .i64 (-1))], none⟩,
  ⟨(some 17), (.fld 14), [.t 1], none⟩,
  ⟨none, (.store 1), [.t 17, .c (.int .i64 0)], none⟩,
  ⟨(some 18), (.fld 3), [.t 1], none⟩,
  ⟨none, (.store 1), [.t 18, .t 14], none⟩])
 (.seq (.reg [⟨(some 19), (.load 15 true), [.t 1], none⟩,
  ⟨(some 20), (.call 91), [.t 19], none⟩,
  ⟨none, (.store 15), [.t 1, .t 20], none⟩])
 (.seq (.reg [⟨(some 21), (.load 15 true), [.t 1], none⟩,
  ⟨(some 22), (.call 52), [.t 21], none⟩,
  ⟨(some 4), .mv, [.t 22], none⟩])
 (.seq (.reg [⟨(some 24), (.load 15 true), [.t 1], none⟩,
  ⟨(some 25), .mv, [.t 4], none⟩,
  ⟨(some 26), (.call 48), [.t 24, .t 25], none⟩,
  ⟨(some 23), .mv, [.t 26], none⟩,
  ⟨(some 27), (.ext 0), [.t 23], none⟩,
  ⟨(some 28), (.ext 1), [.t 23], none⟩,
  ⟨(some 5), .mv, [.t 27], none⟩,
  ⟨(some 6), .mv, [.t 28], none⟩])
 (.seq (.reg [⟨(some 7), .mv, [.c (.sl tMsg [] true)], none⟩])
 (.seq (.seq (.reg [⟨(some 29), (.fld 11), [.t 1], none⟩,
  ⟨(some 30), (.load 1 false), [.t 29], none⟩,
  ⟨(some 31), .len, [.t 30], none⟩,
  ⟨(some 32), .mv, [.c (.int .i64 0)], none⟩])
 (.block 0 (.loop (.seq (.reg [⟨(some 33), (.bin .lss), [.t 32, .t 31], none⟩])
 (.seq (.cond (.t 33) .skip (.exit 0))
 (.seq (.block 1 (.seq (.reg [⟨(some 34), .mv, [.t 32], none⟩,
  ⟨(some 8), .mv, [.t 34], none⟩])
 (.seq (.reg [⟨(some 35), .mv, [.t 8], none⟩,
  ⟨(some 36), (.fld 0), [.t 1], none⟩,
  ⟨(some 37), (.load 1 false), [.t 36], none⟩,
  ⟨(some 38), (.bin .neq), [.t 35, .t 37], none⟩])
 (.cond (.t 38) (.reg [⟨(some 39), .mv, [.t 7], none⟩,
  ⟨(some 40), (.fld 0), [.t 1], none⟩,
  ⟨(some 41), (.load 1 false), [.t 40], none⟩,
  ⟨(some 42), .mv, [.t 8], none⟩,
  ⟨(some 43), (.fld 2), [.t 1], none⟩,
  ⟨(some 44), (.load 1 false), [.t 43], none⟩,
  ⟨(some 45), .mv, [.t 4], none⟩,
  ⟨(some 46), .mv, [.t 5], none⟩,
  ⟨(some 47), (.build [.int .i64 0, .int .i64 0, .int .i64 0, .int .i64 0, .int .i64 0, .int .i64 0, .bool false, .int .i64 0, .sl tEntry [] true, .str ⟨#[]⟩] [(0, 1), (1, 1), (2, 1), (3, 1), (4, 1), (5, 1)]), [.c (.int .i64 1), .t 41, .t 42, .t 44, .t 45, .t 46], none⟩,
  ⟨(some 48), (.bslice tMsg 1), [.t 47], none⟩,
  ⟨(some 49), (.app 10 104), [.t 39, .t 48], none⟩,
  ⟨(some 7), .mv, [.t 49], none⟩]) .skip))))
 (.reg [⟨(some 50), (.bin .add), [.t 32, .c (.int .i64 1)], none⟩,
  ⟨(some 32), .mv, [.t 50], none⟩])))))))
 (.seq (.reg [⟨(some 51), (.load 15 true), [.t 1], none⟩,
  ⟨(some 52), .mv, [.t 7], none⟩,
  ⟨none, (.store 15), [.t 2, .t 51], none⟩,
  ⟨(some 3), .mv, [.t 52], none⟩])
 .ret)))))))))
theorem comp27 : compC Go.Proofs.Try.prog ttL 53 [] (match Go.Proofs.Try.f27.body with | some b => b | none => .skip) = some (c27) := by kernel_rfl
def c31 : C := (.seq (.reg [⟨(some 4), (.alloc [.int .i64 0, .int .i64 0, .int .i64 0, .int .i64 0, .int .i64 0, .int .i64 0, .str ⟨#[]⟩, .sl tEntry [] true, .int .i64 0, .int .i64 0, .int .i64 0, .sl .bool [] true, .sl tI [] true, .sl tI [] true, .int .i64 0]), [], none⟩])
 (.seq (.reg [⟨(some 8), .mv, [.t 1], none⟩,
  ⟨(some 9), .mx, [.t 8, .c (.int .i64 1)], none⟩,
  ⟨(some 10), .mn, [.t 9, .c (.int .i64 5)], none⟩,
  ⟨(some 5), .mv, [.t 10], none⟩])
 (.seq (.regd [⟨(some 11), .mv, [.t 0], none⟩,
  ⟨(some 12), .mx, [.t 11, .c (.int .i64 0)], none⟩,
  ⟨(some 13), .mv, [.t 5], none⟩,
  ⟨(some 14), (.bin .sub), [.t 13, .c (.int .i64 1)], none⟩,
  ⟨(some 15), .mn, [.t 12, .t 14], none⟩,
  ⟨(some 16), .mv, [.t 5], none⟩,
  ⟨(some 17), .mv, [.t 5], none⟩,
  ⟨(some 18), (.mks .bool 1), [.t 17, .t 17], none⟩,
  ⟨(some 19), .mv, [.t 5], none⟩,
  ⟨(some 20), (.mks tI 8), [.t 19, .t 19], none⟩,
  ⟨(some 21), .mv, [.t 5], none⟩,
  ⟨(some 22), (.mks tI 8), [.t 21, .t 21], none⟩,
  ⟨(some 23), (.build [.int .i64 0, .int .i64 0, .int .i64 0, .int .i64 0, .int .i64 0, .int .i64 0, .str ⟨#[]⟩, .sl tEntry [] true, .int .i64 0, .int .i64 0, .int .i64 0, .sl .bool [] true, .sl tI [] true, .sl tI [] true, .int .i64 0] [(0, 1), (1, 1), (3, 1), (9, 1), (11, 1), (12, 1), (13, 1)]), [.t 15, .t 16, .c (.int .i64 (-1)), .c (.int .i64 (-1)), .t 18, .t 20, .t 22], none⟩,
  ⟨(some 6), (.alloc [.int .i64 0, .int .i64 0, .int .i64 0, .int .i64 0, .int .i64 0, .int .i64 0, .str ⟨#[]⟩, .sl tEntry [] true, .int .i64 0, .int .i64 0, .int .i64 0, .sl .bool [] true, .sl tI [] true, .sl tI [] true, .int .i64 0]), [], none⟩,
  ⟨none, (.store 15), [.t 6, .t 23], none⟩] [0, 1, 0, 4, 10, 0, 0, 64, 0, 256, 0, 1024, 2736, 0, 16383])
 (.seq (.seq (.reg [⟨(some 7), .mv, [.c (.int .i64 0)], none⟩])
 (.block 0 (.loop (.seq (.seq (.reg [⟨(some 24), .mv, [.t 7], none⟩,
  ⟨(some 25), .mv, [.t 5], none⟩,
  ⟨(some 26), (.bin .lss), [.t 24, .t 25], none⟩])
 (.cond (.t 26) .skip (.exit 0)))
 (.seq (.block 1 (.reg [⟨(some 29), (.fld 12), [.t 6], none⟩,
  ⟨(some 30), (.load 1 false), [.t 29], none⟩,
  ⟨(some 31), .mv, [.t 7], none⟩,
  ⟨(some 32), (.idx 1), [.t 30, .t 31], none⟩,
  ⟨none, (.store 1), [.t 32, .c (.int .i64 1)], none⟩]))
 (.reg [⟨(some 27), .mv, [.t 7], none⟩,
  ⟨(some 28), (.bin .add), [.t 27, .c (.int .i64 1)], none⟩,
  ⟨(some 7), .mv, [.t 28], none⟩]))))))
 (.seq (.reg [⟨(some 33), (.load 15 true), [.t 6], none⟩,
  ⟨none, (.store 15), [.t 4, .t 33], none⟩])
 .ret)))))
theorem comp31 : compC Go.Proofs.Try.prog ttL 34 [] (match Go.Proofs.Try.f31.body with | some b => b | none => .skip) = some (c31) := by kernel_rfl
def c32 : C := (.seq (.reg [⟨(some 2), .box, [.t 0], none⟩,
  ⟨(some 4), (.alloc [.int .i64 0, .int .i64 0, .int .i64 0, .int .i64 0, .int .i64 0, .int .i64 0, .str ⟨#[]⟩, .sl tEntry [] true, .int .i64 0, .int .i64 0, .int .i64 0, .sl .bool [] true, .sl tI [] true, .sl tI [] true, .int .i64 0]), [], none⟩])
 (.seq (.seq (.reg [⟨(some 5), .mv, [.t 1], none⟩,
  ⟨(some 6), (.fld 2), [.t 2], none⟩,
  ⟨(some 7), (.load 1 false), [.t 6], none⟩,
  ⟨(some 8), (.bin .gtr), [.t 5, .t 7], none⟩])
 (.cond (.t 8) (.reg [⟨(some 9), .mv, [.t 1], none⟩,
  ⟨(some 10), (.load 15 true), [.t 2], none⟩,
  ⟨(some 11), (.call 92), [.t 10], none⟩,
  ⟨(some 12), (.fld 2), [.t 2], none⟩,
  ⟨none, (.store 1), [.t 12, .t 9], none⟩,
  ⟨(some 13), (.fld 3), [.t 2], none⟩,
  ⟨none, (.store 1), [.t 13, .c (.int .i64 (-1))], none⟩,
  ⟨(some 14), (.fld 9), [.t 2], none⟩,
  ⟨none, (.store 1), [.t 14, .c (.int .i64 (-1))], none⟩,
  ⟨(some 15), (.fld 8), [.t 2], none⟩,
  ⟨none, (.store 1), [.t 15, .c (.int .i64 0)], none⟩,
  ⟨(some 16), (.fld 11), [.t 2], none⟩,
  ⟨none, (.store 1), [.t 16, .t 11], none⟩]) .skip))
 (.seq (.reg [⟨(some 17), (.load 15 true), [.t 2], none⟩,
  ⟨none, (.store 15), [.t 4, .t 17], none⟩])
 .ret)))
theorem comp32 : compC Go.Proofs.Try.prog ttL 18 [] (match Go.Proofs.Try.f32.body with | some b => b | none => .skip) = some (c32) := by kernel_rfl
def c44 : C := (.seq (.reg [⟨(some 1), .box, [.t 0], none⟩,
  ⟨(some 2), .mv, [.c (.int .i64 0)], none⟩])
 (.seq (.reg [⟨(some 3), (.fld 1), [.t 1], none⟩,
  ⟨(some 4), (.load 1 false), [.t 3], none⟩,
  ⟨(some 5), (.bin .quo), [.t 4, .c (.int .i64 2)], none⟩,
  ⟨(some 6), (.bin .add), [.t 5, .c (.int .i64 1)], none⟩,
  ⟨(some 2), .mv, [.t 6], none⟩])
 .ret))
theorem comp44 : compC Go.Proofs.Try.prog ttL 7 [] (match Go.Proofs.Try.f44.body with | some b => b | none => .skip) = some (c44) := by kernel_rfl
def c48 : C := (.seq (.reg [⟨(some 2), .box, [.t 0], none⟩,
  ⟨(some 4), .mv, [.c (.int .i64 0)], none⟩,
  ⟨(some 5), .mv, [.c (.bool false)], none⟩])
 (.seq (.block 0 (.seq (.reg [⟨(some 7), .mv, [.t 1], none⟩,
  ⟨(some 8), (.fld 4), [.t 2], none⟩,
  ⟨(some 9), (.load 1 false), [.t 8], none⟩,
  ⟨(some 10), (.bin .eql), [.t 7, .t 9], none⟩,
  ⟨(some 6), .mv, [.t 10], none⟩])
 (.cond (.t 6) (.seq (.reg [⟨(some 11), (.fld 5), [.t 2], none⟩,
  ⟨(some 12), (.load 1 false), [.t 11], none⟩,
  ⟨(some 4), .mv, [.t 12], none⟩,
  ⟨(some 5), .mv, [.c (.bool true)], none⟩])
 .ret) (.seq (.reg [⟨(some 14), .mv, [.t 1], none⟩,
  ⟨(some 15), (.fld 4), [.t 2], none⟩,
  ⟨(some 16), (.load 1 false), [.t 15], none⟩,
  ⟨(some 17), (.bin .lss), [.t 14, .t 16], none⟩,
  ⟨(some 18), .mv, [.t 17], none⟩,
  ⟨(some 19), .mv, [.t 1], (some (18, false))⟩,
  ⟨(some 20), (.load 15 true), [.t 2], (some (18, false))⟩,
  ⟨(some 21), (.call 52), [.t 20], (some (18, false))⟩,
  ⟨(some 22), (.bin .gtr), [.t 19, .t 21], (some (18, false))⟩,
  ⟨(some 23), .pick, [.t 18, .c (.bool true), .t 22], none⟩,
  ⟨(some 24), .mv, [.t 23], none⟩,
  ⟨(some 25), .mv, [.t 1], (some (24, false))⟩,
  ⟨(some 26), (.fld 4), [.t 2], (some (24, false))⟩,
  ⟨(some 27), (.load 1 false), [.t 26], (some (24, false))⟩,
  ⟨(some 28), (.bin .sub), [.t 25, .t 27], (some (24, false))⟩,
  ⟨(some 29), (.fld 7), [.t 2], (some (24, false))⟩,
  ⟨(some 30), (.load 1 false), [.t 29], (some (24, false))⟩,
  ⟨(some 31), .len, [.t 30], (some (24, false))⟩,
  ⟨(some 32), (.bin .gtr), [.t 28, .t 31], (some (24, false))⟩,
  ⟨(some 33), .pick, [.t 24, .c (.bool true), .t 32], none⟩,
  ⟨(some 34), .mv, [.t 33], none⟩,
  ⟨(some 35), .mv, [.t 1], (some (34, false))⟩,
  ⟨(some 36), (.fld 4), [.t 2], (some (34, false))⟩,
  ⟨(some 37), (.load 1 false), [.t 36], (some (34, false))⟩,
  ⟨(some 38), (.bin .sub), [.t 35, .t 37], (some (34, false))⟩,
  ⟨(some 39), (.bin .lss), [.t 38, .c (.int .i64 1)], (some (34, false))⟩,
  ⟨(some 40), .pick, [.t 34, .c (.bool true), .t 39], none⟩,
  ⟨(some 13), .mv, [.t 40], none⟩])
 (.cond (.t 13) (.seq (.reg [⟨(some 4), .mv, [.c (.int .i64 0)], none⟩,
  ⟨(some 5), .mv, [.c (.bool false)], none⟩])
 .ret) .skip)))))
 (.seq (.reg [⟨(some 41), (.fld 7), [.t 2], none⟩,
  ⟨(some 42), (.load 1 false), [.t 41], none⟩,
  ⟨(some 43), .mv, [.t 1], none⟩,
  ⟨(some 44), (.fld 4), [.t 2], none⟩,
  ⟨(some 45), (.load 1 false), [.t 44], none⟩,
  ⟨(some 46), (.bin .sub), [.t 43, .t 45], none⟩,
  ⟨(some 47), (.bin .sub), [.t 46, .c (.int .i64 1)], none⟩,
  ⟨(some 48), (.idx 2), [.t 42, .t 47], none⟩,
  ⟨(some 49), (.fld 0), [.t 48], none⟩,
  ⟨(some 50), (.load 1 false), [.t 49], none⟩,
  ⟨(some 4), .mv, [.t 50], none⟩,
  ⟨(some 5), .mv, [.c (.bool true)], none⟩])
 .ret)))
theorem comp48 : compC Go.Proofs.Try.prog ttL 51 [] (match Go.Proofs.Try.f48.body with | some b => b | none => .skip) = some (c48) := by kernel_rfl
def c50 : C := (.seq (.reg [⟨(some 2), .mv, [.c (.str ⟨#[]⟩)], none⟩])
 (.seq (.block 0 (.seq (.reg [⟨(some 5), .mv, [.t 0], none⟩,
  ⟨(some 6), (.bin .leq), [.t 5, .c (.int .i64 (-10))], none⟩,
  ⟨(some 4), .mv, [.t 6], none⟩])
 (.cond (.t 4) (.seq (.reg [⟨(some 7), .mv, [.t 0], none⟩,
  ⟨(some 8), (.bin .rem), [.t 7, .c (.int .i64 10)], none⟩,
  ⟨(some 9), .neg, [.t 8], none⟩,
  ⟨(some 3), .mv, [.t 9], none⟩])
 (.seq (.regd [⟨(some 10), .mv, [.t 0], none⟩,
  ⟨(some 11), (.bin .quo), [.t 10, .c (.int .i64 10)], none⟩,
  ⟨(some 12), (.call 50), [.t 11], none⟩,
  ⟨(some 13), .mv, [.t 3], none⟩,
  ⟨(some 14), .mv, [.t 3], none⟩,
  ⟨(some 15), (.bin .add), [.t 14, .c (.int .i64 1)], none⟩,
  ⟨(some 16), (.slcs true true), [.c (.str ⟨#[48, 49, 50, 51, 52, 53, 54, 55, 56, 57]⟩), .t 13, .t 15], none⟩,
  ⟨(some 17), (.bin .add), [.t 12, .t 16], none⟩,
  ⟨(some 2), .mv, [.t 17], none⟩] [0, 1, 2, 0, 0, 16, 40, 68, 255])
 .ret)) (.seq (.reg [⟨(some 19), .mv, [.t 0], none⟩,
  ⟨(some 20), (.bin .lss), [.t 19, .c (.int .i64 0)], none⟩,
  ⟨(some 18), .mv, [.t 20], none⟩])
 (.cond (.t 18) (.seq (.reg [⟨(some 21), .mv, [.t 0], none⟩,
  ⟨(some 22), .neg, [.t 21], none⟩,
  ⟨(some 23), .mv, [.t 0], none⟩,
  ⟨(some 24), .neg, [.t 23], none⟩,
  ⟨(some 25), (.bin .add), [.t 24, .c (.int .i64 1)], none⟩,
  ⟨(some 26), (.slcs true true), [.c (.str ⟨#[48, 49, 50, 51, 52, 53, 54, 55, 56, 57]⟩), .t 22, .t 25], none⟩,
  ⟨(some 27), (.bin .add), [.c (.str ⟨#[45]⟩), .t 26], none⟩,
  ⟨(some 2), .mv, [.t 27], none⟩])
 .ret) (.seq (.reg [⟨(some 29), .mv, [.t 0], none⟩,
  ⟨(some 30), (.bin .lss), [.t 29, .c (.int .i64 10)], none⟩,
  ⟨(some 28), .mv, [.t 30], none⟩])
 (.cond (.t 28) (.seq (.reg [⟨(some 31), .mv, [.t 0], none⟩,
  ⟨(some 32), .mv, [.t 0], none⟩,
  ⟨(some 33), (.bin .add), [.t 32, .c (.int .i64 1)], none⟩,
  ⟨(some 34), (.slcs true true), [.c (.str ⟨#[48, 49, 50, 51, 52, 53, 54, 55, 56, 57]⟩), .t 31, .t 33], none⟩,
  ⟨(some 2), .mv, [.t 34], none⟩])
 .ret) .skip)))))))
 (.seq (.regd [⟨(some 35), .mv, [.t 0], none⟩,
  ⟨(some 36), (.bin .quo), [.t 35, .c (.int .i64 10)], none⟩,
  ⟨(some 37), (.call 50), [.t 36], none⟩,
  ⟨(some 38), .mv, [.t 0], none⟩,
  ⟨(some 39), (.bin .rem), [.t 38, .c (.int .i64 10)], none⟩,
  ⟨(some 40), .mv, [.t 0], none⟩,
  ⟨(some 41), (.bin .rem), [.t 40, .c (.int .i64 10)], none⟩,
  ⟨(some 42), (.bin .add), [.t 41, .c (.int .i64 1)], none⟩,
  ⟨(some 43), (.slcs true true), [.c (.str ⟨#[48, 49, 50, 51, 52, 53, 54, 55, 56, 57]⟩), .t 39, .t 42], none⟩,
  ⟨(some 44), (.bin .add), [.t 37, .t 43], none⟩,
  ⟨(some 2), .mv, [.t 44], none⟩] [0, 1, 2, 0, 8, 0, 32, 64, 144, 260, 1023])
 .ret)))
theorem comp50 : compC Go.Proofs.Try.prog ttL 45 [] (match Go.Proofs.Try.f50.body with | some b => b | none => .skip) = some (c50) := by kernel_rfl
def c52 : C := (.seq (.reg [⟨(some 1), .box, [.t 0], none⟩,
  ⟨(some 2), .mv, [.c (.int .i64 0)], none⟩])
 (.seq (.reg [⟨(some 3), (.fld 4), [.t 1], none⟩,
  ⟨(some 4), (.load 1 false), [.t 3], none⟩,
  ⟨(some 5), (.fld 7), [.t 1], none⟩,
  ⟨(some 6), (.load 1 false), [.t 5], none⟩,
  ⟨(some 7), .len, [.t 6], none⟩,
  ⟨(some 8), (.bin .add), [.t 4, .t 7], none⟩,
  ⟨(some 2), .mv, [.t 8], none⟩])
 .ret))
theorem comp52 : compC Go.Proofs.Try.prog ttL 9 [] (match Go.Proofs.Try.f52.body with | some b => b | none => .skip) = some (c52) := by kernel_rfl
def c53 : C := (.seq (.reg [⟨(some 2), .box, [.t 0], none⟩,
  ⟨(some 4), .mv, [.c (.sl tEntry [] true)], none⟩])
 (.seq (.reg [⟨(some 5), .mv, [.c (.int .i64 0)], none⟩])
 (.seq (.seq (.reg [⟨(some 6), .mv, [.t 1], none⟩,
  ⟨(some 7), (.fld 4), [.t 2], none⟩,
  ⟨(some 8), (.load 1 false), [.t 7], none⟩,
  ⟨(some 9), (.bin .gtr), [.t 6, .t 8], none⟩])
 (.cond (.t 9) (.reg [⟨(some 10), .mv, [.t 1], none⟩,
  ⟨(some 11), (.fld 4), [.t 2], none⟩,
  ⟨(some 12), (.load 1 false), [.t 11], none⟩,
  ⟨(some 13), (.bin .sub), [.t 10, .t 12], none⟩,
  ⟨(some 5), .mv, [.t 13], none⟩]) .skip))
 (.seq (.seq (.reg [⟨(some 14), .mv, [.t 5], none⟩,
  ⟨(some 15), (.bin .lss), [.t 14, .c (.int .i64 0)], none⟩,
  ⟨(some 16), .mv, [.t 15], none⟩,
  ⟨(some 17), .mv, [.t 5], (some (16, false))⟩,
  ⟨(some 18), (.fld 7), [.t 2], (some (16, false))⟩,
  ⟨(some 19), (.load 1 false), [.t 18], (some (16, false))⟩,
  ⟨(some 20), .len, [.t 19], (some (16, false))⟩,
  ⟨(some 21), (.bin .gtr), [.t 17, .t 20], (some (16, false))⟩,
  ⟨(some 22), .pick, [.t 16, .c (.bool true), .t 21], none⟩])
 (.cond (.t 22) (.reg [⟨(some 23), (.fld 7), [.t 2], none⟩,
  ⟨(some 24), (.load 1 false), [.t 23], none⟩,
  ⟨(some 25), .len, [.t 24], none⟩,
  ⟨(some 5), .mv, [.t 25], none⟩]) .skip))
 (.seq (.reg [⟨(some 26), (.fld 7), [.t 2], none⟩,
  ⟨(some 27), (.load 1 false), [.t 26], none⟩,
  ⟨(some 28), .mv, [.t 5], none⟩,
  ⟨(some 29), (.fld 7), [.t 2], none⟩,
  ⟨(some 30), (.load 1 false), [.t 29], none⟩,
  ⟨(some 31), .len, [.t 30], none⟩,
  ⟨(some 32), (.fld 7), [.t 2], none⟩,
  ⟨(some 33), (.load 1 false), [.t 32], none⟩,
  ⟨(some 34), .len, [.t 33], none⟩,
  ⟨(some 35), (.slc 2 true true true), [.t 27, .t 28, .t 31, .t 34], none⟩,
  ⟨(some 4), .mv, [.t 35], none⟩])
 .ret)))))
theorem comp53 : compC Go.Proofs.Try.prog ttL 36 [] (match Go.Proofs.Try.f53.body with | some b => b | none => .skip) = some (c53) := by kernel_rfl
def c62 : C := (.seq (.reg [⟨(some 1), .box, [.t 0], none⟩,
  ⟨(some 2), (.alloc [.int .i64 0, .int .i64 0, .int .i64 0, .int .i64 0, .str ⟨#[]⟩, .sl tEntry [] true]), [], none⟩])
 (.seq (.reg [⟨(some 3), (.fld 2), [.t 1], none⟩,
  ⟨(some 4), (.load 1 false), [.t 3], none⟩,
  ⟨(some 5), (.fld 3), [.t 1], none⟩,
  ⟨(some 6), (.load 1 false), [.t 5], none⟩,
  ⟨(some 7), (.fld 4), [.t 1], none⟩,
  ⟨(some 8), (.load 1 false), [.t 7], none⟩,
  ⟨(some 9), (.fld 5), [.t 1], none⟩,
  ⟨(some 10), (.load 1 false), [.t 9], none⟩,
  ⟨(some 11), (.fld 6), [.t 1], none⟩,
  ⟨(some 12), (.load 1 false), [.t 11], none⟩,
  ⟨(some 13), (.fld 7), [.t 1], none⟩,
  ⟨(some 14), (.load 1 false), [.t 13], none⟩,
  ⟨(some 15), (.build [.int .i64 0, .int .i64 0, .int .i64 0, .int .i64 0, .str ⟨#[]⟩, .sl tEntry [] true] [(0, 1), (1, 1), (2, 1), (3, 1), (4, 1), (5, 1)]), [.t 4, .t 6, .t 8, .t 10, .t 12, .t 14], none⟩,
  ⟨none, (.store 6), [.t 2, .t 15], none⟩])
 .ret))
theorem comp62 : compC Go.Proofs.Try.prog ttL 16 [] (match Go.Proofs.Try.f62.body with | some b => b | none => .skip) = some (c62) := by kernel_rfl
def c91 : C := (.seq (.reg [⟨(some 1), .box, [.t 0], none⟩,
  ⟨(some 2), (.alloc [.int .i64 0, .int .i64 0, .int .i64 0, .int .i64 0, .int .i64 0, .int .i64 0, .str ⟨#[]⟩, .sl tEntry [] true, .int .i64 0, .int .i64 0, .int .i64 0, .sl .bool [] true, .sl tI [] true, .sl tI [] true, .int .i64 0]), [], none⟩])
 (.seq (.reg [⟨(some 3), (.load 15 true), [.t 1], none⟩,
  ⟨(some 4), (.call 92), [.t 3], none⟩,
  ⟨(some 5), (.fld 11), [.t 1], none⟩,
  ⟨none, (.store 1), [.t 5, .t 4], none⟩])
 (.seq (.seq (.reg [⟨(some 6), (.fld 0), [.t 1], none⟩,
  ⟨(some 7), (.load 1 false), [.t 6], none⟩,
  ⟨(some 8), (.bin .geq), [.t 7, .c (.int .i64 0)], none⟩,
  ⟨(some 9), .mv, [.t 8], none⟩,
  ⟨(some 10), (.fld 0), [.t 1], (some (9, true))⟩,
  ⟨(some 11), (.load 1 false), [.t 10], (some (9, true))⟩,
  ⟨(some 12), (.fld 11), [.t 1], (some (9, true))⟩,
  ⟨(some 13), (.load 1 false), [.t 12], (some (9, true))⟩,
  ⟨(some 14), .len, [.t 13], (some (9, true))⟩,
  ⟨(some 15), (.bin .lss), [.t 11, .t 14], (some (9, true))⟩,
  ⟨(some 16), .pick, [.t 9, .t 15, .c (.bool false)], none⟩])
 (.cond (.t 16) (.reg [⟨(some 17), (.fld 11), [.t 1], none⟩,
  ⟨(some 18), (.load 1 false), [.t 17], none⟩,
  ⟨(some 19), (.fld 0), [.t 1], none⟩,
  ⟨(some 20), (.load 1 false), [.t 19], none⟩,
  ⟨(some 21), (.idx 1), [.t 18, .t 20], none⟩,
  ⟨none, (.store 1), [.t 21, .c (.bool true)], none⟩]) .skip))
 (.seq (.reg [⟨(some 22), (.load 15 true), [.t 1], none⟩,
  ⟨none, (.store 15), [.t 2, .t 22], none⟩])
 .ret))))
theorem comp91 : compC Go.Proofs.Try.prog ttL 23 [] (match Go.Proofs.Try.f91.body with | some b => b | none => .skip) = some (c91) := by kernel_rfl
def c92 : C := (.seq (.reg [⟨(some 1), .box, [.t 0], none⟩,
  ⟨(some 2), .mv, [.c (.sl .bool [] true)], none⟩])
 (.seq (.reg [⟨(some 3), (.fld 1), [.t 1], none⟩,
  ⟨(some 4), (.load 1 false), [.t 3], none⟩,
  ⟨(some 5), .mn, [.t 4, .c (.int .i64 5)], none⟩,
  ⟨(some 6), .mx, [.c (.int .i64 0), .t 5], none⟩,
  ⟨(some 7), (.mks .bool 1), [.t 6, .t 6], none⟩,
  ⟨(some 2), .mv, [.t 7], none⟩])
 .ret))
theorem comp92 : compC Go.Proofs.Try.prog ttL 8 [] (match Go.Proofs.Try.f92.body with | some b => b | none => .skip) = some (c92) := by kernel_rfl
end Go.AM
set_option maxRecDepth 100000
set_option maxHeartbeats 4000000
set_option linter.unusedSimpArgs false
namespace Go.AM
open Go.Proofs
theorem mixed : Try.prog.follows .mixedOrders = true := by kernel_rfl
attribute [local congr] vc_congr evOps_congr evTab_congr bind_congr condK_congr tabK_congr
theorem tmodPlace {v n : Int} (h : 0 < n) : (if v.tmod n < 0 then v.tmod n + n else v.tmod n) = v % n := by
  have h1 := Int.emod_nonneg v (by omega : n ≠ 0)
  have h2 := Int.emod_lt_of_pos v h
  rw [Int.tmod_eq_emod]
  split <;> split <;> omega
theorem inR {n : Int} : InR .i64 n = (-9223372036854775808 ≤ n ∧ n ≤ 9223372036854775807) := rfl
/-- a small list -/
def smallL {α} (l : List α) : Prop := l.length ≤ 1048576
theorem sm {α} {l : List α} : smallL l = (l.length ≤ 1048576) := rfl
def fn23 : Fn := { a := .pair tI (.pair tI .unit), r := .pair tI .unit, pre := fun x => 0 < x.2.1 ∧ x.2.1 ≤ 1099511627776, f := fun x => (x.1 % x.2.1, ()) }
theorem h23  : Holds Try.prog 23 (fn23) := by
  refine Holds.of_vc (T := []) (TT := ttL) (rowAt := []) (c := c23) (ros := [.t 4]) (.nil _) mixed Try.func23 (by decide +kernel) (by rfl) comp23 (by kernel_rfl) rfl rfl (fun h => by cases h) ?_
  rintro ⟨(v : Int), (n : Int), _⟩ hpre
  simp only [fn23] at hpre ⊢
  simp only [c23, go_sem, reduceIte, Nat.reduceBEq, Nat.reduceMul, reduceCtorEq, Nat.reduceAdd, Nat.reduceEqDiff, decide_eq_true_eq, decide_eq_false_iff_not, Bool.not_eq_true', Bool.not_eq_false', Bool.and_eq_true, Bool.or_eq_true, Bool.and_eq_false_iff, Bool.or_eq_false_iff, Bool.cond_true_left, Bool.cond_false_right, Bool.cond_true_right, Bool.cond_false_left, Bool.or_false, Bool.and_true, inR]
  dsimp only [den] at *
  have h0 := tmodPlace (v := v) hpre.1
  have h1 := Int.emod_nonneg v (by omega : n ≠ 0)
  have h2 := Int.emod_lt_of_pos v hpre.1
  refine ⟨by omega, fun h => ?_, fun h => ?_⟩
  · rw [if_pos h] at h0
    refine ⟨?_, h0⟩
    omega
  · rwa [if_neg h] at h0
def fn52 : Fn := { a := .pair tNode .unit, r := .pair tI .unit, pre := fun x => InR .i64 (last x.1), f := fun x => (last x.1, ()) }
theorem h52  : Holds Try.prog 52 (fn52) := by
  refine Holds.of_vc (T := []) (TT := ttL) (rowAt := []) (c := c52) (ros := [.t 2]) (.nil _) mixed Try.func52 (by decide +kernel) (by rfl) comp52 (by kernel_rfl) rfl rfl (fun h => by cases h) ?_
  rintro ⟨n, _⟩ hpre
  simp only [fn52] at hpre ⊢
  simp only [c52, go_sem, reduceIte, Nat.reduceBEq, Nat.reduceMul, reduceCtorEq, Nat.reduceAdd, Nat.reduceEqDiff, decide_eq_true_eq, decide_eq_false_iff_not, Bool.not_eq_true', Bool.not_eq_false', Bool.and_eq_true, Bool.or_eq_true, Bool.and_eq_false_iff, Bool.or_eq_false_iff, Bool.cond_true_left, Bool.cond_false_right, Bool.cond_true_right, Bool.cond_false_left, Bool.or_false, Bool.and_true, last]
  exact hpre
def fn48 : Fn := { a := .pair tNode (.pair tI .unit), r := .pair tI (.pair .bool .unit), pre := fun x => InR .i64 (last x.1) ∧ InR .i64 (x.2.1 - nBase x.1 - 1) ∧ InR .i64 (x.2.1 - nBase x.1), f := fun x => (termV x.1 x.2.1, termOk x.1 x.2.1, ()) }
theorem h48  : Holds Try.prog 48 (fn48) := by
  refine Holds.of_vc (T := [(52, fn52)]) (TT := ttL) (rowAt := []) (c := c48) (ros := [.t 4, .t 5]) (.cons _ h52 (.nil _)) mixed Try.func48 (by decide +kernel) (by rfl) comp48 (by kernel_rfl) rfl rfl (fun h => by cases h) ?_
  rintro ⟨(n : Node), (i : Int), _⟩ hpre
  simp only [fn48] at hpre ⊢
  simp only [c48, fn52, go_sem, reduceIte, Nat.reduceBEq, Nat.reduceMul, reduceCtorEq, Nat.reduceAdd, Nat.reduceEqDiff, decide_eq_true_eq, decide_eq_false_iff_not, Bool.not_eq_true', Bool.not_eq_false', Bool.and_eq_true, Bool.or_eq_true, Bool.and_eq_false_iff, Bool.or_eq_false_iff, Bool.cond_true_left, Bool.cond_false_right, Bool.cond_true_right, Bool.cond_false_left, Bool.or_false, Bool.and_true, termV, termOk, inR]
  dsimp only [den, nId, nNodes, nTerm, nVote, nBase, nBT, nSnap, nLog, nRole, nLead, nCommit, nVotes, nNext, nMatch, nClock, mKind, mFrom, mTo, mTerm, mIndex, mAt, mYes, mCommit, mEntries, mSnap, eTerm, eCmd, mkN, mkM, mkE, last, inR, sm, lastT] at *
  repeat' (first | apply And.intro | intro _)
  all_goals (first | omega | rfl | exact (decide_eq_true (by omega)).symm | exact (decide_eq_false (by omega)).symm | exact decide_eq_true (by omega) | exact decide_eq_false (by omega) | exact (if_pos (by omega)).symm | exact (if_neg (by omega)).symm | (split <;> first | omega | rfl | (split <;> first | omega | rfl | (split <;> first | omega | rfl))) | skip)
def fn44 : Fn := { a := .pair tNode .unit, r := .pair tI .unit, pre := fun x => 0 ≤ nNodes x.1 ∧ nNodes x.1 ≤ 100, f := fun x => (most x.1, ()) }
theorem tdiv2 {a : Int} (h : 0 ≤ a) (h2 : a ≤ 100) : 0 ≤ a.tdiv 2 ∧ a.tdiv 2 ≤ 50 := by
  rw [Int.tdiv_eq_ediv_of_nonneg h]; omega
theorem h44  : Holds Try.prog 44 (fn44) := by
  refine Holds.of_vc (T := []) (TT := ttL) (rowAt := []) (c := c44) (ros := [.t 2]) (.nil _) mixed Try.func44 (by decide +kernel) (by rfl) comp44 (by kernel_rfl) rfl rfl (fun h => by cases h) ?_
  rintro ⟨(n : Node), _⟩ hpre
  simp only [fn44] at hpre ⊢
  have h := tdiv2 hpre.1 hpre.2
  simp only [c44, go_sem, reduceIte, Nat.reduceBEq, Nat.reduceMul, reduceCtorEq, Nat.reduceAdd, Nat.reduceEqDiff, decide_eq_true_eq, decide_eq_false_iff_not, Bool.not_eq_true', Bool.not_eq_false', Bool.and_eq_true, Bool.or_eq_true, Bool.and_eq_false_iff, Bool.or_eq_false_iff, Bool.cond_true_left, Bool.cond_false_right, Bool.cond_true_right, Bool.cond_false_left, Bool.or_false, Bool.and_true, most, inR]
  dsimp only [den, nId, nNodes, nTerm, nVote, nBase, nBT, nSnap, nLog, nRole, nLead, nCommit, nVotes, nNext, nMatch, nClock, mKind, mFrom, mTo, mTerm, mIndex, mAt, mYes, mCommit, mEntries, mSnap, eTerm, eCmd, mkN, mkM, mkE, last, inR, sm, lastT] at *
  repeat' (first | apply And.intro | intro _)
  all_goals (first | omega | rfl | exact (decide_eq_true (by omega)).symm | exact (decide_eq_false (by omega)).symm | exact decide_eq_true (by omega) | exact decide_eq_false (by omega) | exact (if_pos (by omega)).symm | exact (if_neg (by omega)).symm | (split <;> first | omega | rfl | (split <;> first | omega | rfl | (split <;> first | omega | rfl))) | skip)
def hard (n : Node) : Hrd := (nTerm n, nVote n, nBase n, nBT n, nSnap n, nLog n, ())
def fn62 : Fn := { a := .pair tNode .unit, r := .pair tHard .unit, pre := fun _ => True, f := fun x => (hard x.1, ()) }
theorem h62  : Holds Try.prog 62 (fn62) := by
  refine Holds.of_vc (T := []) (TT := ttL) (rowAt := []) (c := c62) (ros := [.c 2 6]) (.nil _) mixed Try.func62 (by decide +kernel) (by rfl) comp62 (by kernel_rfl) rfl rfl (fun h => by cases h) ?_
  rintro ⟨(n : Node), _⟩ hpre
  simp only [fn62] at hpre ⊢
  simp only [c62, go_sem, reduceIte, Nat.reduceBEq, Nat.reduceMul, reduceCtorEq, Nat.reduceAdd, Nat.reduceEqDiff, decide_eq_true_eq, decide_eq_false_iff_not, Bool.not_eq_true', Bool.not_eq_false', Bool.and_eq_true, Bool.or_eq_true, Bool.and_eq_false_iff, Bool.or_eq_false_iff, Bool.cond_true_left, Bool.cond_false_right, Bool.cond_true_right, Bool.cond_false_left, Bool.or_false, Bool.and_true, inR, hard]
  rfl
def fn53 : Fn := { a := .pair tNode (.pair tI .unit), r := .pair (.list tEntry) .unit, pre := fun x => InR .i64 (x.2.1 - nBase x.1), f := fun x => (behindN x.1 x.2.1, ()) }
theorem h53  : Holds Try.prog 53 (fn53) := by
  refine Holds.of_vc (T := []) (TT := ttL) (rowAt := []) (c := c53) (ros := [.t 4]) (.nil _) mixed Try.func53 (by decide +kernel) (by rfl) comp53 (by kernel_rfl) rfl rfl (fun h => by cases h) ?_
  rintro ⟨(n : Node), (i : Int), _⟩ hpre
  simp only [fn53] at hpre ⊢
  simp only [c53, go_sem, reduceIte, Nat.reduceBEq, Nat.reduceMul, reduceCtorEq, Nat.reduceAdd, Nat.reduceEqDiff, decide_eq_true_eq, decide_eq_false_iff_not, Bool.not_eq_true', Bool.not_eq_false', Bool.and_eq_true, Bool.or_eq_true, Bool.and_eq_false_iff, Bool.or_eq_false_iff, Bool.cond_true_left, Bool.cond_false_right, Bool.cond_true_right, Bool.cond_false_left, Bool.or_false, Bool.and_true, inR, behindN]
  dsimp only [den, nId, nNodes, nTerm, nVote, nBase, nBT, nSnap, nLog, nRole, nLead, nCommit, nVotes, nNext, nMatch, nClock, mKind, mFrom, mTo, mTerm, mIndex, mAt, mYes, mCommit, mEntries, mSnap, eTerm, eCmd, mkN, mkM, mkE, last, inR, sm, lastT] at *
  repeat' (first | apply And.intro | intro _)
  all_goals (first | omega | rfl | skip)
  · rw [List.drop_length, List.drop_eq_nil_of_le (by omega)]
  · rw [show (i - n.2.2.2.2.1).toNat = (Int.toNat 0) by omega]; rfl
def fn92 : Fn := { a := .pair tNode .unit, r := .pair (.olist .bool) .unit, pre := fun _ => True, f := fun x => (votes x.1, ()) }
theorem h92  : Holds Try.prog 92 (fn92) := by
  refine Holds.of_vc (T := []) (TT := ttL) (rowAt := []) (c := c92) (ros := [.t 2]) (.nil _) mixed Try.func92 (by decide +kernel) (by rfl) comp92 (by kernel_rfl) rfl rfl (fun h => by cases h) ?_
  rintro ⟨(n : Node), _⟩ hpre
  simp only [fn92] at hpre ⊢
  simp only [c92, go_sem, reduceIte, Nat.reduceBEq, Nat.reduceMul, reduceCtorEq, Nat.reduceAdd, Nat.reduceEqDiff, decide_eq_true_eq, decide_eq_false_iff_not, Bool.not_eq_true', Bool.not_eq_false', Bool.and_eq_true, Bool.or_eq_true, Bool.and_eq_false_iff, Bool.or_eq_false_iff, Bool.cond_true_left, Bool.cond_false_right, Bool.cond_true_right, Bool.cond_false_left, Bool.or_false, Bool.and_true, inR, votes]
  dsimp only [den, nId, nNodes, nTerm, nVote, nBase, nBT, nSnap, nLog, nRole, nLead, nCommit, nVotes, nNext, nMatch, nClock, mKind, mFrom, mTo, mTerm, mIndex, mAt, mYes, mCommit, mEntries, mSnap, eTerm, eCmd, mkN, mkM, mkE, last, inR, sm, lastT] at *
  repeat' (first | apply And.intro | intro _)
  all_goals (first | omega | rfl | exact (decide_eq_true (by omega)).symm | exact (decide_eq_false (by omega)).symm | exact decide_eq_true (by omega) | exact decide_eq_false (by omega) | exact (if_pos (by omega)).symm | exact (if_neg (by omega)).symm | (split <;> first | omega | rfl | (split <;> first | omega | rfl | (split <;> first | omega | rfl))) | skip)
def fn91 : Fn := { a := .pair tNode .unit, r := .pair tNode .unit, pre := fun _ => True, f := fun x => (own x.1, ()) }
theorem h91  : Holds Try.prog 91 (fn91) := by
  refine Holds.of_vc (T := [(92, fn92)]) (TT := ttL) (rowAt := []) (c := c91) (ros := [.c 2 15]) (.cons _ h92 (.nil _)) mixed Try.func91 (by decide +kernel) (by rfl) comp91 (by kernel_rfl) rfl rfl (fun h => by cases h) ?_
  rintro ⟨(n : Node), _⟩ hpre
  simp only [fn91] at hpre ⊢
  simp only [c91, fn92, go_sem, reduceIte, Nat.reduceBEq, Nat.reduceMul, reduceCtorEq, Nat.reduceAdd, Nat.reduceEqDiff, decide_eq_true_eq, decide_eq_false_iff_not, Bool.not_eq_true', Bool.not_eq_false', Bool.and_eq_true, Bool.or_eq_true, Bool.and_eq_false_iff, Bool.or_eq_false_iff, Bool.cond_true_left, Bool.cond_false_right, Bool.cond_true_right, Bool.cond_false_left, Bool.or_false, Bool.and_true, inR, own]
  dsimp only [den, nId, nNodes, nTerm, nVote, nBase, nBT, nSnap, nLog, nRole, nLead, nCommit, nVotes, nNext, nMatch, nClock, mKind, mFrom, mTo, mTerm, mIndex, mAt, mYes, mCommit, mEntries, mSnap, eTerm, eCmd, mkN, mkM, mkE, last, inR, sm, lastT] at *
  repeat' (first | apply And.intro | intro _)
  all_goals (first | omega | rfl | exact (decide_eq_true (by omega)).symm | exact (decide_eq_false (by omega)).symm | exact decide_eq_true (by omega) | exact decide_eq_false (by omega) | exact (if_pos (by omega)).symm | exact (if_neg (by omega)).symm | (split <;> first | omega | rfl | (split <;> first | omega | rfl | (split <;> first | omega | rfl))) | skip)
def fn32 : Fn := { a := .pair tNode (.pair tI .unit), r := .pair tNode .unit, pre := fun _ => True, f := fun x => (down x.1 x.2.1, ()) }
theorem h32  : Holds Try.prog 32 (fn32) := by
  refine Holds.of_vc (T := [(92, fn92)]) (TT := ttL) (rowAt := []) (c := c32) (ros := [.c 4 15]) (.cons _ h92 (.nil _)) mixed Try.func32 (by decide +kernel) (by rfl) comp32 (by kernel_rfl) rfl rfl (fun h => by cases h) ?_
  rintro ⟨(n : Node), (t : Int), _⟩ hpre
  simp only [fn32] at hpre ⊢
  simp only [c32, fn92, go_sem, reduceIte, Nat.reduceBEq, Nat.reduceMul, reduceCtorEq, Nat.reduceAdd, Nat.reduceEqDiff, decide_eq_true_eq, decide_eq_false_iff_not, Bool.not_eq_true', Bool.not_eq_false', Bool.and_eq_true, Bool.or_eq_true, Bool.and_eq_false_iff, Bool.or_eq_false_iff, Bool.cond_true_left, Bool.cond_false_right, Bool.cond_true_right, Bool.cond_false_left, Bool.or_false, Bool.and_true, inR, down]
  dsimp only [den, nId, nNodes, nTerm, nVote, nBase, nBT, nSnap, nLog, nRole, nLead, nCommit, nVotes, nNext, nMatch, nClock, mKind, mFrom, mTo, mTerm, mIndex, mAt, mYes, mCommit, mEntries, mSnap, eTerm, eCmd, mkN, mkM, mkE, last, inR, sm, lastT] at *
  repeat' (first | apply And.intro | intro _)
  all_goals (first | omega | rfl | exact (decide_eq_true (by omega)).symm | exact (decide_eq_false (by omega)).symm | exact decide_eq_true (by omega) | exact decide_eq_false (by omega) | exact (if_pos (by omega)).symm | exact (if_neg (by omega)).symm | (split <;> first | omega | rfl | (split <;> first | omega | rfl | (split <;> first | omega | rfl))) | skip)
def fn25 : Fn := { a := .pair tNode (.pair tMsg .unit), r := .pair tNode (.pair (.list tMsg) .unit), pre := fun x => InR .i64 (last x.1) ∧ 0 ≤ nBase x.1, f := fun x => (asked1 x.1 x.2.1, asked2 x.1 x.2.1, ()) }
theorem h25  : Holds Try.prog 25 (fn25) := by
  refine Holds.of_vc (T := [(32, fn32), (52, fn52), (48, fn48)]) (TT := ttL) (rowAt := []) (c := c25) (ros := [.c 4 15, .t 5]) (.cons _ h32 (.cons _ h52 (.cons _ h48 (.nil _)))) mixed Try.func25 (by decide +kernel) (by rfl) comp25 (by kernel_rfl) rfl rfl (fun h => by cases h) ?_
  rintro ⟨(n : Node), (m : Msg), _⟩ hpre
  simp only [fn25] at hpre ⊢
  simp only [c25, fn32, fn52, fn48, go_sem, reduceIte, Nat.reduceBEq, Nat.reduceMul, reduceCtorEq, Nat.reduceAdd, Nat.reduceEqDiff, decide_eq_true_eq, decide_eq_false_iff_not, Bool.not_eq_true', Bool.not_eq_false', Bool.and_eq_true, Bool.or_eq_true, Bool.and_eq_false_iff, Bool.or_eq_false_iff, Bool.cond_true_left, Bool.cond_false_right, Bool.cond_true_right, Bool.cond_false_left, Bool.or_false, Bool.and_true]
  simp only [asked1, asked2]
  have hb := base_down n m.2.2.2.1
  have hl := last_down n m.2.2.2.1
  have hg : 0 ≤ (nLog (down n m.2.2.2.1)).length := Nat.zero_le _
  generalize hd : down n m.2.2.2.1 = d at *
  rw [← hl, ← hb] at hpre
  simp only [asked1', asked2', askB]
  clear hl hb
  dsimp only [den, nId, nNodes, nTerm, nVote, nBase, nBT, nSnap, nLog, nRole, nLead, nCommit, nVotes, nNext, nMatch, nClock, mKind, mFrom, mTo, mTerm, mIndex, mAt, mYes, mCommit, mEntries, mSnap, eTerm, eCmd, mkN, mkM, mkE, last, inR, sm, lastT] at *
  repeat' (first | apply And.intro | intro _)
  all_goals (first | omega | rfl | exact (decide_eq_true (by omega)).symm | exact (decide_eq_false (by omega)).symm | exact decide_eq_true (by omega) | exact decide_eq_false (by omega) | exact (if_pos (by omega)).symm | exact (if_neg (by omega)).symm | (split <;> first | omega | rfl | (split <;> first | omega | rfl | (split <;> first | omega | rfl))) | skip)
  · exact (if_pos (by simp only [Bool.and_eq_true, Bool.or_eq_true, decide_eq_true_eq, decide_eq_false_iff_not, Bool.and_eq_false_iff, Bool.or_eq_false_iff, Bool.not_eq_true', Bool.not_eq_false']; omega)).symm
  · exact (if_neg (by simp only [Bool.and_eq_true, Bool.or_eq_true, decide_eq_true_eq, decide_eq_false_iff_not, Bool.and_eq_false_iff, Bool.or_eq_false_iff, Bool.not_eq_true', Bool.not_eq_false']; omega)).symm
end Go.AM

set_option maxRecDepth 100000
set_option maxHeartbeats 4000000
set_option linter.unusedSimpArgs false
namespace Go.AM
open Go.Proofs
attribute [local congr] vc_congr evOps_congr evTab_congr bind_congr condK_congr tabK_congr
def fn31 : Fn := { a := .pair tI (.pair tI .unit), r := .pair tNode .unit, pre := fun _ => True, f := fun x => (newN x.1 x.2.1, ()) }
theorem ones_set (i k : Nat) (h : i < k) : (List.replicate i (1 : Int) ++ List.replicate (k - i) 0).set i 1 = List.replicate (i + 1) 1 ++ List.replicate (k - (i + 1)) 0 := by
  obtain ⟨m, hm⟩ : ∃ m, k - i = m + 1 := ⟨k - i - 1, by omega⟩
  rw [hm, show k - (i + 1) = m by omega, List.set_append_right (h := by simp), List.length_replicate, Nat.sub_self, List.replicate_succ, List.set_cons_zero, List.replicate_succ', List.append_assoc]
  rfl
theorem h31  : Holds Try.prog 31 (fn31) := by
  refine Holds.of_vc (T := []) (TT := ttL) (rowAt := []) (c := c31) (ros := [.c 4 15]) (.nil _) mixed Try.func31 (by decide +kernel) (by rfl) comp31 (by kernel_rfl) rfl rfl (fun h => by cases h) ?_
  rintro ⟨(id : Int), (nodes : Int), _⟩ hpre
  simp only [fn31] at hpre ⊢
  simp only [c31, go_sem, reduceIte, Nat.reduceBEq, Nat.reduceMul, reduceCtorEq, Nat.reduceAdd, Nat.reduceEqDiff, decide_eq_true_eq, decide_eq_false_iff_not, Bool.not_eq_true', Bool.not_eq_false', Bool.and_eq_true, Bool.or_eq_true, Bool.and_eq_false_iff, Bool.or_eq_false_iff, Bool.cond_true_left, Bool.cond_false_right, Bool.cond_true_right, Bool.cond_false_left, Bool.or_false, Bool.and_true, inR]
  simp only [newN]
  have hk1 : 1 ≤ min (max nodes 1) 5 := by omega
  have hk5 : min (max nodes 1) 5 ≤ 5 := by omega
  generalize min (max nodes 1) 5 = k at *
  refine ⟨by omega, by omega, by omega, by omega, by rfl, ?_⟩
  refine loop_rule (β := Nat) (fun i => ⟨[(4, .ptr 4 0), (5, .int .i64 k), (6, .ptr 6 0), (7, .int .i64 i)], [(4, .box [.int .i64 0, .int .i64 0, .int .i64 0, .int .i64 0, .int .i64 0, .int .i64 0, .str ⟨#[]⟩, .sl tEntry [] true, .int .i64 0, .int .i64 0, .int .i64 0, .sl .bool [] true, .sl tI [] true, .sl tI [] true, .int .i64 0]),
    (6, .box [.int .i64 (min (max id 0) (k - 1)), .int .i64 k, .int .i64 0, .int .i64 (-1), .int .i64 0, .int .i64 0, .str ⟨#[]⟩, .sl tEntry [] true, .int .i64 0, .int .i64 (-1), .int .i64 0, .own 18 0 k.toNat, .own 20 0 k.toNat, .own 22 0 k.toNat, .int .i64 0]),
    (18, .row .bool (List.replicate k.toNat false) false), (20, .row tI (List.replicate i (1 : Int) ++ List.replicate (k.toNat - i) (0 : Int)) false), (22, .row tI (List.replicate k.toNat (0 : Int)) false)]⟩)
    (fun i => i ≤ k.toNat) (fun i => k.toNat - i) 0 ?_ ?_ ?_
  · refine Ent_of [(4, 4), (6, 6), (18, 18), (20, 20), (22, 22)] rfl ?_ ?_
    · simp only [go_sem, reduceIte, Nat.reduceBEq, Nat.reduceMul, reduceCtorEq, Nat.reduceAdd, Nat.reduceEqDiff, decide_eq_true_eq, decide_eq_false_iff_not, Bool.not_eq_true', Bool.not_eq_false', Bool.and_eq_true, Bool.or_eq_true, Bool.and_eq_false_iff, Bool.or_eq_false_iff, Bool.cond_true_left, Bool.cond_false_right, Bool.cond_true_right, Bool.cond_false_left, Bool.or_false, Bool.and_true]
      exact ⟨rfl, rfl, rfl⟩
    · simp only [go_sem, reduceIte, Nat.reduceBEq, Nat.reduceMul, reduceCtorEq, Nat.reduceAdd, Nat.reduceEqDiff, decide_eq_true_eq, decide_eq_false_iff_not, Bool.not_eq_true', Bool.not_eq_false', Bool.and_eq_true, Bool.or_eq_true, Bool.and_eq_false_iff, Bool.or_eq_false_iff, Bool.cond_true_left, Bool.cond_false_right, Bool.cond_true_right, Bool.cond_false_left, Bool.or_false, Bool.and_true]
      trivial
  · exact Nat.zero_le _
  · intro i hi
    simp only [go_sem, reduceIte, Nat.reduceBEq, Nat.reduceMul, reduceCtorEq, Nat.reduceAdd, Nat.reduceEqDiff, decide_eq_true_eq, decide_eq_false_iff_not, Bool.not_eq_true', Bool.not_eq_false', Bool.and_eq_true, Bool.or_eq_true, Bool.and_eq_false_iff, Bool.or_eq_false_iff, Bool.cond_true_left, Bool.cond_false_right, Bool.cond_true_right, Bool.cond_false_left, Bool.or_false, Bool.and_true, inR]
    refine ⟨fun h => ⟨by omega, by omega, Again.intro (i + 1) (Ent_of [(4, 4), (6, 6), (18, 18), (20, 20), (22, 22)] rfl ?_ ?_) ?_ ?_⟩, fun h => ?_⟩
    · simp only [go_sem, reduceIte, Nat.reduceBEq, Nat.reduceMul, reduceCtorEq, Nat.reduceAdd, Nat.reduceEqDiff, decide_eq_true_eq, decide_eq_false_iff_not, Bool.not_eq_true', Bool.not_eq_false', Bool.and_eq_true, Bool.or_eq_true, Bool.and_eq_false_iff, Bool.or_eq_false_iff, Bool.cond_true_left, Bool.cond_false_right, Bool.cond_true_right, Bool.cond_false_left, Bool.or_false, Bool.and_true]
      exact (ones_set i k.toNat (by omega)).symm
    · simp only [go_sem, reduceIte, Nat.reduceBEq, Nat.reduceMul, reduceCtorEq, Nat.reduceAdd, Nat.reduceEqDiff, decide_eq_true_eq, decide_eq_false_iff_not, Bool.not_eq_true', Bool.not_eq_false', Bool.and_eq_true, Bool.or_eq_true, Bool.and_eq_false_iff, Bool.or_eq_false_iff, Bool.cond_true_left, Bool.cond_false_right, Bool.cond_true_right, Bool.cond_false_left, Bool.or_false, Bool.and_true]
      omega
    · show i + 1 ≤ k.toNat; omega
    · show k.toNat - (i + 1) < k.toNat - i; omega
    · rw [show i = k.toNat by omega, Nat.sub_self, List.replicate_zero, List.append_nil, List.take_replicate, Nat.min_self]
      rfl
def oneD (v : Int) : ByteArray := (⟨#[48, 49, 50, 51, 52, 53, 54, 55, 56, 57]⟩ : ByteArray).extract v.toNat (v + 1).toNat
def digF : Nat → Int → ByteArray
  | 0, v => oneD v
  | k + 1, v => if v < 10 then oneD v else digF k (v / 10) ++ oneD (v % 10)
def fnDig (k : Nat) : Fn := { a := .pair tI .unit, r := .pair .str .unit, pre := fun x => 0 ≤ x.1 ∧ x.1 < 10 ^ (k + 1) ∧ k < 19, f := fun x => (digF k x.1, ()) }
theorem oneD_size (v : Int) : (oneD v).size ≤ 10 := by
  unfold oneD
  rw [ByteArray.size_extract]
  have : (⟨#[48, 49, 50, 51, 52, 53, 54, 55, 56, 57]⟩ : ByteArray).size = 10 := rfl
  omega
theorem digF_size (k : Nat) : ∀ v, (digF k v).size ≤ 10 * (k + 1) := by
  induction k with
  | zero => intro v; simpa [digF] using oneD_size v
  | succ k ih =>
    intro v
    have := oneD_size v
    have h2 := oneD_size (v % 10)
    have h3 := ih (v / 10)
    unfold digF
    split
    · omega
    · rw [ByteArray.size_append]; omega
theorem al10 : (#[48, 49, 50, 51, 52, 53, 54, 55, 56, 57] : Array UInt8).size = 10 := rfl
theorem hDig0  : Holds Try.prog 50 (fnDig 0) := by
  refine Holds.of_vc (T := []) (TT := ttL) (rowAt := []) (c := c50) (ros := [.t 2]) (.nil _) mixed Try.func50 (by decide +kernel) (by rfl) comp50 (by kernel_rfl) rfl rfl (fun h => by cases h) ?_
  rintro ⟨(v : Int), _⟩ hpre
  simp only [fnDig] at hpre ⊢
  simp only [c50, go_sem, reduceIte, Nat.reduceBEq, Nat.reduceMul, reduceCtorEq, Nat.reduceAdd, Nat.reduceEqDiff, decide_eq_true_eq, decide_eq_false_iff_not, Bool.not_eq_true', Bool.not_eq_false', Bool.and_eq_true, Bool.or_eq_true, Bool.and_eq_false_iff, Bool.or_eq_false_iff, Bool.cond_true_left, Bool.cond_false_right, Bool.cond_true_right, Bool.cond_false_left, Bool.or_false, Bool.and_true, inR, al10]
  dsimp only [den] at *
  obtain ⟨h0, h1, _⟩ := hpre
  have h2 : v < 10 := h1
  refine ⟨fun h => absurd h (by omega), fun _ => ⟨fun h => absurd h (by omega), fun _ => ⟨fun h => ⟨by omega, by omega, rfl⟩, fun h => absurd h2 h⟩⟩⟩
theorem hDigS (k : Nat) (ih : Holds Try.prog 50 (fnDig k)) : Holds Try.prog 50 (fnDig (k + 1)) := by
  refine Holds.of_vc (T := [(50, fnDig k)]) (TT := ttL) (rowAt := []) (c := c50) (ros := [.t 2]) (.cons _ ih (.nil _)) mixed Try.func50 (by decide +kernel) (by rfl) comp50 (by kernel_rfl) rfl rfl (fun h => by cases h) ?_
  rintro ⟨(v : Int), _⟩ hpre
  simp only [fnDig] at hpre ⊢
  simp only [c50, fnDig, go_sem, reduceIte, Nat.reduceBEq, Nat.reduceMul, reduceCtorEq, Nat.reduceAdd, Nat.reduceEqDiff, decide_eq_true_eq, decide_eq_false_iff_not, Bool.not_eq_true', Bool.not_eq_false', Bool.and_eq_true, Bool.or_eq_true, Bool.and_eq_false_iff, Bool.or_eq_false_iff, Bool.cond_true_left, Bool.cond_false_right, Bool.cond_true_right, Bool.cond_false_left, Bool.or_false, Bool.and_true, inR, al10]
  dsimp only [den] at *
  obtain ⟨h0, h1, h19⟩ := hpre
  have hv : v < 10000000000000000000 := by
    have h : ∀ k : Fin 18, (10 : Int) ^ (k.1 + 1 + 1) ≤ 10000000000000000000 := by decide
    have := h ⟨k, by omega⟩
    simp only at this
    omega
  rw [Int.tdiv_eq_ediv_of_nonneg h0, Int.tmod_eq_emod_of_nonneg h0]
  have hs := digF_size k (v / 10)
  have hs2 := oneD_size (v % 10)
  have hd : v / 10 < 10 ^ (k + 1) := by
    rw [show k + 1 + 1 = (k + 1) + 1 from rfl, Int.pow_succ] at h1
    generalize (10 : Int) ^ (k + 1) = p at *
    omega
  unfold oneD at hs2
  refine ⟨fun h => absurd h (by omega), fun _ => ⟨fun h => absurd h (by omega), fun _ => ⟨fun h => ⟨by omega, by omega, ?_⟩, fun h => ⟨by omega, ⟨by omega, hd, by omega⟩, by omega, by omega, by omega, by omega, by omega, by rfl, ?_⟩⟩⟩⟩
  · show _ = if _ then _ else _
    exact (if_pos h).symm
  · show _ = if _ then _ else _
    exact (if_neg h).symm
theorem hDig (k : Nat) : Holds Try.prog 50 (fnDig k) := by
  induction k with
  | zero => exact hDig0
  | succ k ih => exact hDigS k ih
def digits (v : Int) : ByteArray := digF 18 v
def fn50 : Fn := { a := .pair tI .unit, r := .pair .str .unit, pre := fun x => 0 ≤ x.1 ∧ x.1 < 10 ^ (18 + 1) ∧ 18 < 19, f := fun x => (digits x.1, ()) }
theorem h50 : Holds Try.prog 50 fn50 := hDig 18
end Go.AM

set_option maxRecDepth 100000
set_option maxHeartbeats 4000000
set_option linter.unusedSimpArgs false
namespace Go.AM
open Go.Proofs
attribute [local congr] vc_congr evOps_congr evTab_congr bind_congr condK_congr tabK_congr
def mkEnt (t v : Int) : E := mkE (v % 1073741824 % (t + 1)) (digits (v % 1073741824 / 100 % 1000))
def entries (l : List Int) (t : Int) : List E := (l.take 20).map (mkEnt t)
def mkSnap (j : Int) : ByteArray := ⟨#[115, 110, 97, 112]⟩ ++ digits (j % 100)
def message (v w : Int) (n : Node) (es : List Int) : Msg :=
  mkM (1 + v % 1073741824 % 5) ((nId n + 1 + v % 1073741824 / 5 % max (nNodes n - 1) 1) % nNodes n) (nId n) (max (nTerm n - 1 + v % 1073741824 / 25 % 3) 1)
   (max (last n - 3 + w % 1073741824 % 6) 0)
   (if termOk n (max (last n - 3 + w % 1073741824 % 6) 0) = true ∧ w % 1073741824 / 2700 % 2 = 0 then termV n (max (last n - 3 + w % 1073741824 % 6) 0) else max (nTerm n - 1 + w % 1073741824 / 6 % 3) 0)
   (decide (0 < w % 1073741824 / 900 % 3)) (w % 1073741824 / 18 % (last n + 3))
   (if 1 + v % 1073741824 % 5 = 3 then entries es (max (nTerm n - 1 + v % 1073741824 / 25 % 3) 1) else []) (if 1 + v % 1073741824 % 5 = 5 then mkSnap (w % 1073741824) else noB)
end Go.AM

set_option maxRecDepth 100000
set_option maxHeartbeats 4000000
set_option linter.unusedSimpArgs false
namespace Go.AM
open Go.Proofs
attribute [local congr] vc_congr evOps_congr evTab_congr bind_congr condK_congr tabK_congr
def start0 (n : Node) : Node := mkN (nId n) (nNodes n) (nTerm n + 1) (nId n) (nBase n) (nBT n) (nSnap n) (nLog n) 1 (-1) (nCommit n) (nVotes n) (nNext n) (nMatch n) 0
def start1 (n : Node) : Node := own (start0 n)
def askMsg (s : Node) (j : Nat) : Msg := mkM 1 (nId s) j (nTerm s) (last s) (termV s (last s)) false 0 [] noB
def startMsgs (s : Node) (i : Nat) : List Msg := ((List.range i).filter (fun j : Nat => decide ((j : Int) ≠ nId s))).map (askMsg s)
def start2 (n : Node) : List Msg := startMsgs (start1 n) (nVotes (start1 n)).length
theorem startMsgs_len (s : Node) (i : Nat) : (startMsgs s i).length ≤ i := by
  unfold startMsgs
  rw [List.length_map]
  have := List.length_filter_le (fun j : Nat => decide ((j : Int) ≠ nId s)) (List.range i)
  simpa using this
theorem startMsgs_yes (s : Node) (i : Nat) (h : (i : Int) ≠ nId s) : startMsgs s (i + 1) = startMsgs s i ++ [askMsg s i] := by
  unfold startMsgs
  rw [List.range_succ, List.filter_append, List.map_append]
  simp [h]
theorem startMsgs_no (s : Node) (i : Nat) (h : (i : Int) = nId s) : startMsgs s (i + 1) = startMsgs s i := by
  unfold startMsgs
  rw [List.range_succ, List.filter_append, List.map_append]
  simp [h]
theorem start1_last (n : Node) : last (start1 n) = last n := by unfold start1 own start0; split <;> rfl
theorem start1_base (n : Node) : nBase (start1 n) = nBase n := by unfold start1 own start0; split <;> rfl
theorem own_votes (n : Node) : (nVotes (own n)).length = (votes n).length := by
  unfold own; split
  · exact List.length_set ..
  · rfl
theorem votes_len (n : Node) : (votes n).length = (max 0 (min (nNodes n) 5)).toNat := List.length_replicate ..
theorem start1_votes (n : Node) : (nVotes (start1 n)).length ≤ 5 := by
  unfold start1; rw [own_votes, votes_len]; omega
def fn27 : Fn := { a := .pair tNode .unit, r := .pair tNode (.pair (.olist tMsg) .unit), pre := fun x => 0 ≤ nBase x.1 ∧ last x.1 ≤ 4398046511104 ∧ -5 ≤ nTerm x.1 ∧ nTerm x.1 ≤ 4398046511104, f := fun x => (start1 x.1, start2 x.1, ()) }
theorem h27  : Holds Try.prog 27 (fn27) := by
  refine Holds.of_vc (T := [(91, fn91), (52, fn52), (48, fn48)]) (TT := ttL) (rowAt := []) (c := c27) (ros := [.c 2 15, .t 3]) (.cons _ h91 (.cons _ h52 (.cons _ h48 (.nil _)))) mixed Try.func27 (by decide +kernel) (by rfl) comp27 (by kernel_rfl) rfl rfl (fun h => by cases h) ?_
  rintro ⟨(n : Node), _⟩ hpre
  simp only [fn27] at hpre ⊢
  simp only [c27, fn91, fn52, fn48, go_sem, reduceIte, Nat.reduceBEq, Nat.reduceMul, reduceCtorEq, Nat.reduceAdd, Nat.reduceEqDiff, decide_eq_true_eq, decide_eq_false_iff_not, Bool.not_eq_true', Bool.not_eq_false', Bool.and_eq_true, Bool.or_eq_true, Bool.and_eq_false_iff, Bool.or_eq_false_iff, Bool.cond_true_left, Bool.cond_false_right, Bool.cond_true_right, Bool.cond_false_left, Bool.or_false, Bool.and_true, inR]
  have e0 : pr (a := tI) n.1 (pr (a := tI) n.2.1 (pr (a := tI) (n.2.2.1 + 1) (pr (a := tI) n.1 (pr (a := tI) n.2.2.2.2.1 (pr (a := tI) n.2.2.2.2.2.1 (pr (a := .str) n.2.2.2.2.2.2.1 (pr (a := .list tEntry) n.2.2.2.2.2.2.2.1 (pr (a := tI) 1 (pr (a := tI) (-1) (pr (a := tI) n.2.2.2.2.2.2.2.2.2.2.1 (pr (a := .list .bool) n.2.2.2.2.2.2.2.2.2.2.2.1 (pr (a := .list tI) n.2.2.2.2.2.2.2.2.2.2.2.2.1 (pr (a := .list tI) n.2.2.2.2.2.2.2.2.2.2.2.2.2.1 (pr (a := tI) (b := .unit) 0 ())))))))))))))) = start0 n := rfl
  simp only [e0]
  clear e0
  have es : own (start0 n) = start1 n := rfl
  simp only [es, start2]
  clear es
  have h1 := start1_last n
  have h2 := start1_base n
  have h3 := start1_votes n
  have hI : nBase (start1 n) = (start1 n).2.2.2.2.1 := rfl
  generalize start1 n = s at *
  dsimp only [den, nId, nNodes, nTerm, nVote, nBase, nBT, nSnap, nLog, nRole, nLead, nCommit, nVotes, nNext, nMatch, nClock, mKind, mFrom, mTo, mTerm, mIndex, mAt, mYes, mCommit, mEntries, mSnap, eTerm, eCmd, mkN, mkM, mkE, last, inR, sm, lastT] at *
  repeat (first | refine ⟨by omega, ?_⟩ | refine ⟨by rfl, ?_⟩ | refine ⟨fun h => h, ?_⟩ | refine ⟨fun h => ⟨h, by omega⟩, ?_⟩)
  refine loop_rule (β := Nat) (fun i => ⟨[(1, .ptr 1 0), (2, .ptr 2 0), (4, .int .i64 (last s)), (5, .int .i64 (termV s (last s))), (7, .own 49 0 (startMsgs s i).length), (31, .int .i64 (nVotes s).length), (32, .int .i64 i)],
      [(1, .box (cellsA tNode s [])), (2, .box zN), (49, .row tMsg (startMsgs s i) false)]⟩) (fun i => i ≤ (nVotes s).length) (fun i => (nVotes s).length - i) 0 ?_ ?_ ?_
  · refine Ent_of [(1, 1), (2, 2)] rfl ?_ ?_
    · simp only [go_sem, reduceIte, Nat.reduceBEq, Nat.reduceMul, reduceCtorEq, Nat.reduceAdd, Nat.reduceEqDiff, decide_eq_true_eq, decide_eq_false_iff_not, Bool.not_eq_true', Bool.not_eq_false', Bool.and_eq_true, Bool.or_eq_true, Bool.and_eq_false_iff, Bool.or_eq_false_iff, Bool.cond_true_left, Bool.cond_false_right, Bool.cond_true_right, Bool.cond_false_left, Bool.or_false, Bool.and_true]
      exact ⟨rfl, by decide⟩
    · simp only [go_sem, reduceIte, Nat.reduceBEq, Nat.reduceMul, reduceCtorEq, Nat.reduceAdd, Nat.reduceEqDiff, decide_eq_true_eq, decide_eq_false_iff_not, Bool.not_eq_true', Bool.not_eq_false', Bool.and_eq_true, Bool.or_eq_true, Bool.and_eq_false_iff, Bool.or_eq_false_iff, Bool.cond_true_left, Bool.cond_false_right, Bool.cond_true_right, Bool.cond_false_left, Bool.or_false, Bool.and_true]
      exact ⟨rfl, rfl⟩
  · exact Nat.zero_le _
  · intro i hi
    have hl := startMsgs_len s i
    have hv : (nVotes s).length ≤ 5 := h3
    simp only [go_sem, reduceIte, Nat.reduceBEq, Nat.reduceMul, reduceCtorEq, Nat.reduceAdd, Nat.reduceEqDiff, decide_eq_true_eq, decide_eq_false_iff_not, Bool.not_eq_true', Bool.not_eq_false', Bool.and_eq_true, Bool.or_eq_true, Bool.and_eq_false_iff, Bool.or_eq_false_iff, Bool.cond_true_left, Bool.cond_false_right, Bool.cond_true_right, Bool.cond_false_left, Bool.or_false, Bool.and_true, inR]
    refine ⟨fun h => ⟨fun hne => ⟨by omega, by omega, Again.intro (i + 1) (Ent_of [(1, 1), (2, 2), (49, 49)] rfl ?_ ?_) ?_ ?_⟩, fun he => ⟨by omega, Again.intro (i + 1) (Ent_of [(1, 1), (2, 2), (49, 49)] rfl ?_ ?_) ?_ ?_⟩⟩, fun h => ?_⟩
    · simp only [go_sem, reduceIte, Nat.reduceBEq, Nat.reduceMul, reduceCtorEq, Nat.reduceAdd, Nat.reduceEqDiff, decide_eq_true_eq, decide_eq_false_iff_not, Bool.not_eq_true', Bool.not_eq_false', Bool.and_eq_true, Bool.or_eq_true, Bool.and_eq_false_iff, Bool.or_eq_false_iff, Bool.cond_true_left, Bool.cond_false_right, Bool.cond_true_right, Bool.cond_false_left, Bool.or_false, Bool.and_true]
      exact startMsgs_yes s i hne
    · simp only [go_sem, reduceIte, Nat.reduceBEq, Nat.reduceMul, reduceCtorEq, Nat.reduceAdd, Nat.reduceEqDiff, decide_eq_true_eq, decide_eq_false_iff_not, Bool.not_eq_true', Bool.not_eq_false', Bool.and_eq_true, Bool.or_eq_true, Bool.and_eq_false_iff, Bool.or_eq_false_iff, Bool.cond_true_left, Bool.cond_false_right, Bool.cond_true_right, Bool.cond_false_left, Bool.or_false, Bool.and_true]
      rw [startMsgs_yes s i hne, List.length_append]
      exact ⟨rfl, by omega⟩
    · show i + 1 ≤ (nVotes s).length; omega
    · show (nVotes s).length - (i + 1) < (nVotes s).length - i; omega
    · simp only [go_sem, reduceIte, Nat.reduceBEq, Nat.reduceMul, reduceCtorEq, Nat.reduceAdd, Nat.reduceEqDiff, decide_eq_true_eq, decide_eq_false_iff_not, Bool.not_eq_true', Bool.not_eq_false', Bool.and_eq_true, Bool.or_eq_true, Bool.and_eq_false_iff, Bool.or_eq_false_iff, Bool.cond_true_left, Bool.cond_false_right, Bool.cond_true_right, Bool.cond_false_left, Bool.or_false, Bool.and_true]
      exact startMsgs_no s i he
    · simp only [go_sem, reduceIte, Nat.reduceBEq, Nat.reduceMul, reduceCtorEq, Nat.reduceAdd, Nat.reduceEqDiff, decide_eq_true_eq, decide_eq_false_iff_not, Bool.not_eq_true', Bool.not_eq_false', Bool.and_eq_true, Bool.or_eq_true, Bool.and_eq_false_iff, Bool.or_eq_false_iff, Bool.cond_true_left, Bool.cond_false_right, Bool.cond_true_right, Bool.cond_false_left, Bool.or_false, Bool.and_true]
      rw [startMsgs_no s i he]
      exact ⟨rfl, by omega⟩
    · show i + 1 ≤ (nVotes s).length; omega
    · show (nVotes s).length - (i + 1) < (nVotes s).length - i; omega
    · have : i = (nVotes s).length := by omega
      subst this
      rfl
end Go.AM

set_option maxRecDepth 100000
set_option maxHeartbeats 4000000
set_option linter.unusedSimpArgs false
namespace Go.AM
open Go.Proofs
attribute [local congr] vc_congr evOps_congr evTab_congr bind_congr condK_congr tabK_congr
theorem Ent_fz {σ σ' : St} (ks : List Nat) (m : List (Nat × Nat)) (hm : inj2 m = true) (hh : EntH m (frzH σ.heap ks) σ'.heap σ'.heap) (he : EntE m (frzH σ.heap ks) σ'.heap σ.env σ'.env) : Ent σ σ' :=
  Ent.trans (Ent_frz σ ks) (Ent_of m hm hh he)
def mkK (v : Int) : Int := v % 1073741824
def madeStep (n : Node) (v : Int) : Node :=
  if mkK v % 12 = 0 ∨ mkK v % 12 = 1 then mkN (nId n) (nNodes n) (nTerm n + 1) (mkK v / 12 % (nNodes n + 1) - 1) (nBase n) (nBT n) (nSnap n) (nLog n) (nRole n) (nLead n) (nCommit n) (nVotes n) (nNext n) (nMatch n) (nClock n)
  else if mkK v % 12 = 2 then mkN (nId n) (nNodes n) (nTerm n) (nVote n) (nBase n) (nBT n) (nSnap n) (nLog n) (nRole n) (nLead n) (min (nCommit n + mkK v / 12 % 5) (last n)) (nVotes n) (nNext n) (nMatch n) (nClock n)
  else if mkK v % 12 = 3 then cutN n (nBase n + mkK v / 12 % 4) (digits (mkK v / 12))
  else if mkK v % 12 = 4 then mkN (nId n) (nNodes n) (nTerm n) (nVote n) (nBase n) (nBT n) (nSnap n) (nLog n) (mkK v / 12 % 3) (mkK v / 36 % (nNodes n + 1) - 1) (nCommit n) ((nVotes n).set (mkK v / 200 % nNodes n).toNat true) (nNext n) (nMatch n) (nClock n)
  else if mkK v % 12 = 5 then mkN (nId n) (nNodes n) (nTerm n) (nVote n) (nBase n) (nBT n) (nSnap n) (nLog n) (nRole n) (nLead n) (nCommit n) (nVotes n) ((nNext n).set (mkK v / 12 % nNodes n).toNat (1 + mkK v / 60 % (last n + 2))) ((nMatch n).set (mkK v / 12 % nNodes n).toNat (mkK v / 600 % (last n + 1))) (nClock n)
  else if mkK v % 12 = 6 then mkN (nId n) (nNodes n) (nTerm n) (nVote n) (nBase n) (nBT n) (nSnap n) (nLog n) (nRole n) (nLead n) (nCommit n) (nVotes n) (nNext n) (nMatch n) (mkK v / 12 % 30)
  else mkN (nId n) (nNodes n) (nTerm n) (nVote n) (nBase n) (nBT n) (nSnap n) (nLog n ++ [mkE (nTerm n) (digits (mkK v / 12 % 1000))]) (nRole n) (nLead n) (nCommit n) (nVotes n) (nNext n) (nMatch n) (nClock n)
def made (l : List Int) (id nodes : Int) : Node := (l.take 40).foldl madeStep (newN id nodes)
end Go.AM

set_option maxRecDepth 100000
set_option maxHeartbeats 4000000
set_option linter.unusedSimpArgs false
namespace Go.AM
open Go.Proofs
attribute [local congr] vc_congr evOps_congr evTab_congr bind_congr condK_congr tabK_congr
def preS (xs : List Int) : Prop := xs.length * 8 ≤ 140737488351232 ∧ ∀ n ∈ xs, InR .i64 n
theorem down_nodes (n : Node) (t : Int) : nNodes (down n t) = nNodes n := by unfold down; split <;> rfl
end Go.AM
