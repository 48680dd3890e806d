import Derived.Test.YtbcbgfkojmligaaHT
import Derived.KernelRfl
import Derived.Test.YtbcbgfkojmligaaProg
/- What functions of the program answer, each under the conditions that its contract names. -/
set_option linter.unusedVariables false
set_option linter.unusedSimpArgs false
set_option maxRecDepth 100000
namespace Go.AM
def c68_31 : C := (.seq (.reg [⟨(some 31), (.load 15 true), [.t 1], none⟩,
  ⟨(some 32), (.call 112), [.t 31, .c (.str ⟨#[]⟩)], none⟩,
  ⟨(some 33), (.ext 0), [.t 32], none⟩,
  ⟨(some 34), (.ext 1), [.t 32], none⟩,
  ⟨none, (.store 15), [.t 2, .t 33], none⟩,
  ⟨(some 3), .mv, [.t 34], none⟩])
 .ret)
def c68 : C := (.seq (.reg [⟨(some 1), .box, [.t 0], none⟩,
  ⟨(some 2), (.alloc [.int .i64 0, .int .i64 0, .int .i64 0, .int .i64 0, .int .i64 0, .int .i64 0, .str ⟨#[]⟩, .sl tEntry [] true, .int .i64 0, .int .i64 0, .int .i64 0, .sl .bool [] true, .sl tI [] true, .sl tI [] true, .int .i64 0]), [], none⟩,
  ⟨(some 3), .mv, [.c (.sl tMsg [] true)], none⟩])
 (.seq (.reg [⟨(some 5), (.fld 0), [.t 1], none⟩,
  ⟨(some 6), (.load 1 false), [.t 5], none⟩,
  ⟨(some 7), (.fld 8), [.t 1], none⟩,
  ⟨none, (.store 1), [.t 7, .c (.int .i64 2)], none⟩,
  ⟨(some 8), (.fld 9), [.t 1], none⟩,
  ⟨none, (.store 1), [.t 8, .t 6], none⟩,
  ⟨(some 9), (.fld 14), [.t 1], none⟩,
  ⟨none, (.store 1), [.t 9, .c (.int .i64 0)], none⟩])
 (.seq (.regd [⟨(some 10), (.fld 1), [.t 1], none⟩,
  ⟨(some 11), (.load 1 false), [.t 10], none⟩,
  ⟨(some 12), (.mks tI 8), [.t 11, .t 11], none⟩,
  ⟨(some 13), (.fld 1), [.t 1], none⟩,
  ⟨(some 14), (.load 1 false), [.t 13], none⟩,
  ⟨(some 15), (.mks tI 8), [.t 14, .t 14], none⟩,
  ⟨(some 16), (.fld 12), [.t 1], none⟩,
  ⟨none, (.store 1), [.t 16, .t 12], none⟩,
  ⟨(some 17), (.fld 13), [.t 1], none⟩,
  ⟨none, (.store 1), [.t 17, .t 15], none⟩] [0, 1, 2, 0, 8, 16, 31, 95, 255, 511])
 (.seq (.seq (.reg [⟨(some 4), .mv, [.c (.int .i64 0)], none⟩])
 (.block 0 (.loop (.seq (.seq (.reg [⟨(some 18), .mv, [.t 4], none⟩,
  ⟨(some 19), (.fld 1), [.t 1], none⟩,
  ⟨(some 20), (.load 1 false), [.t 19], none⟩,
  ⟨(some 21), (.bin .lss), [.t 18, .t 20], none⟩])
 (.cond (.t 21) .skip (.exit 0)))
 (.seq (.block 1 (.regd [⟨(some 24), (.fld 12), [.t 1], none⟩,
  ⟨(some 25), (.load 1 false), [.t 24], none⟩,
  ⟨(some 26), .mv, [.t 4], none⟩,
  ⟨(some 27), (.load 15 true), [.t 1], none⟩,
  ⟨(some 28), (.call 30), [.t 27], none⟩,
  ⟨(some 29), (.bin .add), [.t 28, .c (.int .i64 1)], none⟩,
  ⟨(some 30), (.idx 1), [.t 25, .t 26], none⟩,
  ⟨none, (.store 1), [.t 30, .t 29], none⟩] [0, 1, 0, 0, 8, 16, 63, 127]))
 (.reg [⟨(some 22), .mv, [.t 4], none⟩,
  ⟨(some 23), (.bin .add), [.t 22, .c (.int .i64 1)], none⟩,
  ⟨(some 4), .mv, [.t 23], none⟩]))))))
 (.cut c68_31)))))
theorem comp68 : compC Go.Proofs.Try.prog ttL 35 [] (match Go.Proofs.Try.f68.body with | some b => b | none => .skip) = some (erase c68) := by kernel_rfl
def c71 : C := (.seq (.reg [⟨(some 2), .box, [.t 0], none⟩,
  ⟨(some 4), (.alloc [.int .i64 0, .int .i64 0, .int .i64 0, .int .i64 0, .int .i64 0, .int .i64 0, .bool false, .int .i64 0, .sl tEntry [] true, .str ⟨#[]⟩]), [], none⟩])
 (.seq (.reg [⟨(some 9), (.fld 12), [.t 2], none⟩,
  ⟨(some 10), (.load 1 false), [.t 9], none⟩,
  ⟨(some 11), .mv, [.t 1], none⟩,
  ⟨(some 12), (.idx 1), [.t 10, .t 11], none⟩,
  ⟨(some 13), (.load 1 false), [.t 12], none⟩,
  ⟨(some 14), (.bin .sub), [.t 13, .c (.int .i64 1)], none⟩,
  ⟨(some 5), .mv, [.t 14], none⟩])
 (.seq (.seq (.reg [⟨(some 15), .mv, [.t 5], none⟩,
  ⟨(some 16), (.fld 4), [.t 2], none⟩,
  ⟨(some 17), (.load 1 false), [.t 16], none⟩,
  ⟨(some 18), (.bin .lss), [.t 15, .t 17], none⟩])
 (.cond (.t 18) (.seq (.reg [⟨(some 19), (.fld 0), [.t 2], none⟩,
  ⟨(some 20), (.load 1 false), [.t 19], none⟩,
  ⟨(some 21), .mv, [.t 1], none⟩,
  ⟨(some 22), (.fld 2), [.t 2], none⟩,
  ⟨(some 23), (.load 1 false), [.t 22], none⟩,
  ⟨(some 24), (.fld 4), [.t 2], none⟩,
  ⟨(some 25), (.load 1 false), [.t 24], none⟩,
  ⟨(some 26), (.fld 5), [.t 2], none⟩,
  ⟨(some 27), (.load 1 false), [.t 26], none⟩,
  ⟨(some 28), (.fld 6), [.t 2], none⟩,
  ⟨(some 29), (.load 1 false), [.t 28], none⟩,
  ⟨(some 30), (.build [.int .i64 0, .int .i64 0, .int .i64 0, .int .i64 0, .int .i64 0, .int .i64 0, .bool false, .int .i64 0, .sl tEntry [] true, .str ⟨#[]⟩] [(0, 1), (1, 1), (2, 1), (3, 1), (4, 1), (5, 1), (9, 1)]), [.c (.int .i64 5), .t 20, .t 21, .t 23, .t 25, .t 27, .t 29], none⟩,
  ⟨none, (.store 10), [.t 4, .t 30], none⟩])
 .ret) .skip))
 (.seq (.reg [⟨(some 32), (.load 15 true), [.t 2], none⟩,
  ⟨(some 33), .mv, [.t 5], none⟩,
  ⟨(some 34), (.call 29), [.t 32, .t 33], none⟩,
  ⟨(some 31), .mv, [.t 34], none⟩,
  ⟨(some 35), (.ext 0), [.t 31], none⟩,
  ⟨(some 36), (.ext 1), [.t 31], none⟩,
  ⟨(some 6), .mv, [.t 35], none⟩,
  ⟨(some 7), .mv, [.t 36], none⟩])
 (.seq (.reg [⟨(some 37), (.load 15 true), [.t 2], none⟩,
  ⟨(some 38), .mv, [.t 5], none⟩,
  ⟨(some 39), (.call 60), [.t 37, .t 38], none⟩,
  ⟨(some 8), .mv, [.t 39], none⟩])
 (.seq (.regd [⟨(some 40), (.fld 0), [.t 2], none⟩,
  ⟨(some 41), (.load 1 false), [.t 40], none⟩,
  ⟨(some 42), .mv, [.t 1], none⟩,
  ⟨(some 43), (.fld 2), [.t 2], none⟩,
  ⟨(some 44), (.load 1 false), [.t 43], none⟩,
  ⟨(some 45), .mv, [.t 5], none⟩,
  ⟨(some 46), .mv, [.t 6], none⟩,
  ⟨(some 47), .mv, [.t 8], none⟩,
  ⟨(some 48), .mv, [.t 8], none⟩,
  ⟨(some 49), .len, [.t 48], none⟩,
  ⟨(some 50), .mn, [.t 49, .c (.int .i64 20)], none⟩,
  ⟨(some 51), (.slc 2 false true false), [.t 47, .t 50], none⟩,
  ⟨(some 52), (.fld 10), [.t 2], none⟩,
  ⟨(some 53), (.load 1 false), [.t 52], none⟩,
  ⟨(some 54), (.build [.int .i64 0, .int .i64 0, .int .i64 0, .int .i64 0, .int .i64 0, .int .i64 0, .bool false, .int .i64 0, .sl tEntry [] true, .str ⟨#[]⟩] [(0, 1), (1, 1), (2, 1), (3, 1), (4, 1), (5, 1), (8, 1), (7, 1)]), [.c (.int .i64 3), .t 41, .t 42, .t 44, .t 45, .t 46, .t 51, .t 53], none⟩,
  ⟨none, (.store 10), [.t 4, .t 54], none⟩] [0, 1, 0, 0, 8, 0, 0, 0, 0, 256, 512, 1152, 0, 4096, 10358, 32767])
 .ret))))))
theorem comp71 : compC Go.Proofs.Try.prog ttL 55 [] (match Go.Proofs.Try.f71.body with | some b => b | none => .skip) = some (c71) := by kernel_rfl
def c72 : C := (.seq (.reg [⟨(some 1), .box, [.t 0], none⟩,
  ⟨(some 2), (.alloc [.int .i64 0, .int .i64 0, .int .i64 0, .int .i64 0, .int .i64 0, .int .i64 0, .str ⟨#[]⟩, .sl tEntry [] true, .int .i64 0, .int .i64 0, .int .i64 0, .sl .bool [] true, .sl tI [] true, .sl tI [] true, .int .i64 0]), [], none⟩])
 (.seq (.seq (.reg [⟨(some 8), (.fld 8), [.t 1], none⟩,
  ⟨(some 9), (.load 1 false), [.t 8], none⟩,
  ⟨(some 10), (.bin .neq), [.t 9, .c (.int .i64 2)], none⟩])
 (.cond (.t 10) (.seq (.reg [⟨(some 11), (.load 15 true), [.t 1], none⟩,
  ⟨none, (.store 15), [.t 2, .t 11], none⟩])
 .ret) .skip))
 (.seq (.seq (.reg [⟨(some 12), (.load 15 true), [.t 1], none⟩,
  ⟨(some 13), (.call 30), [.t 12], none⟩,
  ⟨(some 3), .mv, [.t 13], none⟩])
 (.block 0 (.loop (.seq (.seq (.reg [⟨(some 14), .mv, [.t 3], none⟩,
  ⟨(some 15), (.fld 10), [.t 1], none⟩,
  ⟨(some 16), (.load 1 false), [.t 15], none⟩,
  ⟨(some 17), (.bin .gtr), [.t 14, .t 16], none⟩])
 (.cond (.t 17) .skip (.exit 0)))
 (.seq (.block 1 (.seq (.reg [⟨(some 21), (.load 15 true), [.t 1], none⟩,
  ⟨(some 22), .mv, [.t 3], none⟩,
  ⟨(some 23), (.call 29), [.t 21, .t 22], none⟩,
  ⟨(some 20), .mv, [.t 23], none⟩,
  ⟨(some 24), (.ext 0), [.t 20], none⟩,
  ⟨(some 25), (.ext 1), [.t 20], none⟩,
  ⟨(some 4), .mv, [.t 24], none⟩,
  ⟨(some 5), .mv, [.t 25], none⟩])
 (.seq (.reg [⟨(some 6), .mv, [.c (.int .i64 0)], none⟩])
 (.seq (.seq (.reg [⟨(some 7), .mv, [.c (.int .i64 0)], none⟩])
 (.block 2 (.loop (.seq (.seq (.reg [⟨(some 26), .mv, [.t 7], none⟩,
  ⟨(some 27), (.fld 1), [.t 1], none⟩,
  ⟨(some 28), (.load 1 false), [.t 27], none⟩,
  ⟨(some 29), (.bin .lss), [.t 26, .t 28], none⟩])
 (.cond (.t 29) .skip (.exit 2)))
 (.seq (.block 3 (.seq (.reg [⟨(some 32), (.fld 13), [.t 1], none⟩,
  ⟨(some 33), (.load 1 false), [.t 32], none⟩,
  ⟨(some 34), .mv, [.t 7], none⟩,
  ⟨(some 35), (.idx 1), [.t 33, .t 34], none⟩,
  ⟨(some 36), (.load 1 false), [.t 35], none⟩,
  ⟨(some 37), .mv, [.t 3], none⟩,
  ⟨(some 38), (.bin .geq), [.t 36, .t 37], none⟩])
 (.cond (.t 38) (.reg [⟨(some 39), .mv, [.t 6], none⟩,
  ⟨(some 40), (.bin .add), [.t 39, .c (.int .i64 1)], none⟩,
  ⟨(some 6), .mv, [.t 40], none⟩]) .skip)))
 (.reg [⟨(some 30), .mv, [.t 7], none⟩,
  ⟨(some 31), (.bin .add), [.t 30, .c (.int .i64 1)], none⟩,
  ⟨(some 7), .mv, [.t 31], none⟩]))))))
 (.seq (.reg [⟨(some 41), .mv, [.t 4], none⟩,
  ⟨(some 42), (.fld 2), [.t 1], none⟩,
  ⟨(some 43), (.load 1 false), [.t 42], none⟩,
  ⟨(some 44), (.bin .eql), [.t 41, .t 43], none⟩,
  ⟨(some 45), .mv, [.t 44], none⟩,
  ⟨(some 46), .mv, [.t 6], (some (45, true))⟩,
  ⟨(some 47), (.load 15 true), [.t 1], (some (45, true))⟩,
  ⟨(some 48), (.call 45), [.t 47], (some (45, true))⟩,
  ⟨(some 49), (.bin .geq), [.t 46, .t 48], (some (45, true))⟩,
  ⟨(some 50), .pick, [.t 45, .t 49, .c (.bool false)], none⟩])
 (.cond (.t 50) (.seq (.reg [⟨(some 51), .mv, [.t 3], none⟩,
  ⟨(some 52), (.fld 10), [.t 1], none⟩,
  ⟨none, (.store 1), [.t 52, .t 51], none⟩])
 (.exit 0)) .skip))))))
 (.reg [⟨(some 18), .mv, [.t 3], none⟩,
  ⟨(some 19), (.bin .sub), [.t 18, .c (.int .i64 1)], none⟩,
  ⟨(some 3), .mv, [.t 19], none⟩]))))))
 (.seq (.reg [⟨(some 53), (.load 15 true), [.t 1], none⟩,
  ⟨none, (.store 15), [.t 2, .t 53], none⟩])
 .ret))))
theorem comp72 : compC Go.Proofs.Try.prog ttL 54 [] (match Go.Proofs.Try.f72.body with | some b => b | none => .skip) = some (c72) := by kernel_rfl
def c112 : C := (.seq (.reg [⟨(some 2), .box, [.t 0], none⟩,
  ⟨(some 4), (.alloc [.int .i64 0, .int .i64 0, .int .i64 0, .int .i64 0, .int .i64 0, .int .i64 0, .str ⟨#[]⟩, .sl tEntry [] true, .int .i64 0, .int .i64 0, .int .i64 0, .sl .bool [] true, .sl tI [] true, .sl tI [] true, .int .i64 0]), [], none⟩,
  ⟨(some 5), .mv, [.c (.sl tMsg [] true)], none⟩])
 (.seq (.reg [⟨(some 6), (.load 15 true), [.t 2], none⟩,
  ⟨(some 7), .mv, [.t 1], none⟩,
  ⟨(some 8), (.call 127), [.t 6, .t 7], none⟩,
  ⟨none, (.store 15), [.t 2, .t 8], none⟩])
 (.seq (.regd [⟨(some 9), (.load 15 true), [.t 2], none⟩,
  ⟨(some 10), (.load 15 true), [.t 2], none⟩,
  ⟨(some 11), (.call 118), [.t 10], none⟩,
  ⟨none, (.store 15), [.t 4, .t 9], none⟩,
  ⟨(some 5), .mv, [.t 11], none⟩] [0, 0, 2, 5, 15])
 .ret)))
theorem comp112 : compC Go.Proofs.Try.prog ttL 12 [] (match Go.Proofs.Try.f112.body with | some b => b | none => .skip) = some (c112) := by kernel_rfl
def c114 : C := (.seq (.reg [⟨(some 4), .box, [.t 0], none⟩,
  ⟨(some 8), .mv, [.c (.sl tMsg [] true)], none⟩])
 (.seq (.reg [⟨(some 9), (.fld 0), [.t 4], none⟩,
  ⟨(some 10), (.load 1 false), [.t 9], none⟩,
  ⟨(some 11), .mv, [.t 1], none⟩,
  ⟨(some 12), (.fld 2), [.t 4], none⟩,
  ⟨(some 13), (.load 1 false), [.t 12], none⟩,
  ⟨(some 14), .mv, [.t 2], none⟩,
  ⟨(some 15), .mv, [.t 3], none⟩,
  ⟨(some 16), (.build [.int .i64 0, .int .i64 0, .int .i64 0, .int .i64 0, .int .i64 0, .int .i64 0, .bool false, .int .i64 0, .sl tEntry [] true, .str ⟨#[]⟩] [(0, 1), (1, 1), (2, 1), (3, 1), (6, 1), (4, 1)]), [.c (.int .i64 4), .t 10, .t 11, .t 13, .t 14, .t 15], none⟩,
  ⟨(some 17), (.bslice tMsg 1), [.t 16], none⟩,
  ⟨(some 8), .mv, [.t 17], none⟩])
 .ret))
theorem comp114 : compC Go.Proofs.Try.prog ttL 18 [] (match Go.Proofs.Try.f114.body with | some b => b | none => .skip) = some (c114) := by kernel_rfl
def c118 : C := (.seq (.reg [⟨(some 1), .box, [.t 0], none⟩,
  ⟨(some 2), .mv, [.c (.sl tMsg [] true)], none⟩])
 (.seq (.reg [⟨(some 3), .mv, [.c (.sl tMsg [] true)], none⟩])
 (.seq (.seq (.reg [⟨(some 4), .mv, [.c (.int .i64 0)], none⟩])
 (.block 0 (.loop (.seq (.seq (.reg [⟨(some 5), .mv, [.t 4], none⟩,
  ⟨(some 6), (.fld 1), [.t 1], none⟩,
  ⟨(some 7), (.load 1 false), [.t 6], none⟩,
  ⟨(some 8), (.bin .lss), [.t 5, .t 7], none⟩])
 (.cond (.t 8) .skip (.exit 0)))
 (.seq (.block 1 (.seq (.reg [⟨(some 11), .mv, [.t 4], none⟩,
  ⟨(some 12), (.fld 0), [.t 1], none⟩,
  ⟨(some 13), (.load 1 false), [.t 12], none⟩,
  ⟨(some 14), (.bin .neq), [.t 11, .t 13], none⟩])
 (.cond (.t 14) (.reg [⟨(some 15), .mv, [.t 3], none⟩,
  ⟨(some 16), (.load 15 true), [.t 1], none⟩,
  ⟨(some 17), .mv, [.t 4], none⟩,
  ⟨(some 18), (.call 71), [.t 16, .t 17], none⟩,
  ⟨(some 19), (.bslice tMsg 1), [.t 18], none⟩,
  ⟨(some 20), (.app 10 104), [.t 15, .t 19], none⟩,
  ⟨(some 3), .mv, [.t 20], none⟩]) .skip)))
 (.reg [⟨(some 9), .mv, [.t 4], none⟩,
  ⟨(some 10), (.bin .add), [.t 9, .c (.int .i64 1)], none⟩,
  ⟨(some 4), .mv, [.t 10], none⟩]))))))
 (.seq (.reg [⟨(some 21), .mv, [.t 3], none⟩,
  ⟨(some 2), .mv, [.t 21], none⟩])
 .ret))))
theorem comp118 : compC Go.Proofs.Try.prog ttL 22 [] (match Go.Proofs.Try.f118.body with | some b => b | none => .skip) = some (c118) := by kernel_rfl
def c127 : C := (.seq (.reg [⟨(some 2), .box, [.t 0], none⟩,
  ⟨(some 4), (.alloc [.int .i64 0, .int .i64 0, .int .i64 0, .int .i64 0, .int .i64 0, .int .i64 0, .str ⟨#[]⟩, .sl tEntry [] true, .int .i64 0, .int .i64 0, .int .i64 0, .sl .bool [] true, .sl tI [] true, .sl tI [] true, .int .i64 0]), [], none⟩])
 (.seq (.regd [⟨(some 5), (.fld 7), [.t 2], none⟩,
  ⟨(some 6), (.load 1 false), [.t 5], none⟩,
  ⟨(some 7), (.app 2 24), [.c (.sl tEntry [] true), .t 6], none⟩,
  ⟨(some 8), (.fld 2), [.t 2], none⟩,
  ⟨(some 9), (.load 1 false), [.t 8], none⟩,
  ⟨(some 10), .mv, [.t 1], none⟩,
  ⟨(some 11), (.build [.int .i64 0, .str ⟨#[]⟩] [(0, 1), (1, 1)]), [.t 9, .t 10], none⟩,
  ⟨(some 12), (.bslice tEntry 1), [.t 11], none⟩,
  ⟨(some 13), (.app 2 24), [.t 7, .t 12], none⟩,
  ⟨(some 14), (.fld 7), [.t 2], none⟩,
  ⟨none, (.store 1), [.t 14, .t 13], none⟩] [0, 1, 2, 0, 8, 0, 48, 64, 132, 511, 1023])
 (.seq (.reg [⟨(some 15), (.fld 13), [.t 2], none⟩,
  ⟨(some 16), (.load 1 false), [.t 15], none⟩,
  ⟨(some 17), (.app 1 8), [.c (.sl tI [] true), .t 16], none⟩,
  ⟨(some 18), (.fld 13), [.t 2], none⟩,
  ⟨none, (.store 1), [.t 18, .t 17], none⟩])
 (.seq (.regd [⟨(some 19), (.fld 13), [.t 2], none⟩,
  ⟨(some 20), (.load 1 false), [.t 19], none⟩,
  ⟨(some 21), (.fld 0), [.t 2], none⟩,
  ⟨(some 22), (.load 1 false), [.t 21], none⟩,
  ⟨(some 23), (.load 15 true), [.t 2], none⟩,
  ⟨(some 24), (.call 30), [.t 23], none⟩,
  ⟨(some 25), (.idx 1), [.t 20, .t 22], none⟩,
  ⟨none, (.store 1), [.t 25, .t 24], none⟩] [0, 1, 0, 4, 0, 16, 63, 127])
 (.seq (.reg [⟨(some 26), (.load 15 true), [.t 2], none⟩,
  ⟨(some 27), (.call 72), [.t 26], none⟩,
  ⟨none, (.store 15), [.t 4, .t 27], none⟩])
 .ret)))))
theorem comp127 : compC Go.Proofs.Try.prog ttL 28 [] (match Go.Proofs.Try.f127.body with | some b => b | none => .skip) = some (c127) := by kernel_rfl
end Go.AM
set_option maxRecDepth 100000
set_option maxHeartbeats 8000000
set_option linter.unusedSimpArgs false
namespace Go.AM
open Go.Proofs
attribute [local congr] vc_congr evOps_congr evTab_congr bind_congr condK_congr tabK_congr
def takenTo (n : Node) (to : Int) (yes : Bool) (index : Int) : List Msg := [mkM 4 (nId n) to (nTerm n) index 0 yes 0 [] noB]
def fn114 : Fn := { a := .pair tNode (.pair tI (.pair .bool (.pair tI .unit))), r := .pair (.list tMsg) .unit, pre := fun _ => True, f := fun x => (takenTo x.1 x.2.1 x.2.2.1 x.2.2.2.1, ()) }
theorem h114  : Holds Try.prog 114 (fn114) := by
  refine Holds.of_vc (T := []) (TT := ttL) (rowAt := []) (c := c114) (ros := [.t 8]) (.nil _) mixed Try.func114 (by decide +kernel) (by rfl) comp114 (by kernel_rfl) rfl rfl (fun h => by cases h) ?_
  rintro ⟨(n : Node), (to : Int), (yes : Bool), (index : Int), _⟩ hpre
  simp only [fn114] at hpre ⊢
  simp only [c114, go_sem, reduceIte, Nat.reduceBEq, Nat.reduceMul, reduceCtorEq, Nat.reduceAdd, Nat.reduceEqDiff, decide_eq_true_eq, decide_eq_false_iff_not, Bool.not_eq_true', Bool.not_eq_false', Bool.and_eq_true, Bool.or_eq_true, Bool.and_eq_false_iff, Bool.or_eq_false_iff, Bool.cond_true_left, Bool.cond_false_right, Bool.cond_true_right, Bool.cond_false_left, Bool.or_false, Bool.and_true, inR]
  rfl
/-- a node as the reference takes it -/
def wfR (n : Node) : Prop := rgN n ∧ 1 ≤ nNodes n ∧ nNodes n ≤ 5 ∧ 0 ≤ nId n ∧ nId n < nNodes n ∧ (nNext n).length = (nNodes n).toNat ∧ (nMatch n).length = (nNodes n).toNat
def fn71 : Fn := { a := .pair tNode (.pair tI .unit), r := .pair tMsg .unit, pre := fun x => rgN x.1 ∧ nextOk x.1 x.2.1 ∧ 0 ≤ x.2.1 ∧ x.2.1 < ((nNext x.1).length : Int), f := fun x => (sendM x.1 x.2.1, ()) }
theorem h71  : Holds Try.prog 71 (fn71) := by
  refine Holds.of_vc (T := [(29, fn29), (60, fn60)]) (TT := ttL) (rowAt := []) (c := c71) (ros := [.c 4 10]) (.cons _ h29 (.cons _ h60 (.nil _))) mixed Try.func71 (by decide +kernel) (by rfl) comp71 (by kernel_rfl) rfl rfl (fun h => by cases h) ?_
  rintro ⟨(n : Node), (to : Int), _⟩ hpre
  simp only [fn71] at hpre ⊢
  simp only [c71, fn29, fn60, go_sem, reduceIte, Nat.reduceBEq, Nat.reduceMul, reduceCtorEq, Nat.reduceAdd, Nat.reduceEqDiff, decide_eq_true_eq, decide_eq_false_iff_not, Bool.not_eq_true', Bool.not_eq_false', Bool.and_eq_true, Bool.or_eq_true, Bool.and_eq_false_iff, Bool.or_eq_false_iff, Bool.cond_true_left, Bool.cond_false_right, Bool.cond_true_right, Bool.cond_false_left, Bool.or_false, Bool.and_true, inR, fn48]
  simp only [rgN, nextOk, sm] at hpre
  have hto : 0 ≤ to ∧ to < ((nNext n).length : Int) := hpre.2.2
  have hz : atL (nNext n) to = (nNext n).getD to.toNat (dflt tI) := if_neg (by omega)
  have hnk : -4398046511104 ≤ atL (nNext n) to ∧ atL (nNext n) to ≤ 4398046511104 := hpre.2.1
  unfold sendM
  rw [← hz]
  have h1 : -4398046511105 ≤ atL (nNext n) to - 1 ∧ atL (nNext n) to - 1 ≤ 4398046511104 := by omega
  generalize (atL (nNext n) to - 1 : Int) = z at *
  have hl : last n = nBase n + (nLog n).length := rfl
  have hBs : nBase n = n.2.2.2.2.1 := rfl
  have hxl : (nNext n).length = n.2.2.2.2.2.2.2.2.2.2.2.2.1.length := rfl
  have ht : List.take (min ((behindN n z).length : Int) 20).toNat (behindN n z) = List.take 20 (behindN n z) := by
    rcases Nat.lt_or_ge (behindN n z).length 20 with h | h
    · rw [List.take_of_length_le (by omega), List.take_of_length_le (by omega)]
    · rw [show (min ((behindN n z).length : Int) 20).toNat = 20 by omega]
  have hB : (behindN n z).length ≤ (nLog n).length := by unfold behindN; rw [List.length_drop]; omega
  have hs0 : smallL (nLog n) := by rw [sm]; omega
  refine ⟨by omega, by omega, fun h => (if_pos h).symm, fun h => ⟨⟨by omega, by omega, by omega⟩, ⟨by omega, by omega, hs0⟩, by omega, by rfl, ?_⟩⟩
  rw [Nat.sub_zero, ht]
  exact (if_neg h).symm
def fn72 : Fn := { a := .pair tNode .unit, r := .pair tNode .unit, pre := fun x => wfR x.1, f := fun x => (adv x.1, ()) }
theorem h72  : Holds Try.prog 72 (fn72) := by
  refine Holds.of_vc (T := [(30, fn30), (29, fn29), (45, fn45)]) (TT := ttL) (rowAt := []) (c := c72) (ros := [.c 2 15]) (.cons _ h30 (.cons _ h29 (.cons _ h45 (.nil _)))) mixed Try.func72 (by decide +kernel) (by rfl) comp72 (by kernel_rfl) rfl rfl (fun h => by cases h) ?_
  rintro ⟨(n : Node), _⟩ hpre
  simp only [fn72] at hpre ⊢
  simp only [c72, fn30, fn29, fn45, go_sem, reduceIte, Nat.reduceBEq, Nat.reduceMul, reduceCtorEq, Nat.reduceAdd, Nat.reduceEqDiff, decide_eq_true_eq, decide_eq_false_iff_not, Bool.not_eq_true', Bool.not_eq_false', Bool.and_eq_true, Bool.or_eq_true, Bool.and_eq_false_iff, Bool.or_eq_false_iff, Bool.cond_true_left, Bool.cond_false_right, Bool.cond_true_right, Bool.cond_false_left, Bool.or_false, Bool.and_true, inR, fn48, fn44]
  refine ⟨fun h => (if_neg h).symm, fun hr => ?_⟩
  have hadv : adv n = setCommit n (advC n (last n - nCommit n).toNat) := if_pos hr
  rw [hadv]
  clear hadv
  simp only [wfR, rgN, sm] at hpre
  refine ⟨by dsimp only [den, nId, nNodes, nTerm, nVote, nBase, nBT, nSnap, nLog, nRole, nLead, nCommit, nVotes, nNext, nMatch, nClock, mKind, mFrom, mTo, mTerm, mIndex, mAt, mYes, mCommit, mEntries, mSnap, eTerm, eCmd, mkN, mkM, mkE, last, inR, sm, lastT] at *; omega, ?_⟩
  refine loop_rule (β := Int) (fun i => ⟨[(1, .ptr 1 0), (2, .ptr 2 0), (3, .int .i64 i)], [(1, .box (cellsA tNode n [])), (2, .box zN)]⟩)
    (fun i => i ≤ last n ∧ (nCommit n ≤ i ∨ i = last n) ∧ advC n (last n - nCommit n).toNat = advC n (i - nCommit n).toNat) (fun i => (i - nCommit n).toNat) (last n) ?_ ?_ ?_
  · refine Ent_of [(1, 1), (2, 2)] rfl ?_ ?_
    · simp only [go_sem, reduceIte, Nat.reduceBEq, Nat.reduceMul, reduceCtorEq, Nat.reduceAdd, Nat.reduceEqDiff, decide_eq_true_eq, decide_eq_false_iff_not, Bool.not_eq_true', Bool.not_eq_false', Bool.and_eq_true, Bool.or_eq_true, Bool.and_eq_false_iff, Bool.or_eq_false_iff, Bool.cond_true_left, Bool.cond_false_right, Bool.cond_true_right, Bool.cond_false_left, Bool.or_false, Bool.and_true]
    · simp only [go_sem, reduceIte, Nat.reduceBEq, Nat.reduceMul, reduceCtorEq, Nat.reduceAdd, Nat.reduceEqDiff, decide_eq_true_eq, decide_eq_false_iff_not, Bool.not_eq_true', Bool.not_eq_false', Bool.and_eq_true, Bool.or_eq_true, Bool.and_eq_false_iff, Bool.or_eq_false_iff, Bool.cond_true_left, Bool.cond_false_right, Bool.cond_true_right, Bool.cond_false_left, Bool.or_false, Bool.and_true]
  · exact ⟨Int.le_refl _, .inr rfl, rfl⟩
  rintro i ⟨hi, hci, hk⟩
  simp only [go_sem, reduceIte, Nat.reduceBEq, Nat.reduceMul, reduceCtorEq, Nat.reduceAdd, Nat.reduceEqDiff, decide_eq_true_eq, decide_eq_false_iff_not, Bool.not_eq_true', Bool.not_eq_false', Bool.and_eq_true, Bool.or_eq_true, Bool.and_eq_false_iff, Bool.or_eq_false_iff, Bool.cond_true_left, Bool.cond_false_right, Bool.cond_true_right, Bool.cond_false_left, Bool.or_false, Bool.and_true, inR]
  have hC : nCommit n = n.2.2.2.2.2.2.2.2.2.2.1 := rfl
  have hBs : nBase n = n.2.2.2.2.1 := rfl
  have hNo : nNodes n = n.2.1 := rfl
  have hml : (nMatch n).length = n.2.2.2.2.2.2.2.2.2.2.2.2.2.1.length := rfl
  refine ⟨fun h => ⟨⟨by omega, by omega, by omega⟩, ?_⟩, fun h => ?_⟩
  · refine loop_rule (β := Nat) (fun j => ⟨[(1, .ptr 1 0), (2, .ptr 2 0), (3, .int .i64 i), (4, .int .i64 (termV n i)), (6, .int .i64 (cntGe (nMatch n) i j)), (7, .int .i64 j)], [(1, .box (cellsA tNode n [])), (2, .box zN)]⟩)
      (fun j => j ≤ (nMatch n).length) (fun j => (nMatch n).length - j) 0 ?_ ?_ ?_
    · refine Ent_of [(1, 1), (2, 2)] rfl ?_ ?_
      · simp only [go_sem, reduceIte, Nat.reduceBEq, Nat.reduceMul, reduceCtorEq, Nat.reduceAdd, Nat.reduceEqDiff, decide_eq_true_eq, decide_eq_false_iff_not, Bool.not_eq_true', Bool.not_eq_false', Bool.and_eq_true, Bool.or_eq_true, Bool.and_eq_false_iff, Bool.or_eq_false_iff, Bool.cond_true_left, Bool.cond_false_right, Bool.cond_true_right, Bool.cond_false_left, Bool.or_false, Bool.and_true]
      · simp only [go_sem, reduceIte, Nat.reduceBEq, Nat.reduceMul, reduceCtorEq, Nat.reduceAdd, Nat.reduceEqDiff, decide_eq_true_eq, decide_eq_false_iff_not, Bool.not_eq_true', Bool.not_eq_false', Bool.and_eq_true, Bool.or_eq_true, Bool.and_eq_false_iff, Bool.or_eq_false_iff, Bool.cond_true_left, Bool.cond_false_right, Bool.cond_true_right, Bool.cond_false_left, Bool.or_false, Bool.and_true]
        exact ⟨rfl, rfl⟩
    · exact Nat.zero_le _
    intro j hj
    have hc := cntGe_le (nMatch n) i j
    simp only [go_sem, reduceIte, Nat.reduceBEq, Nat.reduceMul, reduceCtorEq, Nat.reduceAdd, Nat.reduceEqDiff, decide_eq_true_eq, decide_eq_false_iff_not, Bool.not_eq_true', Bool.not_eq_false', Bool.and_eq_true, Bool.or_eq_true, Bool.and_eq_false_iff, Bool.or_eq_false_iff, Bool.cond_true_left, Bool.cond_false_right, Bool.cond_true_right, Bool.cond_false_left, Bool.or_false, Bool.and_true, inR]
    have hlen : ((nMatch n).length : Int) = nNodes n := by omega
    refine ⟨fun hlt => ⟨⟨by omega, by omega⟩, fun hp => ⟨by omega, by omega, Again.intro (j + 1) (Ent_of [(1, 1), (2, 2)] rfl ?_ ?_) ?_ (show (nMatch n).length - (j + 1) < (nMatch n).length - j by omega)⟩, fun hp => ⟨by omega, Again.intro (j + 1) (Ent_of [(1, 1), (2, 2)] rfl ?_ ?_) ?_ (show (nMatch n).length - (j + 1) < (nMatch n).length - j by omega)⟩⟩, fun hge => ?_⟩
    · simp only [go_sem, reduceIte, Nat.reduceBEq, Nat.reduceMul, reduceCtorEq, Nat.reduceAdd, Nat.reduceEqDiff, decide_eq_true_eq, decide_eq_false_iff_not, Bool.not_eq_true', Bool.not_eq_false', Bool.and_eq_true, Bool.or_eq_true, Bool.and_eq_false_iff, Bool.or_eq_false_iff, Bool.cond_true_left, Bool.cond_false_right, Bool.cond_true_right, Bool.cond_false_left, Bool.or_false, Bool.and_true]
    · simp only [go_sem, reduceIte, Nat.reduceBEq, Nat.reduceMul, reduceCtorEq, Nat.reduceAdd, Nat.reduceEqDiff, decide_eq_true_eq, decide_eq_false_iff_not, Bool.not_eq_true', Bool.not_eq_false', Bool.and_eq_true, Bool.or_eq_true, Bool.and_eq_false_iff, Bool.or_eq_false_iff, Bool.cond_true_left, Bool.cond_false_right, Bool.cond_true_right, Bool.cond_false_left, Bool.or_false, Bool.and_true]
      rw [cntGe_succ (by omega), if_pos hp]
      omega
    · show j + 1 ≤ (nMatch n).length; omega
    · simp only [go_sem, reduceIte, Nat.reduceBEq, Nat.reduceMul, reduceCtorEq, Nat.reduceAdd, Nat.reduceEqDiff, decide_eq_true_eq, decide_eq_false_iff_not, Bool.not_eq_true', Bool.not_eq_false', Bool.and_eq_true, Bool.or_eq_true, Bool.and_eq_false_iff, Bool.or_eq_false_iff, Bool.cond_true_left, Bool.cond_false_right, Bool.cond_true_right, Bool.cond_false_left, Bool.or_false, Bool.and_true]
    · simp only [go_sem, reduceIte, Nat.reduceBEq, Nat.reduceMul, reduceCtorEq, Nat.reduceAdd, Nat.reduceEqDiff, decide_eq_true_eq, decide_eq_false_iff_not, Bool.not_eq_true', Bool.not_eq_false', Bool.and_eq_true, Bool.or_eq_true, Bool.and_eq_false_iff, Bool.or_eq_false_iff, Bool.cond_true_left, Bool.cond_false_right, Bool.cond_true_right, Bool.cond_false_left, Bool.or_false, Bool.and_true]
      rw [cntGe_succ (by omega), if_neg hp]
      omega
    · show j + 1 ≤ (nMatch n).length; omega
    have hjl : j = (nMatch n).length := by omega
    refine ⟨fun _ => ⟨by omega, by omega⟩, fun ho => ?_, fun ho => ⟨by omega, Again.intro (i - 1) (Ent_of [(1, 1), (2, 2)] rfl ?_ ?_) ⟨by omega, by omega, ?_⟩ (show (i - 1 - nCommit n).toNat < (i - nCommit n).toNat by omega)⟩⟩
    · have hok : advOk n i := ⟨ho.1, by rw [← hjl]; exact ho.2⟩
      rw [hk, advC_ok (by omega) hok]
      rfl
    · simp only [go_sem, reduceIte, Nat.reduceBEq, Nat.reduceMul, reduceCtorEq, Nat.reduceAdd, Nat.reduceEqDiff, decide_eq_true_eq, decide_eq_false_iff_not, Bool.not_eq_true', Bool.not_eq_false', Bool.and_eq_true, Bool.or_eq_true, Bool.and_eq_false_iff, Bool.or_eq_false_iff, Bool.cond_true_left, Bool.cond_false_right, Bool.cond_true_right, Bool.cond_false_left, Bool.or_false, Bool.and_true]
    · simp only [go_sem, reduceIte, Nat.reduceBEq, Nat.reduceMul, reduceCtorEq, Nat.reduceAdd, Nat.reduceEqDiff, decide_eq_true_eq, decide_eq_false_iff_not, Bool.not_eq_true', Bool.not_eq_false', Bool.and_eq_true, Bool.or_eq_true, Bool.and_eq_false_iff, Bool.or_eq_false_iff, Bool.cond_true_left, Bool.cond_false_right, Bool.cond_true_right, Bool.cond_false_left, Bool.or_false, Bool.and_true]
    · rw [hk, advC_no (by omega) fun hok => ?_]
      rcases ho with ho | ho
      · exact ho hok.1
      · rw [hjl] at ho; exact ho hok.2
  · rw [hk, show (i - nCommit n).toNat = 0 by omega]
    rfl
def fn118 : Fn := { a := .pair tNode .unit, r := .pair (.olist tMsg) .unit, pre := fun x => wfR x.1 ∧ nextsOk x.1, f := fun x => (othersN x.1, ()) }
theorem h118  : Holds Try.prog 118 (fn118) := by
  refine Holds.of_vc (T := [(71, fn71)]) (TT := ttL) (rowAt := []) (c := c118) (ros := [.t 2]) (.cons _ h71 (.nil _)) mixed Try.func118 (by decide +kernel) (by rfl) comp118 (by kernel_rfl) rfl rfl (fun h => by cases h) ?_
  rintro ⟨(n : Node), _⟩ hpre
  simp only [fn118] at hpre ⊢
  simp only [c118, fn71, go_sem, reduceIte, Nat.reduceBEq, Nat.reduceMul, reduceCtorEq, Nat.reduceAdd, Nat.reduceEqDiff, decide_eq_true_eq, decide_eq_false_iff_not, Bool.not_eq_true', Bool.not_eq_false', Bool.and_eq_true, Bool.or_eq_true, Bool.and_eq_false_iff, Bool.or_eq_false_iff, Bool.cond_true_left, Bool.cond_false_right, Bool.cond_true_right, Bool.cond_false_left, Bool.or_false, Bool.and_true, inR]
  have hw := hpre.1
  simp only [wfR] at hw
  have hn : nodesN n = nNodes n := by unfold nodesN; omega
  have hN : nNodes n = n.2.1 := rfl
  refine loop_rule (β := Nat) (fun i => ⟨[(1, .ptr 1 0), (3, .own 20 0 (sendsN n i).length), (4, .int .i64 i)], [(1, .box (cellsA tNode n [])), (20, .row tMsg (sendsN n i) false)]⟩) (fun i => (i : Int) ≤ nNodes n) (fun i => (nNodes n).toNat - i) 0 ?_ ?_ ?_
  · refine Ent_of [(1, 1)] rfl ?_ ?_
    · simp only [go_sem, reduceIte, Nat.reduceBEq, Nat.reduceMul, reduceCtorEq, Nat.reduceAdd, Nat.reduceEqDiff, decide_eq_true_eq, decide_eq_false_iff_not, Bool.not_eq_true', Bool.not_eq_false', Bool.and_eq_true, Bool.or_eq_true, Bool.and_eq_false_iff, Bool.or_eq_false_iff, Bool.cond_true_left, Bool.cond_false_right, Bool.cond_true_right, Bool.cond_false_left, Bool.or_false, Bool.and_true]
      exact ⟨rfl, by decide⟩
    · simp only [go_sem, reduceIte, Nat.reduceBEq, Nat.reduceMul, reduceCtorEq, Nat.reduceAdd, Nat.reduceEqDiff, decide_eq_true_eq, decide_eq_false_iff_not, Bool.not_eq_true', Bool.not_eq_false', Bool.and_eq_true, Bool.or_eq_true, Bool.and_eq_false_iff, Bool.or_eq_false_iff, Bool.cond_true_left, Bool.cond_false_right, Bool.cond_true_right, Bool.cond_false_left, Bool.or_false, Bool.and_true]
      exact ⟨rfl, rfl⟩
  · show ((0 : Nat) : Int) ≤ nNodes n; omega
  intro i hi
  have hl := sendsN_len n i
  simp only [go_sem, reduceIte, Nat.reduceBEq, Nat.reduceMul, reduceCtorEq, Nat.reduceAdd, Nat.reduceEqDiff, decide_eq_true_eq, decide_eq_false_iff_not, Bool.not_eq_true', Bool.not_eq_false', Bool.and_eq_true, Bool.or_eq_true, Bool.and_eq_false_iff, Bool.or_eq_false_iff, Bool.cond_true_left, Bool.cond_false_right, Bool.cond_true_right, Bool.cond_false_left, Bool.or_false, Bool.and_true, inR]
  have hi : (i : Int) ≤ nNodes n := hi
  have hxl : ((nNext n).length : Int) = nNodes n := by omega
  refine ⟨fun h => ⟨fun hne => ⟨⟨hw.1, hpre.2.at _, show (0 : Int) ≤ (i : Int) by omega, show (i : Int) < ((nNext n).length : Int) by omega⟩, by omega, by omega, Again.intro (i + 1) (Ent_of [(1, 1), (20, 20)] rfl ?_ ?_) (show ((i + 1 : Nat) : Int) ≤ nNodes n by omega) (show (nNodes n).toNat - (i + 1) < (nNodes n).toNat - i by omega)⟩, fun he => ⟨by omega, Again.intro (i + 1) (Ent_of [(1, 1), (20, 20)] rfl ?_ ?_) (show ((i + 1 : Nat) : Int) ≤ nNodes n by omega) (show (nNodes n).toNat - (i + 1) < (nNodes n).toNat - i by omega)⟩⟩, fun h => ?_⟩
  · simp only [go_sem, reduceIte, Nat.reduceBEq, Nat.reduceMul, reduceCtorEq, Nat.reduceAdd, Nat.reduceEqDiff, decide_eq_true_eq, decide_eq_false_iff_not, Bool.not_eq_true', Bool.not_eq_false', Bool.and_eq_true, Bool.or_eq_true, Bool.and_eq_false_iff, Bool.or_eq_false_iff, Bool.cond_true_left, Bool.cond_false_right, Bool.cond_true_right, Bool.cond_false_left, Bool.or_false, Bool.and_true]
    exact sendsN_yes n i hne
  · simp only [go_sem, reduceIte, Nat.reduceBEq, Nat.reduceMul, reduceCtorEq, Nat.reduceAdd, Nat.reduceEqDiff, decide_eq_true_eq, decide_eq_false_iff_not, Bool.not_eq_true', Bool.not_eq_false', Bool.and_eq_true, Bool.or_eq_true, Bool.and_eq_false_iff, Bool.or_eq_false_iff, Bool.cond_true_left, Bool.cond_false_right, Bool.cond_true_right, Bool.cond_false_left, Bool.or_false, Bool.and_true]
    rw [sendsN_yes n i hne, List.length_append]
    exact ⟨rfl, by omega⟩
  · simp only [go_sem, reduceIte, Nat.reduceBEq, Nat.reduceMul, reduceCtorEq, Nat.reduceAdd, Nat.reduceEqDiff, decide_eq_true_eq, decide_eq_false_iff_not, Bool.not_eq_true', Bool.not_eq_false', Bool.and_eq_true, Bool.or_eq_true, Bool.and_eq_false_iff, Bool.or_eq_false_iff, Bool.cond_true_left, Bool.cond_false_right, Bool.cond_true_right, Bool.cond_false_left, Bool.or_false, Bool.and_true]
    exact sendsN_no n i he
  · simp only [go_sem, reduceIte, Nat.reduceBEq, Nat.reduceMul, reduceCtorEq, Nat.reduceAdd, Nat.reduceEqDiff, decide_eq_true_eq, decide_eq_false_iff_not, Bool.not_eq_true', Bool.not_eq_false', Bool.and_eq_true, Bool.or_eq_true, Bool.and_eq_false_iff, Bool.or_eq_false_iff, Bool.cond_true_left, Bool.cond_false_right, Bool.cond_true_right, Bool.cond_false_left, Bool.or_false, Bool.and_true]
    rw [sendsN_no n i he]
    exact ⟨rfl, by omega⟩
  · unfold othersN; rw [hn, show i = (nNodes n).toNat by omega]
def addE (n : Node) (cmd : ByteArray) : Node := setLog n (nLog n ++ [mkE (nTerm n) cmd])
def moreN (n : Node) (cmd : ByteArray) : Node := ownM (addE n cmd)
theorem last_addE (n : Node) (cmd : ByteArray) : last (addE n cmd) = last n + 1 := by
  show nBase n + ((nLog n ++ [mkE (nTerm n) cmd]).length : Int) = nBase n + (nLog n).length + 1
  rw [List.length_append]
  show nBase n + (((nLog n).length + 1 : Nat) : Int) = _
  omega
theorem rgN_addE {n : Node} (h : rgL n) (cmd : ByteArray) : rgN (addE n cmd) := by
  have h2 := last_addE n cmd
  simp only [rgL, rgN, sm] at h
  simp only [rgN, sm]
  refine ⟨show 0 ≤ nBase n by omega, show nBase n ≤ nCommit n by omega, show nCommit n ≤ _ by omega, by omega, ?_, show 0 ≤ nNodes n by omega, show nNodes n ≤ 100 by omega, show (nNext n).length ≤ _ by omega, show (nMatch n).length ≤ _ by omega⟩
  show (nLog n ++ [mkE (nTerm n) cmd]).length ≤ _
  rw [List.length_append]
  show (nLog n).length + 1 ≤ _
  omega
def fn127 : Fn := { a := .pair tNode (.pair .str .unit), r := .pair tNode .unit, pre := fun x => wfR x.1 ∧ rgL x.1, f := fun x => (moreN x.1 x.2.1, ()) }
theorem h127  : Holds Try.prog 127 (fn127) := by
  refine Holds.of_vc (T := [(30, fn30), (72, fn72)]) (TT := ttL) (rowAt := []) (c := c127) (ros := [.c 4 15]) (.cons _ h30 (.cons _ h72 (.nil _))) mixed Try.func127 (by decide +kernel) (by rfl) comp127 (by kernel_rfl) rfl rfl (fun h => by cases h) ?_
  rintro ⟨(n : Node), (cmd : ByteArray), _⟩ hpre
  simp only [fn127] at hpre ⊢
  simp only [c127, fn30, fn72, go_sem, reduceIte, Nat.reduceBEq, Nat.reduceMul, reduceCtorEq, Nat.reduceAdd, Nat.reduceEqDiff, decide_eq_true_eq, decide_eq_false_iff_not, Bool.not_eq_true', Bool.not_eq_false', Bool.and_eq_true, Bool.or_eq_true, Bool.and_eq_false_iff, Bool.or_eq_false_iff, Bool.cond_true_left, Bool.cond_false_right, Bool.cond_true_right, Bool.cond_false_left, Bool.or_false, Bool.and_true, inR]
  simp only [mkPr, mkPrE]
  generalize hq : mkN _ _ _ _ _ _ _ (List.take _ _) _ _ _ _ _ _ _ = q
  have eq : q = addE n cmd := by
    rw [← hq, List.take_of_length_le (by rw [List.length_append]; exact Nat.le_refl _)]; rfl
  clear hq
  subst eq
  generalize hp : mkN _ _ _ _ _ _ _ (List.take _ _) _ _ _ _ _ (List.set _ _ _) _ = p
  have hw := hpre.1
  have hL := hpre.2
  simp only [wfR] at hw
  have hI : nId n = n.1 := rfl
  have hxl : (nMatch n).length = n.2.2.2.2.2.2.2.2.2.2.2.2.2.1.length := rfl
  have hll : (nLog n).length = n.2.2.2.2.2.2.2.1.length := rfl
  have hput : putL (nMatch n) (nId n) (last (addE n cmd)) = (nMatch n).set (nId n).toNat (last (addE n cmd)) := if_pos (by omega)
  have ep : p = setMatch (addE n cmd) (putL (nMatch (addE n cmd)) (nId (addE n cmd)) (last (addE n cmd))) := by
    have e2 : putL (nMatch (addE n cmd)) (nId (addE n cmd)) (last (addE n cmd)) = (nMatch n).set (nId n).toNat (last (addE n cmd)) := hput
    rw [← hp, e2, List.take_of_length_le (by rw [List.length_append]; exact Nat.le_refl _)]; rfl
  clear hp
  subst ep
  have h1 := rgN_addE hL cmd
  have h2 := last_addE n cmd
  simp only [rgL, rgN, sm] at hL
  have hl : last n = nBase n + (nLog n).length := rfl
  refine ⟨by omega, by omega, by rfl, by omega, by omega, by omega, by rfl, ⟨rgN_setMatch h1 (putL_len ..), hw.2.1, hw.2.2.1, hw.2.2.2.1, hw.2.2.2.2.1, hw.2.2.2.2.2.1, ?_⟩, rfl⟩
  show (putL (nMatch n) (nId n) (last (addE n cmd))).length = (nNodes n).toNat
  rw [putL_len]; exact hw.2.2.2.2.2.2
theorem wfR_adv {n : Node} (h : wfR n) : wfR (adv n) := by
  have h1 := rgN_adv h.1
  have h2 : nNext (adv n) = nNext n := adv_next n
  have h3 : nMatch (adv n) = nMatch n := adv_match n
  have h4 : nNodes (adv n) = nNodes n := by unfold adv; split <;> rfl
  have h5 : nId (adv n) = nId n := by unfold adv; split <;> rfl
  unfold wfR
  rw [h2, h3, h4, h5]
  exact ⟨h1, h.2⟩
theorem wfR_own {n : Node} (h : wfR n) : wfR (ownM n) := by
  refine wfR_adv ⟨rgN_setMatch h.1 (putL_len ..), h.2.1, h.2.2.1, h.2.2.2.1, h.2.2.2.2.1, h.2.2.2.2.2.1, ?_⟩
  show (putL (nMatch n) (nId n) (last n)).length = _
  rw [putL_len]; exact h.2.2.2.2.2.2
theorem wfR_more {n : Node} (h : wfR n) (hL : rgL n) (cmd : ByteArray) : wfR (moreN n cmd) := wfR_own ⟨rgN_addE hL cmd, h.2⟩
theorem more_next (n : Node) (cmd : ByteArray) : nNext (moreN n cmd) = nNext n := adv_next _
def fn112 : Fn := { a := .pair tNode (.pair .str .unit), r := .pair tNode (.pair (.olist tMsg) .unit), pre := fun x => wfR x.1 ∧ rgL x.1 ∧ nextsOk x.1, f := fun x => (moreN x.1 x.2.1, othersN (moreN x.1 x.2.1), ()) }
theorem h112  : Holds Try.prog 112 (fn112) := by
  refine Holds.of_vc (T := [(127, fn127), (118, fn118)]) (TT := ttL) (rowAt := []) (c := c112) (ros := [.c 4 15, .t 5]) (.cons _ h127 (.cons _ h118 (.nil _))) mixed Try.func112 (by decide +kernel) (by rfl) comp112 (by kernel_rfl) rfl rfl (fun h => by cases h) ?_
  rintro ⟨(n : Node), (cmd : ByteArray), _⟩ hpre
  simp only [fn112] at hpre ⊢
  simp only [c112, fn127, fn118, go_sem, reduceIte, Nat.reduceBEq, Nat.reduceMul, reduceCtorEq, Nat.reduceAdd, Nat.reduceEqDiff, decide_eq_true_eq, decide_eq_false_iff_not, Bool.not_eq_true', Bool.not_eq_false', Bool.and_eq_true, Bool.or_eq_true, Bool.and_eq_false_iff, Bool.or_eq_false_iff, Bool.cond_true_left, Bool.cond_false_right, Bool.cond_true_right, Bool.cond_false_left, Bool.or_false, Bool.and_true, inR]
  have hw := wfR_more hpre.1 hpre.2.1 cmd
  exact ⟨⟨hpre.1, hpre.2.1⟩, ⟨hw, by unfold nextsOk; rw [more_next]; exact hpre.2.2⟩, by rfl⟩
def leadX (n : Node) : Node := mkN (nId n) (nNodes n) (nTerm n) (nVote n) (nBase n) (nBT n) (nSnap n) (nLog n) 2 (nId n) (nCommit n) (nVotes n) (List.replicate (nodesN n).toNat (last n + 1)) (List.replicate (nodesN n).toNat 0) 0
theorem leadX_more (n : Node) : moreN (leadX n) noB = lead1 n := rfl
def fn68 : Fn := { a := .pair tNode .unit, r := .pair tNode (.pair (.olist tMsg) .unit), pre := fun x => rgL x.1 ∧ 1 ≤ nNodes x.1 ∧ nNodes x.1 ≤ 5 ∧ 0 ≤ nId x.1 ∧ nId x.1 < nNodes x.1, f := fun x => (lead1 x.1, lead2 x.1, ()) }
theorem h68  : Holds Try.prog 68 (fn68) := by
  refine Holds.of_vcc (T := [(30, fn30), (112, fn112)]) (TT := ttL) (rowAt := []) (c := c68) (ros := [.c 2 15, .t 3]) (.cons _ h30 (.cons _ h112 (.nil _))) mixed Try.func68 (by decide +kernel) (by rfl) comp68 (by kernel_rfl) rfl rfl (fun h => by cases h) ?_
  rintro ⟨(n : Node), _⟩ hpre
  simp only [fn68] at hpre ⊢
  simp only [c68, fn30, fn112, go_sem, reduceIte, Nat.reduceBEq, Nat.reduceMul, reduceCtorEq, Nat.reduceAdd, Nat.reduceEqDiff, decide_eq_true_eq, decide_eq_false_iff_not, Bool.not_eq_true', Bool.not_eq_false', Bool.and_eq_true, Bool.or_eq_true, Bool.and_eq_false_iff, Bool.or_eq_false_iff, Bool.cond_true_left, Bool.cond_false_right, Bool.cond_true_right, Bool.cond_false_left, Bool.or_false, Bool.and_true, inR]
  obtain ⟨hL, hn1, hn5, hi0, hi1⟩ := hpre
  have hnd : nodesN n = nNodes n := by unfold nodesN; omega
  have hN : nNodes n = n.2.1 := rfl
  have hL2 := hL
  simp only [rgL, rgN, sm] at hL2
  have hl : last n = nBase n + (nLog n).length := rfl
  refine ⟨by omega, by omega, by rfl, ?_⟩
  generalize hq : nNodes n = q at *
  rw [← hN]
  refine loop_rule (β := Nat) (fun i => ⟨[(1, .ptr 1 0), (2, .ptr 2 0), (4, .int .i64 i)], [(1, .box [.int .i64 (nId n), .int .i64 q, .int .i64 (nTerm n), .int .i64 (nVote n), .int .i64 (nBase n), .int .i64 (nBT n), .str (nSnap n), .sl tEntry (nLog n) false, .int .i64 2, .int .i64 (nId n), .int .i64 (nCommit n), .sl .bool (nVotes n) false, .own 12 0 q.toNat, .own 15 0 q.toNat, .int .i64 0]), (2, .box zN),
      (12, .row tI (List.replicate i (last n + 1) ++ List.replicate (q.toNat - i) 0) false), (15, .row tI (List.replicate q.toNat 0) false)]⟩)
    (fun i => i ≤ q.toNat) (fun i => q.toNat - i) 0 ?_ ?_ ?_
  · refine Ent_of [(1, 1), (2, 2), (12, 12), (15, 15)] rfl ?_ ?_
    · simp only [go_sem, reduceIte, Nat.reduceBEq, Nat.reduceMul, reduceCtorEq, Nat.reduceAdd, Nat.reduceEqDiff, decide_eq_true_eq, decide_eq_false_iff_not, Bool.not_eq_true', Bool.not_eq_false', Bool.and_eq_true, Bool.or_eq_true, Bool.and_eq_false_iff, Bool.or_eq_false_iff, Bool.cond_true_left, Bool.cond_false_right, Bool.cond_true_right, Bool.cond_false_left, Bool.or_false, Bool.and_true]
      exact ⟨rfl, rfl⟩
    · simp only [go_sem, reduceIte, Nat.reduceBEq, Nat.reduceMul, reduceCtorEq, Nat.reduceAdd, Nat.reduceEqDiff, decide_eq_true_eq, decide_eq_false_iff_not, Bool.not_eq_true', Bool.not_eq_false', Bool.and_eq_true, Bool.or_eq_true, Bool.and_eq_false_iff, Bool.or_eq_false_iff, Bool.cond_true_left, Bool.cond_false_right, Bool.cond_true_right, Bool.cond_false_left, Bool.or_false, Bool.and_true]
      rfl
  · exact Nat.zero_le _
  intro i hi
  simp only [go_sem, reduceIte, Nat.reduceBEq, Nat.reduceMul, reduceCtorEq, Nat.reduceAdd, Nat.reduceEqDiff, decide_eq_true_eq, decide_eq_false_iff_not, Bool.not_eq_true', Bool.not_eq_false', Bool.and_eq_true, Bool.or_eq_true, Bool.and_eq_false_iff, Bool.or_eq_false_iff, Bool.cond_true_left, Bool.cond_false_right, Bool.cond_true_right, Bool.cond_false_left, Bool.or_false, Bool.and_true, inR, nodesN_pr, last_pr]
  simp only [mkPr, mkPrE]
  generalize hV : vc _ (C.cut c68_31) _ = V
  refine ⟨fun h => ⟨show InR .i64 (last n) from by rw [inR]; omega, show InR .i64 (last n + 1) from by rw [inR]; omega, by omega, by rfl, by omega, Again.intro (i + 1) (Ent_of [(1, 1), (2, 2), (12, 12), (15, 15)] rfl ?_ ?_) ?_ (show q.toNat - (i + 1) < q.toNat - i by omega)⟩, fun h => ?_⟩
  · simp only [go_sem, reduceIte, Nat.reduceBEq, Nat.reduceMul, reduceCtorEq, Nat.reduceAdd, Nat.reduceEqDiff, decide_eq_true_eq, decide_eq_false_iff_not, Bool.not_eq_true', Bool.not_eq_false', Bool.and_eq_true, Bool.or_eq_true, Bool.and_eq_false_iff, Bool.or_eq_false_iff, Bool.cond_true_left, Bool.cond_false_right, Bool.cond_true_right, Bool.cond_false_left, Bool.or_false, Bool.and_true]
    exact (reps_set (a := last n + 1) (b := 0) i q.toNat (by omega)).symm
  · simp only [go_sem, reduceIte, Nat.reduceBEq, Nat.reduceMul, reduceCtorEq, Nat.reduceAdd, Nat.reduceEqDiff, decide_eq_true_eq, decide_eq_false_iff_not, Bool.not_eq_true', Bool.not_eq_false', Bool.and_eq_true, Bool.or_eq_true, Bool.and_eq_false_iff, Bool.or_eq_false_iff, Bool.cond_true_left, Bool.cond_false_right, Bool.cond_true_right, Bool.cond_false_left, Bool.or_false, Bool.and_true]
    omega
  · show i + 1 ≤ q.toNat; omega
  have hiq : i = q.toNat := by omega
  refine cut_at hV ⟨[(1, .ptr 1 0), (2, .ptr 2 0)], [(1, .box [.int .i64 (nId n), .int .i64 q, .int .i64 (nTerm n), .int .i64 (nVote n), .int .i64 (nBase n), .int .i64 (nBT n), .str (nSnap n), .sl tEntry (nLog n) false, .int .i64 2, .int .i64 (nId n), .int .i64 (nCommit n), .sl .bool (nVotes n) false, .own 12 0 q.toNat, .own 15 0 q.toNat, .int .i64 0]), (2, .box zN),
      (12, .row tI (List.replicate q.toNat (last n + 1)) false), (15, .row tI (List.replicate q.toNat 0) false)]⟩ ?_ (Ent_of [(1, 1), (2, 2), (12, 12), (15, 15)] rfl ?_ ?_)
  rotate_left
  · simp only [go_sem, reduceIte, Nat.reduceBEq, Nat.reduceMul, reduceCtorEq, Nat.reduceAdd, Nat.reduceEqDiff, decide_eq_true_eq, decide_eq_false_iff_not, Bool.not_eq_true', Bool.not_eq_false', Bool.and_eq_true, Bool.or_eq_true, Bool.and_eq_false_iff, Bool.or_eq_false_iff, Bool.cond_true_left, Bool.cond_false_right, Bool.cond_true_right, Bool.cond_false_left, Bool.or_false, Bool.and_true]
    rw [hiq, Nat.sub_self, List.replicate_zero, List.append_nil]
  · simp only [go_sem, reduceIte, Nat.reduceBEq, Nat.reduceMul, reduceCtorEq, Nat.reduceAdd, Nat.reduceEqDiff, decide_eq_true_eq, decide_eq_false_iff_not, Bool.not_eq_true', Bool.not_eq_false', Bool.and_eq_true, Bool.or_eq_true, Bool.and_eq_false_iff, Bool.or_eq_false_iff, Bool.cond_true_left, Bool.cond_false_right, Bool.cond_true_right, Bool.cond_false_left, Bool.or_false, Bool.and_true]
  clear hV V
  simp (maxSteps := 10000000) only [c68_31, go_sem, reduceIte, Nat.reduceBEq, Nat.reduceMul, reduceCtorEq, Nat.reduceAdd, Nat.reduceEqDiff, decide_eq_true_eq, decide_eq_false_iff_not, Bool.not_eq_true', Bool.not_eq_false', Bool.and_eq_true, Bool.or_eq_true, Bool.and_eq_false_iff, Bool.or_eq_false_iff, Bool.cond_true_left, Bool.cond_false_right, Bool.cond_true_right, Bool.cond_false_left, Bool.or_false, Bool.and_true, inR]
  simp only [mkPr]
  have ex : mkN (nId n) q (nTerm n) (nVote n) (nBase n) (nBT n) (nSnap n) (nLog n) 2 (nId n) (nCommit n) (nVotes n) (List.replicate q.toNat (last n + 1)) (List.replicate q.toNat 0) 0 = leadX n := by
    unfold leadX; rw [hnd, hq]
  simp only [ex, leadX_more]
  have hrx : rgN (leadX n) := by
    simp only [rgN, sm]
    refine ⟨show 0 ≤ nBase n by omega, show nBase n ≤ nCommit n by omega, show nCommit n ≤ _ by omega, show last n ≤ _ by omega, show (nLog n).length ≤ _ by omega, show 0 ≤ nNodes n by omega, show nNodes n ≤ 100 by omega, ?_, ?_⟩
    · show (List.replicate _ _).length ≤ _; rw [List.length_replicate]; omega
    · show (List.replicate _ _).length ≤ _; rw [List.length_replicate]; omega
  refine ⟨⟨⟨hrx, show 1 ≤ nNodes n by omega, show nNodes n ≤ 5 by omega, hi0, show nId n < nNodes n by omega, ?_, ?_⟩, ⟨hrx, hL.2.1, hL.2.2⟩, ?_⟩, trivial, rfl⟩
  · show (List.replicate _ _).length = (nNodes n).toNat; rw [List.length_replicate, hnd, hq]
  · show (List.replicate _ _).length = (nNodes n).toNat; rw [List.length_replicate, hnd, hq]
  · intro v hv
    have := List.eq_of_mem_replicate hv
    omega
end Go.AM
