import Derived.Test.YtbcbgfkojmligaaHL
import Derived.KernelRfl
import Derived.Test.YtbcbgfkojmligaaProg
/- What functions of the program answer, each under the conditions that its contract names. -/
set_option linter.unusedVariables false
set_option linter.unusedSimpArgs false
set_option maxRecDepth 100000
namespace Go.AM
def c56 : C := (.seq (.reg [⟨(some 1), .box, [.t 0], none⟩,
  ⟨(some 2), (.alloc [.int .i64 0, .int .i64 0, .int .i64 0, .int .i64 0, .int .i64 0, .int .i64 0, .str ⟨#[]⟩, .sl tEntry [] true, .int .i64 0, .int .i64 0, .int .i64 0, .sl .bool [] true, .sl tI [] true, .sl tI [] true, .int .i64 0]), [], none⟩])
 (.seq (.seq (.reg [⟨(some 9), (.fld 8), [.t 1], none⟩,
  ⟨(some 10), (.load 1 false), [.t 9], none⟩,
  ⟨(some 11), (.bin .neq), [.t 10, .c (.int .i64 2)], none⟩])
 (.cond (.t 11) (.seq (.reg [⟨(some 12), (.load 15 true), [.t 1], none⟩,
  ⟨none, (.store 15), [.t 2, .t 12], none⟩])
 .ret) .skip))
 (.seq .skip
 (.seq (.seq (.reg [⟨(some 13), (.load 15 true), [.t 1], none⟩,
  ⟨(some 14), (.call 52), [.t 13], none⟩,
  ⟨(some 3), .mv, [.t 14], none⟩])
 (.block 0 (.loop (.seq (.seq (.reg [⟨(some 15), .mv, [.t 3], none⟩,
  ⟨(some 16), (.fld 10), [.t 1], none⟩,
  ⟨(some 17), (.load 1 false), [.t 16], none⟩,
  ⟨(some 18), (.bin .gtr), [.t 15, .t 17], none⟩,
  ⟨(some 19), .mv, [.t 18], none⟩,
  ⟨(some 20), .mv, [.t 3], (some (19, true))⟩,
  ⟨(some 21), (.fld 4), [.t 1], (some (19, true))⟩,
  ⟨(some 22), (.load 1 false), [.t 21], (some (19, true))⟩,
  ⟨(some 23), (.bin .gtr), [.t 20, .t 22], (some (19, true))⟩,
  ⟨(some 24), .pick, [.t 19, .t 23, .c (.bool false)], none⟩])
 (.cond (.t 24) .skip (.exit 0)))
 (.seq (.block 1 (.seq (.seq (.reg [⟨(some 28), (.load 15 true), [.t 1], none⟩,
  ⟨(some 29), .mv, [.t 3], none⟩,
  ⟨(some 30), (.call 48), [.t 28, .t 29], none⟩,
  ⟨(some 27), .mv, [.t 30], none⟩,
  ⟨(some 31), (.ext 0), [.t 27], none⟩,
  ⟨(some 32), (.ext 1), [.t 27], none⟩,
  ⟨(some 4), .mv, [.t 31], none⟩,
  ⟨(some 5), .mv, [.t 32], none⟩])
 (.seq (.reg [⟨(some 33), .mv, [.t 5], none⟩,
  ⟨(some 34), .not, [.t 33], none⟩,
  ⟨(some 35), .mv, [.t 34], none⟩,
  ⟨(some 36), .mv, [.t 4], (some (35, false))⟩,
  ⟨(some 37), (.fld 2), [.t 1], (some (35, false))⟩,
  ⟨(some 38), (.load 1 false), [.t 37], (some (35, false))⟩,
  ⟨(some 39), (.bin .neq), [.t 36, .t 38], (some (35, false))⟩,
  ⟨(some 40), .pick, [.t 35, .c (.bool true), .t 39], none⟩])
 (.cond (.t 40) (.exit 1) .skip)))
 (.seq (.reg [⟨(some 6), .mv, [.c (.int .i64 0)], none⟩])
 (.seq (.seq (.reg [⟨(some 41), (.fld 13), [.t 1], none⟩,
  ⟨(some 42), (.load 1 false), [.t 41], none⟩,
  ⟨(some 43), .len, [.t 42], none⟩,
  ⟨(some 44), .mv, [.c (.int .i64 0)], none⟩])
 (.block 2 (.loop (.seq (.reg [⟨(some 45), (.bin .lss), [.t 44, .t 43], none⟩])
 (.seq (.cond (.t 45) .skip (.exit 2))
 (.seq (.block 3 (.seq (.reg [⟨(some 46), (.idx 1), [.t 42, .t 44], none⟩,
  ⟨(some 47), (.load 1 false), [.t 46], none⟩,
  ⟨(some 8), .mv, [.t 47], none⟩])
 (.seq (.reg [⟨(some 48), .mv, [.t 8], none⟩,
  ⟨(some 49), .mv, [.t 3], none⟩,
  ⟨(some 50), (.bin .geq), [.t 48, .t 49], none⟩])
 (.cond (.t 50) (.reg [⟨(some 51), .mv, [.t 6], none⟩,
  ⟨(some 52), (.bin .add), [.t 51, .c (.int .i64 1)], none⟩,
  ⟨(some 6), .mv, [.t 52], none⟩]) .skip))))
 (.reg [⟨(some 53), (.bin .add), [.t 44, .c (.int .i64 1)], none⟩,
  ⟨(some 44), .mv, [.t 53], none⟩])))))))
 (.seq (.reg [⟨(some 54), .mv, [.t 6], none⟩,
  ⟨(some 55), (.load 15 true), [.t 1], none⟩,
  ⟨(some 56), (.call 44), [.t 55], none⟩,
  ⟨(some 57), (.bin .geq), [.t 54, .t 56], none⟩])
 (.cond (.t 57) (.seq (.reg [⟨(some 58), .mv, [.t 3], none⟩,
  ⟨(some 59), (.fld 10), [.t 1], none⟩,
  ⟨none, (.store 1), [.t 59, .t 58], none⟩])
 (.exit 0)) .skip))))))
 (.reg [⟨(some 25), .mv, [.t 3], none⟩,
  ⟨(some 26), (.bin .sub), [.t 25, .c (.int .i64 1)], none⟩,
  ⟨(some 3), .mv, [.t 26], none⟩]))))))
 (.seq (.reg [⟨(some 60), (.load 15 true), [.t 1], none⟩,
  ⟨none, (.store 15), [.t 2, .t 60], none⟩])
 .ret)))))
theorem comp56 : compC Go.Proofs.Try.prog ttL 61 [] (match Go.Proofs.Try.f56.body with | some b => b | none => .skip) = some (c56) := by kernel_rfl
def c67 : C := (.seq (.reg [⟨(some 1), .box, [.t 0], none⟩,
  ⟨(some 2), (.alloc [.int .i64 0, .int .i64 0, .int .i64 0, .int .i64 0, .int .i64 0, .int .i64 0, .str ⟨#[]⟩, .sl tEntry [] true, .int .i64 0, .int .i64 0, .int .i64 0, .sl .bool [] true, .sl tI [] true, .sl tI [] true, .int .i64 0]), [], none⟩,
  ⟨(some 3), .mv, [.c (.sl tMsg [] true)], none⟩])
 (.seq (.reg [⟨(some 5), (.fld 0), [.t 1], none⟩,
  ⟨(some 6), (.load 1 false), [.t 5], none⟩,
  ⟨(some 7), (.fld 8), [.t 1], none⟩,
  ⟨none, (.store 1), [.t 7, .c (.int .i64 2)], none⟩,
  ⟨(some 8), (.fld 9), [.t 1], none⟩,
  ⟨none, (.store 1), [.t 8, .t 6], none⟩,
  ⟨(some 9), (.fld 14), [.t 1], none⟩,
  ⟨none, (.store 1), [.t 9, .c (.int .i64 0)], none⟩])
 (.seq (.regd [⟨(some 10), (.load 15 true), [.t 1], none⟩,
  ⟨(some 11), (.call 108), [.t 10], none⟩,
  ⟨(some 12), (.mks tI 8), [.t 11, .t 11], none⟩,
  ⟨(some 13), (.load 15 true), [.t 1], none⟩,
  ⟨(some 14), (.call 108), [.t 13], none⟩,
  ⟨(some 15), (.mks tI 8), [.t 14, .t 14], none⟩,
  ⟨(some 16), (.fld 12), [.t 1], none⟩,
  ⟨none, (.store 1), [.t 16, .t 12], none⟩,
  ⟨(some 17), (.fld 13), [.t 1], none⟩,
  ⟨none, (.store 1), [.t 17, .t 15], none⟩] [0, 1, 2, 0, 10, 16, 15, 95, 255, 511])
 (.seq (.seq (.reg [⟨(some 18), (.fld 12), [.t 1], none⟩,
  ⟨(some 19), (.load 1 false), [.t 18], none⟩,
  ⟨(some 20), .len, [.t 19], none⟩,
  ⟨(some 21), .mv, [.c (.int .i64 0)], none⟩])
 (.block 0 (.loop (.seq (.reg [⟨(some 22), (.bin .lss), [.t 21, .t 20], none⟩])
 (.seq (.cond (.t 22) .skip (.exit 0))
 (.seq (.block 1 (.seq (.reg [⟨(some 23), .mv, [.t 21], none⟩,
  ⟨(some 4), .mv, [.t 23], none⟩])
 (.regd [⟨(some 24), (.fld 12), [.t 1], none⟩,
  ⟨(some 25), (.load 1 false), [.t 24], none⟩,
  ⟨(some 26), .mv, [.t 4], none⟩,
  ⟨(some 27), (.load 15 true), [.t 1], none⟩,
  ⟨(some 28), (.call 52), [.t 27], none⟩,
  ⟨(some 29), (.bin .add), [.t 28, .c (.int .i64 1)], none⟩,
  ⟨(some 30), (.idx 1), [.t 25, .t 26], none⟩,
  ⟨none, (.store 1), [.t 30, .t 29], none⟩] [0, 1, 0, 0, 8, 16, 63, 127])))
 (.reg [⟨(some 31), (.bin .add), [.t 21, .c (.int .i64 1)], none⟩,
  ⟨(some 21), .mv, [.t 31], none⟩])))))))
 (.seq (.regd [⟨(some 32), (.fld 7), [.t 1], none⟩,
  ⟨(some 33), (.load 1 false), [.t 32], none⟩,
  ⟨(some 34), (.call 109), [.t 33], none⟩,
  ⟨(some 35), (.fld 2), [.t 1], none⟩,
  ⟨(some 36), (.load 1 false), [.t 35], none⟩,
  ⟨(some 37), (.build [.int .i64 0, .str ⟨#[]⟩] [(0, 1)]), [.t 36], none⟩,
  ⟨(some 38), (.bslice tEntry 1), [.t 37], none⟩,
  ⟨(some 39), (.app 2 24), [.t 34, .t 38], none⟩,
  ⟨(some 40), (.fld 7), [.t 1], none⟩,
  ⟨none, (.store 1), [.t 40, .t 39], none⟩] [0, 1, 2, 0, 8, 16, 32, 68, 255, 511])
 (.seq (.reg [⟨(some 41), (.load 15 true), [.t 1], none⟩,
  ⟨(some 42), (.call 110), [.t 41], none⟩,
  ⟨none, (.store 15), [.t 1, .t 42], none⟩])
 (.seq (.regd [⟨(some 43), (.load 15 true), [.t 1], none⟩,
  ⟨(some 44), (.load 15 true), [.t 1], none⟩,
  ⟨(some 45), (.call 111), [.t 44], none⟩,
  ⟨none, (.store 15), [.t 2, .t 43], none⟩,
  ⟨(some 3), .mv, [.t 45], none⟩] [0, 0, 2, 5, 15])
 .ret)))))))
theorem comp67 : compC Go.Proofs.Try.prog ttL 46 [] (match Go.Proofs.Try.f67.body with | some b => b | none => .skip) = some (c67) := by kernel_rfl
def c70 : C := (.seq (.reg [⟨(some 2), .box, [.t 0], none⟩,
  ⟨(some 4), (.alloc [.int .i64 0, .int .i64 0, .int .i64 0, .int .i64 0, .int .i64 0, .int .i64 0, .bool false, .int .i64 0, .sl tEntry [] true, .str ⟨#[]⟩]), [], none⟩])
 (.seq (.regd [⟨(some 7), (.fld 0), [.t 2], none⟩,
  ⟨(some 8), (.load 1 false), [.t 7], none⟩,
  ⟨(some 9), .mv, [.t 1], none⟩,
  ⟨(some 10), (.fld 2), [.t 2], none⟩,
  ⟨(some 11), (.load 1 false), [.t 10], none⟩,
  ⟨(some 12), (.fld 12), [.t 2], none⟩,
  ⟨(some 13), (.load 1 false), [.t 12], none⟩,
  ⟨(some 14), .mv, [.t 1], none⟩,
  ⟨(some 15), (.call 113), [.t 13, .t 14], none⟩,
  ⟨(some 16), (.bin .sub), [.t 15, .c (.int .i64 1)], none⟩,
  ⟨(some 17), (.build [.int .i64 0, .int .i64 0, .int .i64 0, .int .i64 0, .int .i64 0, .int .i64 0, .bool false, .int .i64 0, .sl tEntry [] true, .str ⟨#[]⟩] [(0, 1), (1, 1), (2, 1), (3, 1), (4, 1)]), [.c (.int .i64 3), .t 8, .t 9, .t 11, .t 16], none⟩,
  ⟨(some 5), (.alloc [.int .i64 0, .int .i64 0, .int .i64 0, .int .i64 0, .int .i64 0, .int .i64 0, .bool false, .int .i64 0, .sl tEntry [] true, .str ⟨#[]⟩]), [], none⟩,
  ⟨none, (.store 10), [.t 5, .t 17], none⟩] [0, 1, 0, 0, 8, 0, 32, 0, 192, 256, 534, 0, 4095])
 (.seq (.seq (.reg [⟨(some 18), (.fld 4), [.t 5], none⟩,
  ⟨(some 19), (.load 1 false), [.t 18], none⟩,
  ⟨(some 20), (.fld 4), [.t 2], none⟩,
  ⟨(some 21), (.load 1 false), [.t 20], none⟩,
  ⟨(some 22), (.bin .lss), [.t 19, .t 21], none⟩])
 (.cond (.t 22) (.seq (.regd [⟨(some 23), (.fld 4), [.t 2], none⟩,
  ⟨(some 24), (.load 1 false), [.t 23], none⟩,
  ⟨(some 25), (.fld 5), [.t 2], none⟩,
  ⟨(some 26), (.load 1 false), [.t 25], none⟩,
  ⟨(some 27), (.fld 6), [.t 2], none⟩,
  ⟨(some 28), (.load 1 false), [.t 27], none⟩,
  ⟨(some 29), (.fld 0), [.t 5], none⟩,
  ⟨none, (.store 1), [.t 29, .c (.int .i64 5)], none⟩,
  ⟨(some 30), (.fld 4), [.t 5], none⟩,
  ⟨none, (.store 1), [.t 30, .t 24], none⟩,
  ⟨(some 31), (.fld 5), [.t 5], none⟩,
  ⟨none, (.store 1), [.t 31, .t 26], none⟩,
  ⟨(some 32), (.fld 9), [.t 5], none⟩,
  ⟨none, (.store 1), [.t 32, .t 28], none⟩] [0, 1, 0, 4, 0, 16, 0, 64, 195, 451, 975, 1999, 4095, 8191])
 (.seq (.reg [⟨(some 33), (.load 10 true), [.t 5], none⟩,
  ⟨none, (.store 10), [.t 4, .t 33], none⟩])
 .ret)) .skip))
 (.seq (.reg [⟨(some 35), (.load 15 true), [.t 2], none⟩,
  ⟨(some 36), (.fld 4), [.t 5], none⟩,
  ⟨(some 37), (.load 1 false), [.t 36], none⟩,
  ⟨(some 38), (.call 48), [.t 35, .t 37], none⟩,
  ⟨(some 34), .mv, [.t 38], none⟩,
  ⟨(some 39), (.ext 0), [.t 34], none⟩,
  ⟨(some 40), (.ext 1), [.t 34], none⟩,
  ⟨(some 41), (.fld 5), [.t 5], none⟩,
  ⟨none, (.store 1), [.t 41, .t 39], none⟩])
 (.seq (.reg [⟨(some 42), (.load 15 true), [.t 2], none⟩,
  ⟨(some 43), (.fld 4), [.t 5], none⟩,
  ⟨(some 44), (.load 1 false), [.t 43], none⟩,
  ⟨(some 45), (.call 53), [.t 42, .t 44], none⟩,
  ⟨(some 6), .mv, [.t 45], none⟩])
 (.seq (.regd [⟨(some 46), .mv, [.t 6], none⟩,
  ⟨(some 47), .mv, [.t 6], none⟩,
  ⟨(some 48), .len, [.t 47], none⟩,
  ⟨(some 49), .mn, [.t 48, .c (.int .i64 20)], none⟩,
  ⟨(some 50), (.slc 2 false true false), [.t 46, .t 49], none⟩,
  ⟨(some 51), (.call 105), [.t 50], none⟩,
  ⟨(some 52), (.fld 10), [.t 2], none⟩,
  ⟨(some 53), (.load 1 false), [.t 52], none⟩,
  ⟨(some 54), (.fld 8), [.t 5], none⟩,
  ⟨none, (.store 1), [.t 54, .t 51], none⟩,
  ⟨(some 55), (.fld 7), [.t 5], none⟩,
  ⟨none, (.store 1), [.t 55, .t 53], none⟩] [0, 0, 2, 4, 9, 16, 0, 64, 63, 319, 1023, 2047])
 (.seq (.reg [⟨(some 56), (.load 10 true), [.t 5], none⟩,
  ⟨none, (.store 10), [.t 4, .t 56], none⟩])
 .ret)))))))
theorem comp70 : compC Go.Proofs.Try.prog ttL 57 [] (match Go.Proofs.Try.f70.body with | some b => b | none => .skip) = some (c70) := by kernel_rfl
def c106 : C := (.seq (.reg [⟨(some 4), .box, [.t 0], none⟩,
  ⟨(some 5), .box, [.t 1], none⟩,
  ⟨(some 8), .mv, [.c (.sl tMsg [] true)], none⟩])
 (.seq (.reg [⟨(some 9), (.fld 0), [.t 4], none⟩,
  ⟨(some 10), (.load 1 false), [.t 9], none⟩,
  ⟨(some 11), (.fld 1), [.t 5], none⟩,
  ⟨(some 12), (.load 1 false), [.t 11], none⟩,
  ⟨(some 13), (.fld 2), [.t 4], none⟩,
  ⟨(some 14), (.load 1 false), [.t 13], none⟩,
  ⟨(some 15), .mv, [.t 2], none⟩,
  ⟨(some 16), .mv, [.t 3], none⟩,
  ⟨(some 17), (.build [.int .i64 0, .int .i64 0, .int .i64 0, .int .i64 0, .int .i64 0, .int .i64 0, .bool false, .int .i64 0, .sl tEntry [] true, .str ⟨#[]⟩] [(0, 1), (1, 1), (2, 1), (3, 1), (6, 1), (4, 1)]), [.c (.int .i64 4), .t 10, .t 12, .t 14, .t 15, .t 16], none⟩,
  ⟨(some 18), (.bslice tMsg 1), [.t 17], none⟩,
  ⟨(some 8), .mv, [.t 18], none⟩])
 .ret))
theorem comp106 : compC Go.Proofs.Try.prog ttL 19 [] (match Go.Proofs.Try.f106.body with | some b => b | none => .skip) = some (c106) := by kernel_rfl
def c108 : C := (.seq (.reg [⟨(some 1), .box, [.t 0], none⟩,
  ⟨(some 2), .mv, [.c (.int .i64 0)], none⟩])
 (.seq (.reg [⟨(some 3), (.fld 1), [.t 1], none⟩,
  ⟨(some 4), (.load 1 false), [.t 3], none⟩,
  ⟨(some 5), .mn, [.t 4, .c (.int .i64 5)], none⟩,
  ⟨(some 6), .mx, [.c (.int .i64 0), .t 5], none⟩,
  ⟨(some 2), .mv, [.t 6], none⟩])
 .ret))
theorem comp108 : compC Go.Proofs.Try.prog ttL 7 [] (match Go.Proofs.Try.f108.body with | some b => b | none => .skip) = some (c108) := by kernel_rfl
def c109 : C := (.seq (.reg [⟨(some 2), .mv, [.c (.sl tEntry [] true)], none⟩])
 (.seq (.reg [⟨(some 3), .mv, [.t 0], none⟩,
  ⟨(some 4), .mv, [.t 0], none⟩,
  ⟨(some 5), .len, [.t 4], none⟩,
  ⟨(some 6), .mv, [.t 0], none⟩,
  ⟨(some 7), .len, [.t 6], none⟩,
  ⟨(some 8), (.slc 2 false true true), [.t 3, .t 5, .t 7], none⟩,
  ⟨(some 2), .mv, [.t 8], none⟩])
 .ret))
theorem comp109 : compC Go.Proofs.Try.prog ttL 9 [] (match Go.Proofs.Try.f109.body with | some b => b | none => .skip) = some (c109) := by kernel_rfl
def c110 : C := (.seq (.reg [⟨(some 1), .box, [.t 0], none⟩,
  ⟨(some 2), (.alloc [.int .i64 0, .int .i64 0, .int .i64 0, .int .i64 0, .int .i64 0, .int .i64 0, .str ⟨#[]⟩, .sl tEntry [] true, .int .i64 0, .int .i64 0, .int .i64 0, .sl .bool [] true, .sl tI [] true, .sl tI [] true, .int .i64 0]), [], none⟩])
 (.seq (.regd [⟨(some 3), (.fld 13), [.t 1], none⟩,
  ⟨(some 4), (.load 1 false), [.t 3], none⟩,
  ⟨(some 5), (.fld 0), [.t 1], none⟩,
  ⟨(some 6), (.load 1 false), [.t 5], none⟩,
  ⟨(some 7), (.load 15 true), [.t 1], none⟩,
  ⟨(some 8), (.call 52), [.t 7], none⟩,
  ⟨(some 9), (.call 116), [.t 4, .t 6, .t 8], none⟩,
  ⟨(some 10), (.fld 13), [.t 1], none⟩,
  ⟨none, (.store 1), [.t 10, .t 9], none⟩] [0, 1, 0, 4, 0, 16, 42, 127, 255])
 (.seq (.reg [⟨(some 11), (.load 15 true), [.t 1], none⟩,
  ⟨(some 12), (.call 56), [.t 11], none⟩,
  ⟨none, (.store 15), [.t 2, .t 12], none⟩])
 .ret)))
theorem comp110 : compC Go.Proofs.Try.prog ttL 13 [] (match Go.Proofs.Try.f110.body with | some b => b | none => .skip) = some (c110) := by kernel_rfl
def c111 : C := (.seq (.reg [⟨(some 1), .box, [.t 0], none⟩,
  ⟨(some 2), .mv, [.c (.sl tMsg [] true)], none⟩])
 (.seq (.reg [⟨(some 3), .mv, [.c (.sl tMsg [] true)], none⟩])
 (.seq (.seq (.reg [⟨(some 5), (.load 15 true), [.t 1], none⟩,
  ⟨(some 6), (.call 108), [.t 5], none⟩,
  ⟨(some 7), .mv, [.c (.int .i64 0)], none⟩])
 (.block 0 (.loop (.seq (.reg [⟨(some 8), (.bin .lss), [.t 7, .t 6], none⟩])
 (.seq (.cond (.t 8) .skip (.exit 0))
 (.seq (.block 1 (.seq (.reg [⟨(some 9), .mv, [.t 7], none⟩,
  ⟨(some 4), .mv, [.t 9], none⟩])
 (.seq (.reg [⟨(some 10), .mv, [.t 4], none⟩,
  ⟨(some 11), (.fld 0), [.t 1], none⟩,
  ⟨(some 12), (.load 1 false), [.t 11], none⟩,
  ⟨(some 13), (.bin .neq), [.t 10, .t 12], none⟩])
 (.cond (.t 13) (.reg [⟨(some 14), .mv, [.t 3], none⟩,
  ⟨(some 15), (.load 15 true), [.t 1], none⟩,
  ⟨(some 16), .mv, [.t 4], none⟩,
  ⟨(some 17), (.call 70), [.t 15, .t 16], none⟩,
  ⟨(some 18), (.bslice tMsg 1), [.t 17], none⟩,
  ⟨(some 19), (.app 10 104), [.t 14, .t 18], none⟩,
  ⟨(some 3), .mv, [.t 19], none⟩]) .skip))))
 (.reg [⟨(some 20), (.bin .add), [.t 7, .c (.int .i64 1)], none⟩,
  ⟨(some 7), .mv, [.t 20], none⟩])))))))
 (.seq (.reg [⟨(some 21), .mv, [.t 3], none⟩,
  ⟨(some 2), .mv, [.t 21], none⟩])
 .ret))))
theorem comp111 : compC Go.Proofs.Try.prog ttL 22 [] (match Go.Proofs.Try.f111.body with | some b => b | none => .skip) = some (c111) := by kernel_rfl
def c113 : C := (.seq (.reg [⟨(some 4), .mv, [.c (.int .i64 0)], none⟩])
 (.seq (.seq (.reg [⟨(some 5), .mv, [.t 1], none⟩,
  ⟨(some 6), (.bin .lss), [.t 5, .c (.int .i64 0)], none⟩,
  ⟨(some 7), .mv, [.t 6], none⟩,
  ⟨(some 8), .mv, [.t 1], (some (7, false))⟩,
  ⟨(some 9), .mv, [.t 0], (some (7, false))⟩,
  ⟨(some 10), .len, [.t 9], (some (7, false))⟩,
  ⟨(some 11), (.bin .geq), [.t 8, .t 10], (some (7, false))⟩,
  ⟨(some 12), .pick, [.t 7, .c (.bool true), .t 11], none⟩])
 (.cond (.t 12) (.seq (.reg [⟨(some 4), .mv, [.c (.int .i64 0)], none⟩])
 .ret) .skip))
 (.seq (.reg [⟨(some 13), .mv, [.t 0], none⟩,
  ⟨(some 14), .mv, [.t 1], none⟩,
  ⟨(some 15), (.idx 1), [.t 13, .t 14], none⟩,
  ⟨(some 16), (.load 1 false), [.t 15], none⟩,
  ⟨(some 4), .mv, [.t 16], none⟩])
 .ret)))
theorem comp113 : compC Go.Proofs.Try.prog ttL 17 [] (match Go.Proofs.Try.f113.body with | some b => b | none => .skip) = some (c113) := by kernel_rfl
def c116 : C := (.seq (.reg [⟨(some 6), .mv, [.c (.sl tI [] true)], none⟩])
 (.seq (.reg [⟨(some 7), .mv, [.t 0], none⟩,
  ⟨(some 8), (.call 120), [.t 7], none⟩,
  ⟨(some 0), .mv, [.t 8], none⟩])
 (.seq (.seq (.reg [⟨(some 9), .mv, [.t 1], none⟩,
  ⟨(some 10), (.bin .geq), [.t 9, .c (.int .i64 0)], none⟩,
  ⟨(some 11), .mv, [.t 10], none⟩,
  ⟨(some 12), .mv, [.t 1], (some (11, true))⟩,
  ⟨(some 13), .mv, [.t 0], (some (11, true))⟩,
  ⟨(some 14), .len, [.t 13], (some (11, true))⟩,
  ⟨(some 15), (.bin .lss), [.t 12, .t 14], (some (11, true))⟩,
  ⟨(some 16), .pick, [.t 11, .t 15, .c (.bool false)], none⟩])
 (.cond (.t 16) (.reg [⟨(some 17), .mv, [.t 0], none⟩,
  ⟨(some 18), .mv, [.t 1], none⟩,
  ⟨(some 19), .mv, [.t 2], none⟩,
  ⟨(some 20), (.idx 1), [.t 17, .t 18], none⟩,
  ⟨none, (.store 1), [.t 20, .t 19], none⟩]) .skip))
 (.seq (.reg [⟨(some 21), .mv, [.t 0], none⟩,
  ⟨(some 6), .mv, [.t 21], none⟩])
 .ret))))
theorem comp116 : compC Go.Proofs.Try.prog ttL 22 [] (match Go.Proofs.Try.f116.body with | some b => b | none => .skip) = some (c116) := by kernel_rfl
def c120 : C := (.seq (.reg [⟨(some 2), .mv, [.c (.sl tI [] true)], none⟩])
 (.seq (.seq (.reg [⟨(some 3), .mv, [.t 0], none⟩,
  ⟨(some 4), .isnil, [.t 3], none⟩])
 (.cond (.t 4) (.seq (.reg [⟨(some 2), .mv, [.c (.sl tI [] true)], none⟩])
 .ret) .skip))
 (.seq (.reg [⟨(some 5), (.bslice tI 0), [], none⟩,
  ⟨(some 6), .mv, [.t 0], none⟩,
  ⟨(some 7), (.app 1 8), [.t 5, .t 6], none⟩,
  ⟨(some 2), .mv, [.t 7], none⟩])
 .ret)))
theorem comp120 : compC Go.Proofs.Try.prog ttL 8 [] (match Go.Proofs.Try.f120.body with | some b => b | none => .skip) = some (c120) := by kernel_rfl
end Go.AM
set_option maxRecDepth 100000
set_option maxHeartbeats 8000000
set_option linter.unusedSimpArgs false
namespace Go.AM
open Go.Proofs
attribute [local congr] vc_congr evOps_congr evTab_congr bind_congr condK_congr tabK_congr
def ndI (k : Int) : Int := max 0 (min k 5)
def nodesN (n : Node) : Int := max 0 (min (nNodes n) 5)
theorem mkPr {id nd t v bs bt : Int} {sn : ByteArray} {lg : List E} {ro le co : Int} {vo : List Bool} {ne ma : List Int} {cl : Int} : pr (a := tI) id (pr (a := tI) nd (pr (a := tI) t (pr (a := tI) v (pr (a := tI) bs (pr (a := tI) bt (pr (a := .str) sn (pr (a := .list tEntry) lg (pr (a := tI) ro (pr (a := tI) le (pr (a := tI) co (pr (a := .list .bool) vo (pr (a := .list tI) ne (pr (a := .list tI) ma (pr (a := tI) (b := .unit) cl ())))))))))))))) = mkN id nd t v bs bt sn lg ro le co vo ne ma cl := rfl
theorem nodesN_pr {id nd t v bs bt : Int} {sn : ByteArray} {lg : List E} {ro le co : Int} {vo : List Bool} {ne ma : List Int} {cl : Int} : nodesN (pr (a := tI) id (pr (a := tI) nd (pr (a := tI) t (pr (a := tI) v (pr (a := tI) bs (pr (a := tI) bt (pr (a := .str) sn (pr (a := .list tEntry) lg (pr (a := tI) ro (pr (a := tI) le (pr (a := tI) co (pr (a := .list .bool) vo (pr (a := .list tI) ne (pr (a := .list tI) ma (pr (a := tI) (b := .unit) cl ()))))))))))))))) = ndI nd := rfl
theorem last_pr {id nd t v bs bt : Int} {sn : ByteArray} {lg : List E} {ro le co : Int} {vo : List Bool} {ne ma : List Int} {cl : Int} : last (pr (a := tI) id (pr (a := tI) nd (pr (a := tI) t (pr (a := tI) v (pr (a := tI) bs (pr (a := tI) bt (pr (a := .str) sn (pr (a := .list tEntry) lg (pr (a := tI) ro (pr (a := tI) le (pr (a := tI) co (pr (a := .list .bool) vo (pr (a := .list tI) ne (pr (a := .list tI) ma (pr (a := tI) (b := .unit) cl ()))))))))))))))) = bs + lg.length := rfl
theorem reps_set {a b : Int} (i k : Nat) (h : i < k) : (List.replicate i a ++ List.replicate (k - i) b).set i a = List.replicate (i + 1) a ++ List.replicate (k - (i + 1)) b := by
  obtain ⟨m, hm⟩ : ∃ m, k - i = m + 1 := ⟨k - i - 1, by omega⟩
  rw [hm, show k - (i + 1) = m by omega, List.set_append_right (h := by simp), List.length_replicate, Nat.sub_self, List.replicate_succ, List.set_cons_zero, List.replicate_succ', List.append_assoc]
  rfl
theorem mkPrM {ki fr to te ix aa : Int} {ys : Bool} {cm : Int} {en : List E} {sn : ByteArray} : pr (a := tI) ki (pr (a := tI) fr (pr (a := tI) to (pr (a := tI) te (pr (a := tI) ix (pr (a := tI) aa (pr (a := .bool) ys (pr (a := tI) cm (pr (a := .list tEntry) en (pr (a := .str) (b := .unit) sn ()))))))))) = mkM ki fr to te ix aa ys cm en sn := rfl
theorem mkPrE {t : Int} {c : ByteArray} : pr (a := tI) t (pr (a := .str) (b := .unit) c ()) = mkE t c := rfl
def fn108 : Fn := { a := .pair tNode .unit, r := .pair tI .unit, pre := fun _ => True, f := fun x => (nodesN x.1, ()) }
theorem h108  : Holds Try.prog 108 (fn108) := by
  refine Holds.of_vc (T := []) (TT := ttL) (rowAt := []) (c := c108) (ros := [.t 2]) (.nil _) mixed Try.func108 (by decide +kernel) (by rfl) comp108 (by kernel_rfl) rfl rfl (fun h => by cases h) ?_
  rintro ⟨(n : Node), _⟩ hpre
  simp only [fn108] at hpre ⊢
  simp only [c108, go_sem, reduceIte, Nat.reduceBEq, Nat.reduceMul, reduceCtorEq, Nat.reduceAdd, Nat.reduceEqDiff, decide_eq_true_eq, decide_eq_false_iff_not, Bool.not_eq_true', Bool.not_eq_false', Bool.and_eq_true, Bool.or_eq_true, Bool.and_eq_false_iff, Bool.or_eq_false_iff, Bool.cond_true_left, Bool.cond_false_right, Bool.cond_true_right, Bool.cond_false_left, Bool.or_false, Bool.and_true, inR]
  rfl
def fn109 : Fn := { a := .pair (.list tEntry) .unit, r := .pair (.flist tEntry) .unit, pre := fun x => smallL x.1, f := fun x => (x.1, ()) }
theorem h109  : Holds Try.prog 109 (fn109) := by
  refine Holds.of_vc (T := []) (TT := ttL) (rowAt := []) (c := c109) (ros := [.t 2]) (.nil _) mixed Try.func109 (by decide +kernel) (by rfl) comp109 (by kernel_rfl) rfl rfl (fun h => by cases h) ?_
  rintro ⟨(l : List E), _⟩ hpre
  simp only [fn109] at hpre ⊢
  simp only [c109, go_sem, reduceIte, Nat.reduceBEq, Nat.reduceMul, reduceCtorEq, Nat.reduceAdd, Nat.reduceEqDiff, decide_eq_true_eq, decide_eq_false_iff_not, Bool.not_eq_true', Bool.not_eq_false', Bool.and_eq_true, Bool.or_eq_true, Bool.and_eq_false_iff, Bool.or_eq_false_iff, Bool.cond_true_left, Bool.cond_false_right, Bool.cond_true_right, Bool.cond_false_left, Bool.or_false, Bool.and_true, inR, decide_true]
  omega
def atL (l : List Int) (i : Int) : Int := if i < 0 ∨ (l.length : Int) ≤ i then 0 else l.getD i.toNat 0
def fn113 : Fn := { a := .pair (.list tI) (.pair tI .unit), r := .pair tI .unit, pre := fun _ => True, f := fun x => (atL x.1 x.2.1, ()) }
theorem h113  : Holds Try.prog 113 (fn113) := by
  refine Holds.of_vc (T := []) (TT := ttL) (rowAt := []) (c := c113) (ros := [.t 4]) (.nil _) mixed Try.func113 (by decide +kernel) (by rfl) comp113 (by kernel_rfl) rfl rfl (fun h => by cases h) ?_
  rintro ⟨(l : List Int), (i : Int), _⟩ hpre
  simp only [fn113] at hpre ⊢
  simp only [c113, go_sem, reduceIte, Nat.reduceBEq, Nat.reduceMul, reduceCtorEq, Nat.reduceAdd, Nat.reduceEqDiff, decide_eq_true_eq, decide_eq_false_iff_not, Bool.not_eq_true', Bool.not_eq_false', Bool.and_eq_true, Bool.or_eq_true, Bool.and_eq_false_iff, Bool.or_eq_false_iff, Bool.cond_true_left, Bool.cond_false_right, Bool.cond_true_right, Bool.cond_false_left, Bool.or_false, Bool.and_true, inR]
  exact ⟨fun h => (if_pos h).symm, fun h => ⟨by omega, (if_neg (by omega)).symm⟩⟩
def fn120 : Fn := { a := .pair (.list tI) .unit, r := .pair (.olist tI) .unit, pre := fun x => smallL x.1, f := fun x => (x.1, ()) }
theorem h120  : Holds Try.prog 120 (fn120) := by
  refine Holds.of_vc (T := []) (TT := ttL) (rowAt := []) (c := c120) (ros := [.t 2]) (.nil _) mixed Try.func120 (by decide +kernel) (by rfl) comp120 (by kernel_rfl) rfl rfl (fun h => by cases h) ?_
  rintro ⟨(l : List Int), _⟩ hpre
  simp only [fn120] at hpre ⊢
  simp only [c120, go_sem, reduceIte, Nat.reduceBEq, Nat.reduceMul, reduceCtorEq, Nat.reduceAdd, Nat.reduceEqDiff, decide_eq_true_eq, decide_eq_false_iff_not, Bool.not_eq_true', Bool.not_eq_false', Bool.and_eq_true, Bool.or_eq_true, Bool.and_eq_false_iff, Bool.or_eq_false_iff, Bool.cond_true_left, Bool.cond_false_right, Bool.cond_true_right, Bool.cond_false_left, Bool.or_false, Bool.and_true, inR]
  intro b hb
  simp only [sm] at hpre
  refine ⟨fun h => ?_, fun _ => ⟨by omega, by omega⟩⟩
  cases l with
  | nil => rfl
  | cons x l => rw [hb (by intro e; cases e)] at h; cases h
def putL (l : List Int) (i v : Int) : List Int := if 0 ≤ i ∧ i < l.length then l.set i.toNat v else l
def fn116 : Fn := { a := .pair (.list tI) (.pair tI (.pair tI .unit)), r := .pair (.olist tI) .unit, pre := fun x => smallL x.1, f := fun x => (putL x.1 x.2.1 x.2.2.1, ()) }
theorem h116  : Holds Try.prog 116 (fn116) := by
  refine Holds.of_vc (T := [(120, fn120)]) (TT := ttL) (rowAt := []) (c := c116) (ros := [.t 6]) (.cons _ h120 (.nil _)) mixed Try.func116 (by decide +kernel) (by rfl) comp116 (by kernel_rfl) rfl rfl (fun h => by cases h) ?_
  rintro ⟨(l : List Int), (i : Int), (v : Int), _⟩ hpre
  simp only [fn116] at hpre ⊢
  simp only [c116, fn120, go_sem, reduceIte, Nat.reduceBEq, Nat.reduceMul, reduceCtorEq, Nat.reduceAdd, Nat.reduceEqDiff, decide_eq_true_eq, decide_eq_false_iff_not, Bool.not_eq_true', Bool.not_eq_false', Bool.and_eq_true, Bool.or_eq_true, Bool.and_eq_false_iff, Bool.or_eq_false_iff, Bool.cond_true_left, Bool.cond_false_right, Bool.cond_true_right, Bool.cond_false_left, Bool.or_false, Bool.and_true, inR]
  exact ⟨hpre, fun h => (if_pos h).symm, fun h => (if_neg (by omega)).symm⟩
def takenM (n : Node) (m : Msg) (yes : Bool) (index : Int) : List Msg := [mkM 4 (nId n) (mFrom m) (nTerm n) index 0 yes 0 [] noB]
def fn106 : Fn := { a := .pair tNode (.pair tMsg (.pair .bool (.pair tI .unit))), r := .pair (.list tMsg) .unit, pre := fun _ => True, f := fun x => (takenM x.1 x.2.1 x.2.2.1 x.2.2.2.1, ()) }
theorem h106  : Holds Try.prog 106 (fn106) := by
  refine Holds.of_vc (T := []) (TT := ttL) (rowAt := []) (c := c106) (ros := [.t 8]) (.nil _) mixed Try.func106 (by decide +kernel) (by rfl) comp106 (by kernel_rfl) rfl rfl (fun h => by cases h) ?_
  rintro ⟨(n : Node), (m : Msg), (yes : Bool), (index : Int), _⟩ hpre
  simp only [fn106] at hpre ⊢
  simp only [c106, go_sem, reduceIte, Nat.reduceBEq, Nat.reduceMul, reduceCtorEq, Nat.reduceAdd, Nat.reduceEqDiff, decide_eq_true_eq, decide_eq_false_iff_not, Bool.not_eq_true', Bool.not_eq_false', Bool.and_eq_true, Bool.or_eq_true, Bool.and_eq_false_iff, Bool.or_eq_false_iff, Bool.cond_true_left, Bool.cond_false_right, Bool.cond_true_right, Bool.cond_false_left, Bool.or_false, Bool.and_true, inR]
  rfl
end Go.AM

set_option maxRecDepth 100000
set_option maxHeartbeats 8000000
set_option linter.unusedSimpArgs false
namespace Go.AM
open Go.Proofs
attribute [local congr] vc_congr evOps_congr evTab_congr bind_congr condK_congr tabK_congr
def rgN (n : Node) : Prop := 0 ≤ nBase n ∧ nBase n ≤ nCommit n ∧ nCommit n ≤ 4398046511104 ∧ last n ≤ 4398046511104 ∧ smallL (nLog n) ∧ 0 ≤ nNodes n ∧ nNodes n ≤ 100 ∧ smallL (nNext n) ∧ smallL (nMatch n)
def cntGe (l : List Int) (i : Int) (j : Nat) : Nat := (l.take j).countP fun k => decide (i ≤ k)
theorem cntGe_le (l : List Int) (i : Int) (j : Nat) : cntGe l i j ≤ j := by
  unfold cntGe
  have h1 := List.countP_le_length (p := fun k => decide (i ≤ k)) (l := l.take j)
  rw [List.length_take] at h1
  omega
theorem cntGe_succ {l : List Int} {i : Int} {j : Nat} (h : j < l.length) : cntGe l i (j + 1) = cntGe l i j + (if i ≤ l.getD j (dflt tI) then 1 else 0) := by
  unfold cntGe
  rw [List.take_add_one, List.countP_append, List.getD_eq_getElem?_getD, List.getElem?_eq_getElem h]
  simp only [Option.toList_some, Option.getD_some, List.countP_cons, List.countP_nil, decide_eq_true_eq, Nat.zero_add]
def advOk (n : Node) (i : Int) : Prop := termV n i = nTerm n ∧ most n ≤ (cntGe (nMatch n) i (nMatch n).length : Int)
instance (n : Node) (i : Int) : Decidable (advOk n i) := inferInstanceAs (Decidable (_ ∧ _))
def setCommit (n : Node) (c : Int) : Node := mkN (nId n) (nNodes n) (nTerm n) (nVote n) (nBase n) (nBT n) (nSnap n) (nLog n) (nRole n) (nLead n) c (nVotes n) (nNext n) (nMatch n) (nClock n)
def advC (n : Node) : Nat → Int
  | 0 => nCommit n
  | d + 1 => if advOk n (nCommit n + d + 1) then nCommit n + d + 1 else advC n d
def adv (n : Node) : Node := if nRole n = 2 then setCommit n (advC n (last n - nCommit n).toNat) else n
theorem advC_ok {n : Node} {i : Int} (hi : nCommit n < i) (h : advOk n i) : advC n (i - nCommit n).toNat = i := by
  obtain ⟨d, hd⟩ : ∃ d : Nat, i = nCommit n + d + 1 := ⟨(i - nCommit n - 1).toNat, by omega⟩
  rw [show (i - nCommit n).toNat = d + 1 by omega, advC, ← hd, if_pos h]
theorem advC_no {n : Node} {i : Int} (hi : nCommit n < i) (h : ¬ advOk n i) : advC n (i - nCommit n).toNat = advC n (i - 1 - nCommit n).toNat := by
  obtain ⟨d, hd⟩ : ∃ d : Nat, i = nCommit n + d + 1 := ⟨(i - nCommit n - 1).toNat, by omega⟩
  rw [show (i - nCommit n).toNat = d + 1 by omega, show (i - 1 - nCommit n).toNat = d by omega, advC, ← hd, if_neg h]
def fn56 : Fn := { a := .pair tNode .unit, r := .pair tNode .unit, pre := fun x => rgN x.1, f := fun x => (adv x.1, ()) }
theorem h56  : Holds Try.prog 56 (fn56) := by
  refine Holds.of_vc (T := [(52, fn52), (48, fn48), (44, fn44)]) (TT := ttL) (rowAt := []) (c := c56) (ros := [.c 2 15]) (.cons _ h52 (.cons _ h48 (.cons _ h44 (.nil _)))) mixed Try.func56 (by decide +kernel) (by rfl) comp56 (by kernel_rfl) rfl rfl (fun h => by cases h) ?_
  rintro ⟨(n : Node), _⟩ hpre
  simp only [fn56] at hpre ⊢
  simp only [c56, fn52, fn48, fn44, go_sem, reduceIte, Nat.reduceBEq, Nat.reduceMul, reduceCtorEq, Nat.reduceAdd, Nat.reduceEqDiff, decide_eq_true_eq, decide_eq_false_iff_not, Bool.not_eq_true', Bool.not_eq_false', Bool.and_eq_true, Bool.or_eq_true, Bool.and_eq_false_iff, Bool.or_eq_false_iff, Bool.cond_true_left, Bool.cond_false_right, Bool.cond_true_right, Bool.cond_false_left, Bool.or_false, Bool.and_true, inR, fn48]
  refine ⟨fun h => (if_neg h).symm, fun hr => ?_⟩
  have hadv : adv n = setCommit n (advC n (last n - nCommit n).toNat) := if_pos hr
  rw [hadv]
  clear hadv
  simp only [rgN, sm] at hpre
  refine ⟨by dsimp only [den, nId, nNodes, nTerm, nVote, nBase, nBT, nSnap, nLog, nRole, nLead, nCommit, nVotes, nNext, nMatch, nClock, mKind, mFrom, mTo, mTerm, mIndex, mAt, mYes, mCommit, mEntries, mSnap, eTerm, eCmd, mkN, mkM, mkE, last, inR, sm, lastT] at *; omega, ?_⟩
  refine loop_rule (β := Int) (fun i => ⟨[(1, .ptr 1 0), (2, .ptr 2 0), (3, .int .i64 i)], [(1, .box (cellsA tNode n [])), (2, .box zN)]⟩)
    (fun i => i ≤ last n ∧ (nCommit n ≤ i ∨ i = last n) ∧ advC n (last n - nCommit n).toNat = advC n (i - nCommit n).toNat) (fun i => (i - nCommit n).toNat) (last n) ?_ ?_ ?_
  · refine Ent_of [(1, 1), (2, 2)] rfl ?_ ?_
    · simp only [go_sem, reduceIte, Nat.reduceBEq, Nat.reduceMul, reduceCtorEq, Nat.reduceAdd, Nat.reduceEqDiff, decide_eq_true_eq, decide_eq_false_iff_not, Bool.not_eq_true', Bool.not_eq_false', Bool.and_eq_true, Bool.or_eq_true, Bool.and_eq_false_iff, Bool.or_eq_false_iff, Bool.cond_true_left, Bool.cond_false_right, Bool.cond_true_right, Bool.cond_false_left, Bool.or_false, Bool.and_true]
    · simp only [go_sem, reduceIte, Nat.reduceBEq, Nat.reduceMul, reduceCtorEq, Nat.reduceAdd, Nat.reduceEqDiff, decide_eq_true_eq, decide_eq_false_iff_not, Bool.not_eq_true', Bool.not_eq_false', Bool.and_eq_true, Bool.or_eq_true, Bool.and_eq_false_iff, Bool.or_eq_false_iff, Bool.cond_true_left, Bool.cond_false_right, Bool.cond_true_right, Bool.cond_false_left, Bool.or_false, Bool.and_true]
  · exact ⟨Int.le_refl _, .inr rfl, rfl⟩
  rintro i ⟨hi, hci, hk⟩
  simp only [go_sem, reduceIte, Nat.reduceBEq, Nat.reduceMul, reduceCtorEq, Nat.reduceAdd, Nat.reduceEqDiff, decide_eq_true_eq, decide_eq_false_iff_not, Bool.not_eq_true', Bool.not_eq_false', Bool.and_eq_true, Bool.or_eq_true, Bool.and_eq_false_iff, Bool.or_eq_false_iff, Bool.cond_true_left, Bool.cond_false_right, Bool.cond_true_right, Bool.cond_false_left, Bool.or_false, Bool.and_true, inR]
  have hC : nCommit n = n.2.2.2.2.2.2.2.2.2.2.1 := rfl
  have hBs : nBase n = n.2.2.2.2.1 := rfl
  have hml : (nMatch n).length = n.2.2.2.2.2.2.2.2.2.2.2.2.2.1.length := rfl
  refine ⟨fun h => ⟨⟨by omega, by omega, by omega⟩, fun hb => ⟨by omega, Again.intro (i - 1) (Ent_of [(1, 1), (2, 2)] rfl ?_ ?_) ⟨by omega, by omega, ?_⟩ (show (i - 1 - nCommit n).toNat < (i - nCommit n).toNat by omega)⟩, fun hg => ?_⟩, fun h => ?_⟩
  · simp only [go_sem, reduceIte, Nat.reduceBEq, Nat.reduceMul, reduceCtorEq, Nat.reduceAdd, Nat.reduceEqDiff, decide_eq_true_eq, decide_eq_false_iff_not, Bool.not_eq_true', Bool.not_eq_false', Bool.and_eq_true, Bool.or_eq_true, Bool.and_eq_false_iff, Bool.or_eq_false_iff, Bool.cond_true_left, Bool.cond_false_right, Bool.cond_true_right, Bool.cond_false_left, Bool.or_false, Bool.and_true]
  · simp only [go_sem, reduceIte, Nat.reduceBEq, Nat.reduceMul, reduceCtorEq, Nat.reduceAdd, Nat.reduceEqDiff, decide_eq_true_eq, decide_eq_false_iff_not, Bool.not_eq_true', Bool.not_eq_false', Bool.and_eq_true, Bool.or_eq_true, Bool.and_eq_false_iff, Bool.or_eq_false_iff, Bool.cond_true_left, Bool.cond_false_right, Bool.cond_true_right, Bool.cond_false_left, Bool.or_false, Bool.and_true]
  · rw [hk]
    refine advC_no (by omega) fun ho => ?_
    rcases hb with hb | hb
    · simp only [termOk, decide_eq_false_iff_not] at hb; omega
    · exact hb ho.1
  · refine loop_rule (β := Nat) (fun j => ⟨[(1, .ptr 1 0), (2, .ptr 2 0), (3, .int .i64 i), (6, .int .i64 (cntGe (nMatch n) i j)), (42, .sl tI (nMatch n) false), (43, .int .i64 (nMatch n).length), (44, .int .i64 j)], [(1, .box (cellsA tNode n [])), (2, .box zN)]⟩)
      (fun j => j ≤ (nMatch n).length) (fun j => (nMatch n).length - j) 0 ?_ ?_ ?_
    · refine Ent_of [(1, 1), (2, 2)] rfl ?_ ?_
      · simp only [go_sem, reduceIte, Nat.reduceBEq, Nat.reduceMul, reduceCtorEq, Nat.reduceAdd, Nat.reduceEqDiff, decide_eq_true_eq, decide_eq_false_iff_not, Bool.not_eq_true', Bool.not_eq_false', Bool.and_eq_true, Bool.or_eq_true, Bool.and_eq_false_iff, Bool.or_eq_false_iff, Bool.cond_true_left, Bool.cond_false_right, Bool.cond_true_right, Bool.cond_false_left, Bool.or_false, Bool.and_true]
      · simp only [go_sem, reduceIte, Nat.reduceBEq, Nat.reduceMul, reduceCtorEq, Nat.reduceAdd, Nat.reduceEqDiff, decide_eq_true_eq, decide_eq_false_iff_not, Bool.not_eq_true', Bool.not_eq_false', Bool.and_eq_true, Bool.or_eq_true, Bool.and_eq_false_iff, Bool.or_eq_false_iff, Bool.cond_true_left, Bool.cond_false_right, Bool.cond_true_right, Bool.cond_false_left, Bool.or_false, Bool.and_true]
        exact ⟨rfl, rfl⟩
    · exact Nat.zero_le _
    intro j hj
    have hc := cntGe_le (nMatch n) i j
    simp only [go_sem, reduceIte, Nat.reduceBEq, Nat.reduceMul, reduceCtorEq, Nat.reduceAdd, Nat.reduceEqDiff, decide_eq_true_eq, decide_eq_false_iff_not, Bool.not_eq_true', Bool.not_eq_false', Bool.and_eq_true, Bool.or_eq_true, Bool.and_eq_false_iff, Bool.or_eq_false_iff, Bool.cond_true_left, Bool.cond_false_right, Bool.cond_true_right, Bool.cond_false_left, Bool.or_false, Bool.and_true, inR]
    refine ⟨fun hlt => ⟨⟨by omega, by omega⟩, fun hp => ⟨by omega, by omega, Again.intro (j + 1) (Ent_of [(1, 1), (2, 2)] rfl ?_ ?_) ?_ (show (nMatch n).length - (j + 1) < (nMatch n).length - j by omega)⟩, fun hp => ⟨by omega, Again.intro (j + 1) (Ent_of [(1, 1), (2, 2)] rfl ?_ ?_) ?_ (show (nMatch n).length - (j + 1) < (nMatch n).length - j by omega)⟩⟩,
      fun hge => ⟨⟨by omega, by omega⟩, fun hmo => ?_, fun hmo => ⟨by omega, Again.intro (i - 1) (Ent_of [(1, 1), (2, 2)] rfl ?_ ?_) ⟨by omega, by omega, ?_⟩ (show (i - 1 - nCommit n).toNat < (i - nCommit n).toNat by omega)⟩⟩⟩
    · simp only [go_sem, reduceIte, Nat.reduceBEq, Nat.reduceMul, reduceCtorEq, Nat.reduceAdd, Nat.reduceEqDiff, decide_eq_true_eq, decide_eq_false_iff_not, Bool.not_eq_true', Bool.not_eq_false', Bool.and_eq_true, Bool.or_eq_true, Bool.and_eq_false_iff, Bool.or_eq_false_iff, Bool.cond_true_left, Bool.cond_false_right, Bool.cond_true_right, Bool.cond_false_left, Bool.or_false, Bool.and_true]
    · simp only [go_sem, reduceIte, Nat.reduceBEq, Nat.reduceMul, reduceCtorEq, Nat.reduceAdd, Nat.reduceEqDiff, decide_eq_true_eq, decide_eq_false_iff_not, Bool.not_eq_true', Bool.not_eq_false', Bool.and_eq_true, Bool.or_eq_true, Bool.and_eq_false_iff, Bool.or_eq_false_iff, Bool.cond_true_left, Bool.cond_false_right, Bool.cond_true_right, Bool.cond_false_left, Bool.or_false, Bool.and_true]
      rw [cntGe_succ (by omega), if_pos hp]
      omega
    · show j + 1 ≤ (nMatch n).length; omega
    · simp only [go_sem, reduceIte, Nat.reduceBEq, Nat.reduceMul, reduceCtorEq, Nat.reduceAdd, Nat.reduceEqDiff, decide_eq_true_eq, decide_eq_false_iff_not, Bool.not_eq_true', Bool.not_eq_false', Bool.and_eq_true, Bool.or_eq_true, Bool.and_eq_false_iff, Bool.or_eq_false_iff, Bool.cond_true_left, Bool.cond_false_right, Bool.cond_true_right, Bool.cond_false_left, Bool.or_false, Bool.and_true]
    · simp only [go_sem, reduceIte, Nat.reduceBEq, Nat.reduceMul, reduceCtorEq, Nat.reduceAdd, Nat.reduceEqDiff, decide_eq_true_eq, decide_eq_false_iff_not, Bool.not_eq_true', Bool.not_eq_false', Bool.and_eq_true, Bool.or_eq_true, Bool.and_eq_false_iff, Bool.or_eq_false_iff, Bool.cond_true_left, Bool.cond_false_right, Bool.cond_true_right, Bool.cond_false_left, Bool.or_false, Bool.and_true]
      rw [cntGe_succ (by omega), if_neg hp]
      omega
    · show j + 1 ≤ (nMatch n).length; omega
    · rw [show j = (nMatch n).length by omega] at hmo
      rw [hk, advC_ok (by omega) ⟨hg.2, hmo⟩]
      rfl
    · simp only [go_sem, reduceIte, Nat.reduceBEq, Nat.reduceMul, reduceCtorEq, Nat.reduceAdd, Nat.reduceEqDiff, decide_eq_true_eq, decide_eq_false_iff_not, Bool.not_eq_true', Bool.not_eq_false', Bool.and_eq_true, Bool.or_eq_true, Bool.and_eq_false_iff, Bool.or_eq_false_iff, Bool.cond_true_left, Bool.cond_false_right, Bool.cond_true_right, Bool.cond_false_left, Bool.or_false, Bool.and_true]
    · simp only [go_sem, reduceIte, Nat.reduceBEq, Nat.reduceMul, reduceCtorEq, Nat.reduceAdd, Nat.reduceEqDiff, decide_eq_true_eq, decide_eq_false_iff_not, Bool.not_eq_true', Bool.not_eq_false', Bool.and_eq_true, Bool.or_eq_true, Bool.and_eq_false_iff, Bool.or_eq_false_iff, Bool.cond_true_left, Bool.cond_false_right, Bool.cond_true_right, Bool.cond_false_left, Bool.or_false, Bool.and_true]
    · rw [show j = (nMatch n).length by omega] at hmo
      rw [hk, advC_no (by omega) fun ho => hmo ho.2]
  · rw [hk, show (i - nCommit n).toNat = 0 by omega]
    rfl
end Go.AM

set_option maxRecDepth 100000
set_option maxHeartbeats 8000000
set_option linter.unusedSimpArgs false
namespace Go.AM
open Go.Proofs
attribute [local congr] vc_congr evOps_congr evTab_congr bind_congr condK_congr tabK_congr
def sendM (n : Node) (to : Int) : Msg :=
  if atL (nNext n) to - 1 < nBase n then mkM 5 (nId n) to (nTerm n) (nBase n) (nBT n) false 0 [] (nSnap n)
  else mkM 3 (nId n) to (nTerm n) (atL (nNext n) to - 1) (termV n (atL (nNext n) to - 1)) false (nCommit n) ((behindN n (atL (nNext n) to - 1)).take 20) noB
def nextOk (n : Node) (to : Int) : Prop := -4398046511104 ≤ atL (nNext n) to ∧ atL (nNext n) to ≤ 4398046511104
def fn70 : Fn := { a := .pair tNode (.pair tI .unit), r := .pair tMsg .unit, pre := fun x => rgN x.1 ∧ nextOk x.1 x.2.1, f := fun x => (sendM x.1 x.2.1, ()) }
theorem h70  : Holds Try.prog 70 (fn70) := by
  refine Holds.of_vc (T := [(113, fn113), (48, fn48), (53, fn53), (105, fn105)]) (TT := ttL) (rowAt := []) (c := c70) (ros := [.c 4 10]) (.cons _ h113 (.cons _ h48 (.cons _ h53 (.cons _ h105 (.nil _))))) mixed Try.func70 (by decide +kernel) (by rfl) comp70 (by kernel_rfl) rfl rfl (fun h => by cases h) ?_
  rintro ⟨(n : Node), (to : Int), _⟩ hpre
  simp only [fn70] at hpre ⊢
  simp only [c70, fn113, fn48, fn53, fn105, go_sem, reduceIte, Nat.reduceBEq, Nat.reduceMul, reduceCtorEq, Nat.reduceAdd, Nat.reduceEqDiff, decide_eq_true_eq, decide_eq_false_iff_not, Bool.not_eq_true', Bool.not_eq_false', Bool.and_eq_true, Bool.or_eq_true, Bool.and_eq_false_iff, Bool.or_eq_false_iff, Bool.cond_true_left, Bool.cond_false_right, Bool.cond_true_right, Bool.cond_false_left, Bool.or_false, Bool.and_true, inR, fn48]
  simp only [rgN, nextOk, sm] at hpre
  unfold sendM
  have e0 : n.2.2.2.2.2.2.2.2.2.2.2.2.1 = nNext n := rfl
  simp only [e0]
  have h1 : -4398046511105 ≤ atL (nNext n) to - 1 ∧ atL (nNext n) to - 1 ≤ 4398046511104 := by omega
  generalize atL (nNext n) to - 1 = z at *
  have hl : last n = nBase n + (nLog n).length := rfl
  have hBs : nBase n = n.2.2.2.2.1 := rfl
  have ht : List.take (min ((behindN n z).length : Int) 20).toNat (behindN n z) = List.take 20 (behindN n z) := by
    rcases Nat.lt_or_ge (behindN n z).length 20 with h | h
    · rw [List.take_of_length_le (by omega), List.take_of_length_le (by omega)]
    · rw [show (min ((behindN n z).length : Int) 20).toNat = 20 by omega]
  refine ⟨by omega, by rfl, fun h => ⟨by rfl, (if_pos h).symm⟩, fun h => ⟨⟨by omega, by omega, by omega⟩, by omega, by omega, ?_, by rfl, ?_⟩⟩
  · rw [ht, sm, List.length_take]; omega
  · rw [ht]; exact (if_neg h).symm
def sendsN (n : Node) (i : Nat) : List Msg := ((List.range i).filter (fun j : Nat => decide ((j : Int) ≠ nId n))).map (fun j : Nat => sendM n j)
def othersN (n : Node) : List Msg := sendsN n (nodesN n).toNat
theorem sendsN_len (s : Node) (i : Nat) : (sendsN s i).length ≤ i := by
  unfold sendsN
  rw [List.length_map]
  have := List.length_filter_le (fun j : Nat => decide ((j : Int) ≠ nId s)) (List.range i)
  simpa using this
theorem sendsN_yes (s : Node) (i : Nat) (h : (i : Int) ≠ nId s) : sendsN s (i + 1) = sendsN s i ++ [sendM s i] := by
  unfold sendsN
  rw [List.range_succ, List.filter_append, List.map_append]
  simp [h]
theorem sendsN_no (s : Node) (i : Nat) (h : (i : Int) = nId s) : sendsN s (i + 1) = sendsN s i := by
  unfold sendsN
  rw [List.range_succ, List.filter_append, List.map_append]
  simp [h]
def nextsOk (n : Node) : Prop := ∀ v ∈ nNext n, -4398046511104 ≤ v ∧ v ≤ (4398046511104 : Int)
theorem nextsOk.at {n : Node} (h : nextsOk n) (to : Int) : nextOk n to := by
  unfold nextOk atL
  split
  · omega
  · rename_i hc
    have hlt : to.toNat < (nNext n).length := by omega
    rw [List.getD_eq_getElem?_getD, List.getElem?_eq_getElem hlt]
    exact h _ (List.getElem_mem hlt)
def fn111 : Fn := { a := .pair tNode .unit, r := .pair (.olist tMsg) .unit, pre := fun x => rgN x.1 ∧ nextsOk x.1, f := fun x => (othersN x.1, ()) }
theorem h111  : Holds Try.prog 111 (fn111) := by
  refine Holds.of_vc (T := [(108, fn108), (70, fn70)]) (TT := ttL) (rowAt := []) (c := c111) (ros := [.t 2]) (.cons _ h108 (.cons _ h70 (.nil _))) mixed Try.func111 (by decide +kernel) (by rfl) comp111 (by kernel_rfl) rfl rfl (fun h => by cases h) ?_
  rintro ⟨(n : Node), _⟩ hpre
  simp only [fn111] at hpre ⊢
  simp only [c111, fn108, fn70, go_sem, reduceIte, Nat.reduceBEq, Nat.reduceMul, reduceCtorEq, Nat.reduceAdd, Nat.reduceEqDiff, decide_eq_true_eq, decide_eq_false_iff_not, Bool.not_eq_true', Bool.not_eq_false', Bool.and_eq_true, Bool.or_eq_true, Bool.and_eq_false_iff, Bool.or_eq_false_iff, Bool.cond_true_left, Bool.cond_false_right, Bool.cond_true_right, Bool.cond_false_left, Bool.or_false, Bool.and_true, inR]
  have hn : 0 ≤ nodesN n ∧ nodesN n ≤ 5 := by unfold nodesN; omega
  generalize hq : nodesN n = q at *
  refine loop_rule (β := Nat) (fun i => ⟨[(1, .ptr 1 0), (3, .own 19 0 (sendsN n i).length), (6, .int .i64 q), (7, .int .i64 i)], [(1, .box (cellsA tNode n [])), (19, .row tMsg (sendsN n i) false)]⟩) (fun i => i ≤ q.toNat) (fun i => q.toNat - i) 0 ?_ ?_ ?_
  · refine Ent_of [(1, 1)] rfl ?_ ?_
    · simp only [go_sem, reduceIte, Nat.reduceBEq, Nat.reduceMul, reduceCtorEq, Nat.reduceAdd, Nat.reduceEqDiff, decide_eq_true_eq, decide_eq_false_iff_not, Bool.not_eq_true', Bool.not_eq_false', Bool.and_eq_true, Bool.or_eq_true, Bool.and_eq_false_iff, Bool.or_eq_false_iff, Bool.cond_true_left, Bool.cond_false_right, Bool.cond_true_right, Bool.cond_false_left, Bool.or_false, Bool.and_true]
      exact ⟨rfl, by decide⟩
    · simp only [go_sem, reduceIte, Nat.reduceBEq, Nat.reduceMul, reduceCtorEq, Nat.reduceAdd, Nat.reduceEqDiff, decide_eq_true_eq, decide_eq_false_iff_not, Bool.not_eq_true', Bool.not_eq_false', Bool.and_eq_true, Bool.or_eq_true, Bool.and_eq_false_iff, Bool.or_eq_false_iff, Bool.cond_true_left, Bool.cond_false_right, Bool.cond_true_right, Bool.cond_false_left, Bool.or_false, Bool.and_true]
      exact ⟨rfl, rfl⟩
  · exact Nat.zero_le _
  intro i hi
  have hl := sendsN_len n i
  simp only [go_sem, reduceIte, Nat.reduceBEq, Nat.reduceMul, reduceCtorEq, Nat.reduceAdd, Nat.reduceEqDiff, decide_eq_true_eq, decide_eq_false_iff_not, Bool.not_eq_true', Bool.not_eq_false', Bool.and_eq_true, Bool.or_eq_true, Bool.and_eq_false_iff, Bool.or_eq_false_iff, Bool.cond_true_left, Bool.cond_false_right, Bool.cond_true_right, Bool.cond_false_left, Bool.or_false, Bool.and_true, inR]
  refine ⟨fun h => ⟨fun hne => ⟨⟨hpre.1, hpre.2.at _⟩, by omega, by omega, Again.intro (i + 1) (Ent_of [(1, 1), (19, 19)] rfl ?_ ?_) ?_ (show q.toNat - (i + 1) < q.toNat - i by omega)⟩, fun he => ⟨by omega, Again.intro (i + 1) (Ent_of [(1, 1), (19, 19)] rfl ?_ ?_) ?_ (show q.toNat - (i + 1) < q.toNat - i by omega)⟩⟩, fun h => ?_⟩
  · simp only [go_sem, reduceIte, Nat.reduceBEq, Nat.reduceMul, reduceCtorEq, Nat.reduceAdd, Nat.reduceEqDiff, decide_eq_true_eq, decide_eq_false_iff_not, Bool.not_eq_true', Bool.not_eq_false', Bool.and_eq_true, Bool.or_eq_true, Bool.and_eq_false_iff, Bool.or_eq_false_iff, Bool.cond_true_left, Bool.cond_false_right, Bool.cond_true_right, Bool.cond_false_left, Bool.or_false, Bool.and_true]
    exact sendsN_yes n i hne
  · simp only [go_sem, reduceIte, Nat.reduceBEq, Nat.reduceMul, reduceCtorEq, Nat.reduceAdd, Nat.reduceEqDiff, decide_eq_true_eq, decide_eq_false_iff_not, Bool.not_eq_true', Bool.not_eq_false', Bool.and_eq_true, Bool.or_eq_true, Bool.and_eq_false_iff, Bool.or_eq_false_iff, Bool.cond_true_left, Bool.cond_false_right, Bool.cond_true_right, Bool.cond_false_left, Bool.or_false, Bool.and_true]
    rw [sendsN_yes n i hne, List.length_append]
    exact ⟨rfl, by omega⟩
  · show i + 1 ≤ q.toNat; omega
  · simp only [go_sem, reduceIte, Nat.reduceBEq, Nat.reduceMul, reduceCtorEq, Nat.reduceAdd, Nat.reduceEqDiff, decide_eq_true_eq, decide_eq_false_iff_not, Bool.not_eq_true', Bool.not_eq_false', Bool.and_eq_true, Bool.or_eq_true, Bool.and_eq_false_iff, Bool.or_eq_false_iff, Bool.cond_true_left, Bool.cond_false_right, Bool.cond_true_right, Bool.cond_false_left, Bool.or_false, Bool.and_true]
    exact sendsN_no n i he
  · simp only [go_sem, reduceIte, Nat.reduceBEq, Nat.reduceMul, reduceCtorEq, Nat.reduceAdd, Nat.reduceEqDiff, decide_eq_true_eq, decide_eq_false_iff_not, Bool.not_eq_true', Bool.not_eq_false', Bool.and_eq_true, Bool.or_eq_true, Bool.and_eq_false_iff, Bool.or_eq_false_iff, Bool.cond_true_left, Bool.cond_false_right, Bool.cond_true_right, Bool.cond_false_left, Bool.or_false, Bool.and_true]
    rw [sendsN_no n i he]
    exact ⟨rfl, by omega⟩
  · show i + 1 ≤ q.toNat; omega
  · unfold othersN; rw [hq, show i = q.toNat by omega]
theorem putL_len (l : List Int) (i v : Int) : (putL l i v).length = l.length := by
  unfold putL; split
  · exact List.length_set ..
  · rfl
def setMatch (n : Node) (l : List Int) : Node := mkN (nId n) (nNodes n) (nTerm n) (nVote n) (nBase n) (nBT n) (nSnap n) (nLog n) (nRole n) (nLead n) (nCommit n) (nVotes n) (nNext n) l (nClock n)
theorem rgN_setMatch {n : Node} {l : List Int} (h : rgN n) (hl : l.length = (nMatch n).length) : rgN (setMatch n l) := by
  simp only [rgN] at h ⊢
  refine ⟨h.1, h.2.1, h.2.2.1, h.2.2.2.1, h.2.2.2.2.1, h.2.2.2.2.2.1, h.2.2.2.2.2.2.1, h.2.2.2.2.2.2.2.1, ?_⟩
  have := h.2.2.2.2.2.2.2.2
  rw [sm] at this ⊢
  show l.length ≤ _
  omega
def ownM (n : Node) : Node := adv (setMatch n (putL (nMatch n) (nId n) (last n)))
def fn110 : Fn := { a := .pair tNode .unit, r := .pair tNode .unit, pre := fun x => rgN x.1, f := fun x => (ownM x.1, ()) }
theorem h110  : Holds Try.prog 110 (fn110) := by
  refine Holds.of_vc (T := [(52, fn52), (116, fn116), (56, fn56)]) (TT := ttL) (rowAt := []) (c := c110) (ros := [.c 2 15]) (.cons _ h52 (.cons _ h116 (.cons _ h56 (.nil _)))) mixed Try.func110 (by decide +kernel) (by rfl) comp110 (by kernel_rfl) rfl rfl (fun h => by cases h) ?_
  rintro ⟨(n : Node), _⟩ hpre
  simp only [fn110] at hpre ⊢
  simp only [c110, fn52, fn116, fn56, go_sem, reduceIte, Nat.reduceBEq, Nat.reduceMul, reduceCtorEq, Nat.reduceAdd, Nat.reduceEqDiff, decide_eq_true_eq, decide_eq_false_iff_not, Bool.not_eq_true', Bool.not_eq_false', Bool.and_eq_true, Bool.or_eq_true, Bool.and_eq_false_iff, Bool.or_eq_false_iff, Bool.cond_true_left, Bool.cond_false_right, Bool.cond_true_right, Bool.cond_false_left, Bool.or_false, Bool.and_true, inR]
  have hr := rgN_setMatch hpre (putL_len (nMatch n) (nId n) (last n))
  have hl : last n = nBase n + (nLog n).length := rfl
  simp only [rgN] at hpre
  exact ⟨by omega, hpre.2.2.2.2.2.2.2.2, by rfl, hr, rfl⟩
def lead0 (n : Node) : Node := mkN (nId n) (nNodes n) (nTerm n) (nVote n) (nBase n) (nBT n) (nSnap n) (nLog n ++ [mkE (nTerm n) noB]) 2 (nId n) (nCommit n) (nVotes n) (List.replicate (nodesN n).toNat (last n + 1)) (List.replicate (nodesN n).toNat 0) 0
def lead1 (n : Node) : Node := ownM (lead0 n)
def lead2 (n : Node) : List Msg := othersN (lead1 n)
def rgL (n : Node) : Prop := rgN n ∧ last n ≤ 4398046511000 ∧ (nLog n).length ≤ 1048000
theorem adv_next (n : Node) : nNext (adv n) = nNext n := by unfold adv; split <;> rfl
theorem advC_bd (n : Node) : ∀ d, nCommit n ≤ advC n d ∧ advC n d ≤ nCommit n + d := by
  intro d
  induction d with
  | zero => unfold advC; omega
  | succ d ih => unfold advC; split <;> omega
theorem rgN_adv {n : Node} (h : rgN n) : rgN (adv n) := by
  unfold adv; split
  · have := advC_bd n (last n - nCommit n).toNat
    simp only [rgN] at h ⊢
    exact ⟨h.1, show nBase n ≤ advC n _ by omega, show advC n _ ≤ _ by omega, h.2.2.2.1, h.2.2.2.2.1, h.2.2.2.2.2.1, h.2.2.2.2.2.2.1, h.2.2.2.2.2.2.2.1, h.2.2.2.2.2.2.2.2⟩
  · exact h
theorem rgN_own {n : Node} (h : rgN n) : rgN (ownM n) := rgN_adv (rgN_setMatch h (putL_len ..))
theorem rgN_lead0 {n : Node} (h : rgL n) : rgN (lead0 n) := by
  simp only [rgL, rgN, sm] at h
  have hq : (nodesN n).toNat ≤ 5 := by unfold nodesN; omega
  have hl : last n = nBase n + (nLog n).length := rfl
  have h1 : (nLog n ++ [mkE (nTerm n) noB]).length = (nLog n).length + 1 := List.length_append ..
  have h2 : last (lead0 n) = nBase n + (nLog n).length + 1 := by
    show nBase n + ((nLog n ++ [mkE (nTerm n) noB]).length : Int) = _
    omega
  simp only [rgN, sm]
  refine ⟨show 0 ≤ nBase n by omega, show nBase n ≤ nCommit n by omega, show nCommit n ≤ _ by omega, by omega, ?_, show 0 ≤ nNodes n by omega, show nNodes n ≤ 100 by omega, ?_, ?_⟩
  · show (nLog n ++ [mkE (nTerm n) noB]).length ≤ _; omega
  · show (List.replicate _ _).length ≤ _; rw [List.length_replicate]; omega
  · show (List.replicate _ _).length ≤ _; rw [List.length_replicate]; omega
def fn67 : Fn := { a := .pair tNode .unit, r := .pair tNode (.pair (.olist tMsg) .unit), pre := fun x => rgL x.1, f := fun x => (lead1 x.1, lead2 x.1, ()) }
theorem h67  : Holds Try.prog 67 (fn67) := by
  refine Holds.of_vc (T := [(108, fn108), (52, fn52), (109, fn109), (110, fn110), (111, fn111)]) (TT := ttL) (rowAt := []) (c := c67) (ros := [.c 2 15, .t 3]) (.cons _ h108 (.cons _ h52 (.cons _ h109 (.cons _ h110 (.cons _ h111 (.nil _)))))) mixed Try.func67 (by decide +kernel) (by rfl) comp67 (by kernel_rfl) rfl rfl (fun h => by cases h) ?_
  rintro ⟨(n : Node), _⟩ hpre
  simp only [fn67] at hpre ⊢
  simp only [c67, fn108, fn52, fn109, fn110, fn111, go_sem, reduceIte, Nat.reduceBEq, Nat.reduceMul, reduceCtorEq, Nat.reduceAdd, Nat.reduceEqDiff, decide_eq_true_eq, decide_eq_false_iff_not, Bool.not_eq_true', Bool.not_eq_false', Bool.and_eq_true, Bool.or_eq_true, Bool.and_eq_false_iff, Bool.or_eq_false_iff, Bool.cond_true_left, Bool.cond_false_right, Bool.cond_true_right, Bool.cond_false_left, Bool.or_false, Bool.and_true, inR, nodesN_pr, last_pr]
  have hq : 0 ≤ ndI n.2.1 ∧ ndI n.2.1 ≤ 5 := by unfold ndI; omega
  have hqe : nodesN n = ndI n.2.1 := rfl
  generalize ndI n.2.1 = q at *
  refine ⟨by omega, by omega, by rfl, ?_⟩
  refine loop_rule (β := Nat) (fun i => ⟨[(1, .ptr 1 0), (2, .ptr 2 0), (20, .int .i64 q.toNat), (21, .int .i64 i)], [(1, .box [.int .i64 (nId n), .int .i64 (nNodes n), .int .i64 (nTerm n), .int .i64 (nVote n), .int .i64 (nBase n), .int .i64 (nBT n), .str (nSnap n), .sl tEntry (nLog n) false, .int .i64 2, .int .i64 (nId n), .int .i64 (nCommit n), .sl .bool (nVotes n) false, .own 12 0 q.toNat, .own 15 0 q.toNat, .int .i64 0]), (2, .box zN),
      (12, .row tI (List.replicate i (last n + 1) ++ List.replicate (q.toNat - i) 0) false), (15, .row tI (List.replicate q.toNat 0) false)]⟩)
    (fun i => i ≤ q.toNat) (fun i => q.toNat - i) 0 ?_ ?_ ?_
  · refine Ent_of [(1, 1), (2, 2), (12, 12), (15, 15)] rfl ?_ ?_
    · simp only [go_sem, reduceIte, Nat.reduceBEq, Nat.reduceMul, reduceCtorEq, Nat.reduceAdd, Nat.reduceEqDiff, decide_eq_true_eq, decide_eq_false_iff_not, Bool.not_eq_true', Bool.not_eq_false', Bool.and_eq_true, Bool.or_eq_true, Bool.and_eq_false_iff, Bool.or_eq_false_iff, Bool.cond_true_left, Bool.cond_false_right, Bool.cond_true_right, Bool.cond_false_left, Bool.or_false, Bool.and_true]
      exact ⟨rfl, rfl⟩
    · simp only [go_sem, reduceIte, Nat.reduceBEq, Nat.reduceMul, reduceCtorEq, Nat.reduceAdd, Nat.reduceEqDiff, decide_eq_true_eq, decide_eq_false_iff_not, Bool.not_eq_true', Bool.not_eq_false', Bool.and_eq_true, Bool.or_eq_true, Bool.and_eq_false_iff, Bool.or_eq_false_iff, Bool.cond_true_left, Bool.cond_false_right, Bool.cond_true_right, Bool.cond_false_left, Bool.or_false, Bool.and_true]
      rfl
  · exact Nat.zero_le _
  intro i hi
  simp only [go_sem, reduceIte, Nat.reduceBEq, Nat.reduceMul, reduceCtorEq, Nat.reduceAdd, Nat.reduceEqDiff, decide_eq_true_eq, decide_eq_false_iff_not, Bool.not_eq_true', Bool.not_eq_false', Bool.and_eq_true, Bool.or_eq_true, Bool.and_eq_false_iff, Bool.or_eq_false_iff, Bool.cond_true_left, Bool.cond_false_right, Bool.cond_true_right, Bool.cond_false_left, Bool.or_false, Bool.and_true, inR, nodesN_pr, last_pr]
  simp only [mkPr, mkPrE]
  have hL := hpre
  simp only [rgL, rgN, sm] at hL
  have hl : last n = nBase n + (nLog n).length := rfl
  refine ⟨fun h => ⟨show InR .i64 (last n) from by rw [inR]; omega, show InR .i64 (last n + 1) from by rw [inR]; omega, by omega, by rfl, by omega, Again.intro (i + 1) (Ent_of [(1, 1), (2, 2), (12, 12), (15, 15)] rfl ?_ ?_) ?_ (show q.toNat - (i + 1) < q.toNat - i by omega)⟩, fun h => ?_⟩
  · simp only [go_sem, reduceIte, Nat.reduceBEq, Nat.reduceMul, reduceCtorEq, Nat.reduceAdd, Nat.reduceEqDiff, decide_eq_true_eq, decide_eq_false_iff_not, Bool.not_eq_true', Bool.not_eq_false', Bool.and_eq_true, Bool.or_eq_true, Bool.and_eq_false_iff, Bool.or_eq_false_iff, Bool.cond_true_left, Bool.cond_false_right, Bool.cond_true_right, Bool.cond_false_left, Bool.or_false, Bool.and_true]
    exact (reps_set (a := last n + 1) (b := 0) i q.toNat (by omega)).symm
  · simp only [go_sem, reduceIte, Nat.reduceBEq, Nat.reduceMul, reduceCtorEq, Nat.reduceAdd, Nat.reduceEqDiff, decide_eq_true_eq, decide_eq_false_iff_not, Bool.not_eq_true', Bool.not_eq_false', Bool.and_eq_true, Bool.or_eq_true, Bool.and_eq_false_iff, Bool.or_eq_false_iff, Bool.cond_true_left, Bool.cond_false_right, Bool.cond_true_right, Bool.cond_false_left, Bool.or_false, Bool.and_true]
    omega
  · show i + 1 ≤ q.toNat; omega
  have e1 : List.take q.toNat (List.replicate i (last n + 1) ++ List.replicate (q.toNat - i) 0) = List.replicate (nodesN n).toNat (last n + 1) := by
    rw [hqe, show i = q.toNat by omega, Nat.sub_self, List.replicate_zero, List.append_nil, List.take_replicate, Nat.min_self]
  have e2 : List.take ((nLog n).length + 1) (nLog n ++ [mkE (nTerm n) noB]) = nLog n ++ [mkE (nTerm n) noB] := List.take_of_length_le (by rw [List.length_append]; exact Nat.le_refl _)
  have e3 : mkN (nId n) (nNodes n) (nTerm n) (nVote n) (nBase n) (nBT n) (nSnap n) (nLog n ++ [mkE (nTerm n) noB]) 2 (nId n) (nCommit n) (nVotes n) (List.replicate (nodesN n).toNat (last n + 1)) (List.replicate q.toNat 0) 0 = lead0 n := by
    unfold lead0; rw [hqe]
  have e4 := rgN_lead0 hpre
  simp only [e1, e2, e3]
  refine ⟨hpre.1.2.2.2.2.1, ⟨.inr (by intro e; cases e), by omega, by omega⟩, by rfl, e4, ⟨rgN_own e4, ?_⟩, by rfl, rfl, rfl⟩
  unfold nextsOk ownM
  rw [adv_next]
  intro v hv
  have := List.eq_of_mem_replicate hv
  omega
end Go.AM
