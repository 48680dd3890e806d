import Derived.Test.YtbcbgfkojmligaaAA
import Derived.KernelRfl
import Derived.Test.YtbcbgfkojmligaaProg
/- Functions of the program as code of the abstract machine, each with the proof that it is that code; no condition. -/
set_option maxRecDepth 100000
namespace Go.AM
def c56 : C := (.seq (.reg [⟨(some 1), .box, [.t 0], none⟩,
  ⟨(some 2), (.alloc [.int .i64 0, .int .i64 0, .int .i64 0, .int .i64 0, .int .i64 0, .int .i64 0, .str ⟨#[]⟩, .sl tEntry [] true, .int .i64 0, .int .i64 0, .int .i64 0, .sl .bool [] true, .sl tI [] true, .sl tI [] true, .int .i64 0]), [], none⟩])
 (.seq (.seq (.reg [⟨(some 9), (.fld 8), [.t 1], none⟩,
  ⟨(some 10), (.load 1 false), [.t 9], none⟩,
  ⟨(some 11), (.bin .neq), [.t 10, .c (.int .i64 2)], none⟩])
 (.cond (.t 11) (.seq (.reg [⟨(some 12), (.load 15 true), [.t 1], none⟩,
  ⟨none, (.store 15), [.t 2, .t 12], none⟩])
 .ret) .skip))
 (.seq .skip
 (.seq (.seq (.reg [⟨(some 13), (.load 15 true), [.t 1], none⟩,
  ⟨(some 14), (.call 52), [.t 13], none⟩,
  ⟨(some 3), .mv, [.t 14], none⟩])
 (.block 0 (.loop (.seq (.seq (.reg [⟨(some 15), .mv, [.t 3], none⟩,
  ⟨(some 16), (.fld 10), [.t 1], none⟩,
  ⟨(some 17), (.load 1 false), [.t 16], none⟩,
  ⟨(some 18), (.bin .gtr), [.t 15, .t 17], none⟩,
  ⟨(some 19), .mv, [.t 18], none⟩,
  ⟨(some 20), .mv, [.t 3], (some (19, true))⟩,
  ⟨(some 21), (.fld 4), [.t 1], (some (19, true))⟩,
  ⟨(some 22), (.load 1 false), [.t 21], (some (19, true))⟩,
  ⟨(some 23), (.bin .gtr), [.t 20, .t 22], (some (19, true))⟩,
  ⟨(some 24), .pick, [.t 19, .t 23, .c (.bool false)], none⟩])
 (.cond (.t 24) .skip (.exit 0)))
 (.seq (.block 1 (.seq (.seq (.reg [⟨(some 28), (.load 15 true), [.t 1], none⟩,
  ⟨(some 29), .mv, [.t 3], none⟩,
  ⟨(some 30), (.call 48), [.t 28, .t 29], none⟩,
  ⟨(some 27), .mv, [.t 30], none⟩,
  ⟨(some 31), (.ext 0), [.t 27], none⟩,
  ⟨(some 32), (.ext 1), [.t 27], none⟩,
  ⟨(some 4), .mv, [.t 31], none⟩,
  ⟨(some 5), .mv, [.t 32], none⟩])
 (.seq (.reg [⟨(some 33), .mv, [.t 5], none⟩,
  ⟨(some 34), .not, [.t 33], none⟩,
  ⟨(some 35), .mv, [.t 34], none⟩,
  ⟨(some 36), .mv, [.t 4], (some (35, false))⟩,
  ⟨(some 37), (.fld 2), [.t 1], (some (35, false))⟩,
  ⟨(some 38), (.load 1 false), [.t 37], (some (35, false))⟩,
  ⟨(some 39), (.bin .neq), [.t 36, .t 38], (some (35, false))⟩,
  ⟨(some 40), .pick, [.t 35, .c (.bool true), .t 39], none⟩])
 (.cond (.t 40) (.exit 1) .skip)))
 (.seq (.reg [⟨(some 6), .mv, [.c (.int .i64 0)], none⟩])
 (.seq (.seq (.reg [⟨(some 41), (.fld 13), [.t 1], none⟩,
  ⟨(some 42), (.load 1 false), [.t 41], none⟩,
  ⟨(some 43), .len, [.t 42], none⟩,
  ⟨(some 44), .mv, [.c (.int .i64 0)], none⟩])
 (.block 2 (.loop (.seq (.reg [⟨(some 45), (.bin .lss), [.t 44, .t 43], none⟩])
 (.seq (.cond (.t 45) .skip (.exit 2))
 (.seq (.block 3 (.seq (.reg [⟨(some 46), (.idx 1), [.t 42, .t 44], none⟩,
  ⟨(some 47), (.load 1 false), [.t 46], none⟩,
  ⟨(some 8), .mv, [.t 47], none⟩])
 (.seq (.reg [⟨(some 48), .mv, [.t 8], none⟩,
  ⟨(some 49), .mv, [.t 3], none⟩,
  ⟨(some 50), (.bin .geq), [.t 48, .t 49], none⟩])
 (.cond (.t 50) (.reg [⟨(some 51), .mv, [.t 6], none⟩,
  ⟨(some 52), (.bin .add), [.t 51, .c (.int .i64 1)], none⟩,
  ⟨(some 6), .mv, [.t 52], none⟩]) .skip))))
 (.reg [⟨(some 53), (.bin .add), [.t 44, .c (.int .i64 1)], none⟩,
  ⟨(some 44), .mv, [.t 53], none⟩])))))))
 (.seq (.reg [⟨(some 54), .mv, [.t 6], none⟩,
  ⟨(some 55), (.load 15 true), [.t 1], none⟩,
  ⟨(some 56), (.call 44), [.t 55], none⟩,
  ⟨(some 57), (.bin .geq), [.t 54, .t 56], none⟩])
 (.cond (.t 57) (.seq (.reg [⟨(some 58), .mv, [.t 3], none⟩,
  ⟨(some 59), (.fld 10), [.t 1], none⟩,
  ⟨none, (.store 1), [.t 59, .t 58], none⟩])
 (.exit 0)) .skip))))))
 (.reg [⟨(some 25), .mv, [.t 3], none⟩,
  ⟨(some 26), (.bin .sub), [.t 25, .c (.int .i64 1)], none⟩,
  ⟨(some 3), .mv, [.t 26], none⟩]))))))
 (.seq (.reg [⟨(some 60), (.load 15 true), [.t 1], none⟩,
  ⟨none, (.store 15), [.t 2, .t 60], none⟩])
 .ret)))))
theorem comp56 : compC Go.Proofs.Try.prog ttL 61 [] (match Go.Proofs.Try.f56.body with | some b => b | none => .skip) = some (c56) := by kernel_rfl
def c67 : C := (.seq (.reg [⟨(some 1), .box, [.t 0], none⟩,
  ⟨(some 2), (.alloc [.int .i64 0, .int .i64 0, .int .i64 0, .int .i64 0, .int .i64 0, .int .i64 0, .str ⟨#[]⟩, .sl tEntry [] true, .int .i64 0, .int .i64 0, .int .i64 0, .sl .bool [] true, .sl tI [] true, .sl tI [] true, .int .i64 0]), [], none⟩,
  ⟨(some 3), .mv, [.c (.sl tMsg [] true)], none⟩])
 (.seq (.reg [⟨(some 5), (.fld 0), [.t 1], none⟩,
  ⟨(some 6), (.load 1 false), [.t 5], none⟩,
  ⟨(some 7), (.fld 8), [.t 1], none⟩,
  ⟨none, (.store 1), [.t 7, .c (.int .i64 2)], none⟩,
  ⟨(some 8), (.fld 9), [.t 1], none⟩,
  ⟨none, (.store 1), [.t 8, .t 6], none⟩,
  ⟨(some 9), (.fld 14), [.t 1], none⟩,
  ⟨none, (.store 1), [.t 9, .c (.int .i64 0)], none⟩])
 (.seq (.regd [⟨(some 10), (.load 15 true), [.t 1], none⟩,
  ⟨(some 11), (.call 108), [.t 10], none⟩,
  ⟨(some 12), (.mks tI 8), [.t 11, .t 11], none⟩,
  ⟨(some 13), (.load 15 true), [.t 1], none⟩,
  ⟨(some 14), (.call 108), [.t 13], none⟩,
  ⟨(some 15), (.mks tI 8), [.t 14, .t 14], none⟩,
  ⟨(some 16), (.fld 12), [.t 1], none⟩,
  ⟨none, (.store 1), [.t 16, .t 12], none⟩,
  ⟨(some 17), (.fld 13), [.t 1], none⟩,
  ⟨none, (.store 1), [.t 17, .t 15], none⟩] [0, 1, 2, 0, 10, 16, 15, 95, 255, 511])
 (.seq (.seq (.reg [⟨(some 18), (.fld 12), [.t 1], none⟩,
  ⟨(some 19), (.load 1 false), [.t 18], none⟩,
  ⟨(some 20), .len, [.t 19], none⟩,
  ⟨(some 21), .mv, [.c (.int .i64 0)], none⟩])
 (.block 0 (.loop (.seq (.reg [⟨(some 22), (.bin .lss), [.t 21, .t 20], none⟩])
 (.seq (.cond (.t 22) .skip (.exit 0))
 (.seq (.block 1 (.seq (.reg [⟨(some 23), .mv, [.t 21], none⟩,
  ⟨(some 4), .mv, [.t 23], none⟩])
 (.regd [⟨(some 24), (.fld 12), [.t 1], none⟩,
  ⟨(some 25), (.load 1 false), [.t 24], none⟩,
  ⟨(some 26), .mv, [.t 4], none⟩,
  ⟨(some 27), (.load 15 true), [.t 1], none⟩,
  ⟨(some 28), (.call 52), [.t 27], none⟩,
  ⟨(some 29), (.bin .add), [.t 28, .c (.int .i64 1)], none⟩,
  ⟨(some 30), (.idx 1), [.t 25, .t 26], none⟩,
  ⟨none, (.store 1), [.t 30, .t 29], none⟩] [0, 1, 0, 0, 8, 16, 63, 127])))
 (.reg [⟨(some 31), (.bin .add), [.t 21, .c (.int .i64 1)], none⟩,
  ⟨(some 21), .mv, [.t 31], none⟩])))))))
 (.seq (.regd [⟨(some 32), (.fld 7), [.t 1], none⟩,
  ⟨(some 33), (.load 1 false), [.t 32], none⟩,
  ⟨(some 34), (.call 109), [.t 33], none⟩,
  ⟨(some 35), (.fld 2), [.t 1], none⟩,
  ⟨(some 36), (.load 1 false), [.t 35], none⟩,
  ⟨(some 37), (.build [.int .i64 0, .str ⟨#[]⟩] [(0, 1)]), [.t 36], none⟩,
  ⟨(some 38), (.bslice tEntry 1), [.t 37], none⟩,
  ⟨(some 39), (.app 2 24), [.t 34, .t 38], none⟩,
  ⟨(some 40), (.fld 7), [.t 1], none⟩,
  ⟨none, (.store 1), [.t 40, .t 39], none⟩] [0, 1, 2, 0, 8, 16, 32, 68, 255, 511])
 (.seq (.reg [⟨(some 41), (.load 15 true), [.t 1], none⟩,
  ⟨(some 42), (.call 110), [.t 41], none⟩,
  ⟨none, (.store 15), [.t 1, .t 42], none⟩])
 (.seq (.regd [⟨(some 43), (.load 15 true), [.t 1], none⟩,
  ⟨(some 44), (.load 15 true), [.t 1], none⟩,
  ⟨(some 45), (.call 111), [.t 44], none⟩,
  ⟨none, (.store 15), [.t 2, .t 43], none⟩,
  ⟨(some 3), .mv, [.t 45], none⟩] [0, 0, 2, 5, 15])
 .ret)))))))
theorem comp67 : compC Go.Proofs.Try.prog ttL 46 [] (match Go.Proofs.Try.f67.body with | some b => b | none => .skip) = some (c67) := by kernel_rfl
def c70 : C := (.seq (.reg [⟨(some 2), .box, [.t 0], none⟩,
  ⟨(some 4), (.alloc [.int .i64 0, .int .i64 0, .int .i64 0, .int .i64 0, .int .i64 0, .int .i64 0, .bool false, .int .i64 0, .sl tEntry [] true, .str ⟨#[]⟩]), [], none⟩])
 (.seq (.regd [⟨(some 7), (.fld 0), [.t 2], none⟩,
  ⟨(some 8), (.load 1 false), [.t 7], none⟩,
  ⟨(some 9), .mv, [.t 1], none⟩,
  ⟨(some 10), (.fld 2), [.t 2], none⟩,
  ⟨(some 11), (.load 1 false), [.t 10], none⟩,
  ⟨(some 12), (.fld 12), [.t 2], none⟩,
  ⟨(some 13), (.load 1 false), [.t 12], none⟩,
  ⟨(some 14), .mv, [.t 1], none⟩,
  ⟨(some 15), (.call 113), [.t 13, .t 14], none⟩,
  ⟨(some 16), (.bin .sub), [.t 15, .c (.int .i64 1)], none⟩,
  ⟨(some 17), (.build [.int .i64 0, .int .i64 0, .int .i64 0, .int .i64 0, .int .i64 0, .int .i64 0, .bool false, .int .i64 0, .sl tEntry [] true, .str ⟨#[]⟩] [(0, 1), (1, 1), (2, 1), (3, 1), (4, 1)]), [.c (.int .i64 3), .t 8, .t 9, .t 11, .t 16], none⟩,
  ⟨(some 5), (.alloc [.int .i64 0, .int .i64 0, .int .i64 0, .int .i64 0, .int .i64 0, .int .i64 0, .bool false, .int .i64 0, .sl tEntry [] true, .str ⟨#[]⟩]), [], none⟩,
  ⟨none, (.store 10), [.t 5, .t 17], none⟩] [0, 1, 0, 0, 8, 0, 32, 0, 192, 256, 534, 0, 4095])
 (.seq (.seq (.reg [⟨(some 18), (.fld 4), [.t 5], none⟩,
  ⟨(some 19), (.load 1 false), [.t 18], none⟩,
  ⟨(some 20), (.fld 4), [.t 2], none⟩,
  ⟨(some 21), (.load 1 false), [.t 20], none⟩,
  ⟨(some 22), (.bin .lss), [.t 19, .t 21], none⟩])
 (.cond (.t 22) (.seq (.regd [⟨(some 23), (.fld 4), [.t 2], none⟩,
  ⟨(some 24), (.load 1 false), [.t 23], none⟩,
  ⟨(some 25), (.fld 5), [.t 2], none⟩,
  ⟨(some 26), (.load 1 false), [.t 25], none⟩,
  ⟨(some 27), (.fld 6), [.t 2], none⟩,
  ⟨(some 28), (.load 1 false), [.t 27], none⟩,
  ⟨(some 29), (.fld 0), [.t 5], none⟩,
  ⟨none, (.store 1), [.t 29, .c (.int .i64 5)], none⟩,
  ⟨(some 30), (.fld 4), [.t 5], none⟩,
  ⟨none, (.store 1), [.t 30, .t 24], none⟩,
  ⟨(some 31), (.fld 5), [.t 5], none⟩,
  ⟨none, (.store 1), [.t 31, .t 26], none⟩,
  ⟨(some 32), (.fld 9), [.t 5], none⟩,
  ⟨none, (.store 1), [.t 32, .t 28], none⟩] [0, 1, 0, 4, 0, 16, 0, 64, 195, 451, 975, 1999, 4095, 8191])
 (.seq (.reg [⟨(some 33), (.load 10 true), [.t 5], none⟩,
  ⟨none, (.store 10), [.t 4, .t 33], none⟩])
 .ret)) .skip))
 (.seq (.reg [⟨(some 35), (.load 15 true), [.t 2], none⟩,
  ⟨(some 36), (.fld 4), [.t 5], none⟩,
  ⟨(some 37), (.load 1 false), [.t 36], none⟩,
  ⟨(some 38), (.call 48), [.t 35, .t 37], none⟩,
  ⟨(some 34), .mv, [.t 38], none⟩,
  ⟨(some 39), (.ext 0), [.t 34], none⟩,
  ⟨(some 40), (.ext 1), [.t 34], none⟩,
  ⟨(some 41), (.fld 5), [.t 5], none⟩,
  ⟨none, (.store 1), [.t 41, .t 39], none⟩])
 (.seq (.reg [⟨(some 42), (.load 15 true), [.t 2], none⟩,
  ⟨(some 43), (.fld 4), [.t 5], none⟩,
  ⟨(some 44), (.load 1 false), [.t 43], none⟩,
  ⟨(some 45), (.call 53), [.t 42, .t 44], none⟩,
  ⟨(some 6), .mv, [.t 45], none⟩])
 (.seq (.regd [⟨(some 46), .mv, [.t 6], none⟩,
  ⟨(some 47), .mv, [.t 6], none⟩,
  ⟨(some 48), .len, [.t 47], none⟩,
  ⟨(some 49), .mn, [.t 48, .c (.int .i64 20)], none⟩,
  ⟨(some 50), (.slc 2 false true false), [.t 46, .t 49], none⟩,
  ⟨(some 51), (.call 105), [.t 50], none⟩,
  ⟨(some 52), (.fld 10), [.t 2], none⟩,
  ⟨(some 53), (.load 1 false), [.t 52], none⟩,
  ⟨(some 54), (.fld 8), [.t 5], none⟩,
  ⟨none, (.store 1), [.t 54, .t 51], none⟩,
  ⟨(some 55), (.fld 7), [.t 5], none⟩,
  ⟨none, (.store 1), [.t 55, .t 53], none⟩] [0, 0, 2, 4, 9, 16, 0, 64, 63, 319, 1023, 2047])
 (.seq (.reg [⟨(some 56), (.load 10 true), [.t 5], none⟩,
  ⟨none, (.store 10), [.t 4, .t 56], none⟩])
 .ret)))))))
theorem comp70 : compC Go.Proofs.Try.prog ttL 57 [] (match Go.Proofs.Try.f70.body with | some b => b | none => .skip) = some (c70) := by kernel_rfl
def c106 : C := (.seq (.reg [⟨(some 4), .box, [.t 0], none⟩,
  ⟨(some 5), .box, [.t 1], none⟩,
  ⟨(some 8), .mv, [.c (.sl tMsg [] true)], none⟩])
 (.seq (.reg [⟨(some 9), (.fld 0), [.t 4], none⟩,
  ⟨(some 10), (.load 1 false), [.t 9], none⟩,
  ⟨(some 11), (.fld 1), [.t 5], none⟩,
  ⟨(some 12), (.load 1 false), [.t 11], none⟩,
  ⟨(some 13), (.fld 2), [.t 4], none⟩,
  ⟨(some 14), (.load 1 false), [.t 13], none⟩,
  ⟨(some 15), .mv, [.t 2], none⟩,
  ⟨(some 16), .mv, [.t 3], none⟩,
  ⟨(some 17), (.build [.int .i64 0, .int .i64 0, .int .i64 0, .int .i64 0, .int .i64 0, .int .i64 0, .bool false, .int .i64 0, .sl tEntry [] true, .str ⟨#[]⟩] [(0, 1), (1, 1), (2, 1), (3, 1), (6, 1), (4, 1)]), [.c (.int .i64 4), .t 10, .t 12, .t 14, .t 15, .t 16], none⟩,
  ⟨(some 18), (.bslice tMsg 1), [.t 17], none⟩,
  ⟨(some 8), .mv, [.t 18], none⟩])
 .ret))
theorem comp106 : compC Go.Proofs.Try.prog ttL 19 [] (match Go.Proofs.Try.f106.body with | some b => b | none => .skip) = some (c106) := by kernel_rfl
def c108 : C := (.seq (.reg [⟨(some 1), .box, [.t 0], none⟩,
  ⟨(some 2), .mv, [.c (.int .i64 0)], none⟩])
 (.seq (.reg [⟨(some 3), (.fld 1), [.t 1], none⟩,
  ⟨(some 4), (.load 1 false), [.t 3], none⟩,
  ⟨(some 5), .mn, [.t 4, .c (.int .i64 5)], none⟩,
  ⟨(some 6), .mx, [.c (.int .i64 0), .t 5], none⟩,
  ⟨(some 2), .mv, [.t 6], none⟩])
 .ret))
theorem comp108 : compC Go.Proofs.Try.prog ttL 7 [] (match Go.Proofs.Try.f108.body with | some b => b | none => .skip) = some (c108) := by kernel_rfl
def c109 : C := (.seq (.reg [⟨(some 2), .mv, [.c (.sl tEntry [] true)], none⟩])
 (.seq (.reg [⟨(some 3), .mv, [.t 0], none⟩,
  ⟨(some 4), .mv, [.t 0], none⟩,
  ⟨(some 5), .len, [.t 4], none⟩,
  ⟨(some 6), .mv, [.t 0], none⟩,
  ⟨(some 7), .len, [.t 6], none⟩,
  ⟨(some 8), (.slc 2 false true true), [.t 3, .t 5, .t 7], none⟩,
  ⟨(some 2), .mv, [.t 8], none⟩])
 .ret))
theorem comp109 : compC Go.Proofs.Try.prog ttL 9 [] (match Go.Proofs.Try.f109.body with | some b => b | none => .skip) = some (c109) := by kernel_rfl
def c110 : C := (.seq (.reg [⟨(some 1), .box, [.t 0], none⟩,
  ⟨(some 2), (.alloc [.int .i64 0, .int .i64 0, .int .i64 0, .int .i64 0, .int .i64 0, .int .i64 0, .str ⟨#[]⟩, .sl tEntry [] true, .int .i64 0, .int .i64 0, .int .i64 0, .sl .bool [] true, .sl tI [] true, .sl tI [] true, .int .i64 0]), [], none⟩])
 (.seq (.regd [⟨(some 3), (.fld 13), [.t 1], none⟩,
  ⟨(some 4), (.load 1 false), [.t 3], none⟩,
  ⟨(some 5), (.fld 0), [.t 1], none⟩,
  ⟨(some 6), (.load 1 false), [.t 5], none⟩,
  ⟨(some 7), (.load 15 true), [.t 1], none⟩,
  ⟨(some 8), (.call 52), [.t 7], none⟩,
  ⟨(some 9), (.call 116), [.t 4, .t 6, .t 8], none⟩,
  ⟨(some 10), (.fld 13), [.t 1], none⟩,
  ⟨none, (.store 1), [.t 10, .t 9], none⟩] [0, 1, 0, 4, 0, 16, 42, 127, 255])
 (.seq (.reg [⟨(some 11), (.load 15 true), [.t 1], none⟩,
  ⟨(some 12), (.call 56), [.t 11], none⟩,
  ⟨none, (.store 15), [.t 2, .t 12], none⟩])
 .ret)))
theorem comp110 : compC Go.Proofs.Try.prog ttL 13 [] (match Go.Proofs.Try.f110.body with | some b => b | none => .skip) = some (c110) := by kernel_rfl
def c111 : C := (.seq (.reg [⟨(some 1), .box, [.t 0], none⟩,
  ⟨(some 2), .mv, [.c (.sl tMsg [] true)], none⟩])
 (.seq (.reg [⟨(some 3), .mv, [.c (.sl tMsg [] true)], none⟩])
 (.seq (.seq (.reg [⟨(some 5), (.load 15 true), [.t 1], none⟩,
  ⟨(some 6), (.call 108), [.t 5], none⟩,
  ⟨(some 7), .mv, [.c (.int .i64 0)], none⟩])
 (.block 0 (.loop (.seq (.reg [⟨(some 8), (.bin .lss), [.t 7, .t 6], none⟩])
 (.seq (.cond (.t 8) .skip (.exit 0))
 (.seq (.block 1 (.seq (.reg [⟨(some 9), .mv, [.t 7], none⟩,
  ⟨(some 4), .mv, [.t 9], none⟩])
 (.seq (.reg [⟨(some 10), .mv, [.t 4], none⟩,
  ⟨(some 11), (.fld 0), [.t 1], none⟩,
  ⟨(some 12), (.load 1 false), [.t 11], none⟩,
  ⟨(some 13), (.bin .neq), [.t 10, .t 12], none⟩])
 (.cond (.t 13) (.reg [⟨(some 14), .mv, [.t 3], none⟩,
  ⟨(some 15), (.load 15 true), [.t 1], none⟩,
  ⟨(some 16), .mv, [.t 4], none⟩,
  ⟨(some 17), (.call 70), [.t 15, .t 16], none⟩,
  ⟨(some 18), (.bslice tMsg 1), [.t 17], none⟩,
  ⟨(some 19), (.app 10 104), [.t 14, .t 18], none⟩,
  ⟨(some 3), .mv, [.t 19], none⟩]) .skip))))
 (.reg [⟨(some 20), (.bin .add), [.t 7, .c (.int .i64 1)], none⟩,
  ⟨(some 7), .mv, [.t 20], none⟩])))))))
 (.seq (.reg [⟨(some 21), .mv, [.t 3], none⟩,
  ⟨(some 2), .mv, [.t 21], none⟩])
 .ret))))
theorem comp111 : compC Go.Proofs.Try.prog ttL 22 [] (match Go.Proofs.Try.f111.body with | some b => b | none => .skip) = some (c111) := by kernel_rfl
def c113 : C := (.seq (.reg [⟨(some 4), .mv, [.c (.int .i64 0)], none⟩])
 (.seq (.seq (.reg [⟨(some 5), .mv, [.t 1], none⟩,
  ⟨(some 6), (.bin .lss), [.t 5, .c (.int .i64 0)], none⟩,
  ⟨(some 7), .mv, [.t 6], none⟩,
  ⟨(some 8), .mv, [.t 1], (some (7, false))⟩,
  ⟨(some 9), .mv, [.t 0], (some (7, false))⟩,
  ⟨(some 10), .len, [.t 9], (some (7, false))⟩,
  ⟨(some 11), (.bin .geq), [.t 8, .t 10], (some (7, false))⟩,
  ⟨(some 12), .pick, [.t 7, .c (.bool true), .t 11], none⟩])
 (.cond (.t 12) (.seq (.reg [⟨(some 4), .mv, [.c (.int .i64 0)], none⟩])
 .ret) .skip))
 (.seq (.reg [⟨(some 13), .mv, [.t 0], none⟩,
  ⟨(some 14), .mv, [.t 1], none⟩,
  ⟨(some 15), (.idx 1), [.t 13, .t 14], none⟩,
  ⟨(some 16), (.load 1 false), [.t 15], none⟩,
  ⟨(some 4), .mv, [.t 16], none⟩])
 .ret)))
theorem comp113 : compC Go.Proofs.Try.prog ttL 17 [] (match Go.Proofs.Try.f113.body with | some b => b | none => .skip) = some (c113) := by kernel_rfl
def c116 : C := (.seq (.reg [⟨(some 6), .mv, [.c (.sl tI [] true)], none⟩])
 (.seq (.reg [⟨(some 7), .mv, [.t 0], none⟩,
  ⟨(some 8), (.call 120), [.t 7], none⟩,
  ⟨(some 0), .mv, [.t 8], none⟩])
 (.seq (.seq (.reg [⟨(some 9), .mv, [.t 1], none⟩,
  ⟨(some 10), (.bin .geq), [.t 9, .c (.int .i64 0)], none⟩,
  ⟨(some 11), .mv, [.t 10], none⟩,
  ⟨(some 12), .mv, [.t 1], (some (11, true))⟩,
  ⟨(some 13), .mv, [.t 0], (some (11, true))⟩,
  ⟨(some 14), .len, [.t 13], (some (11, true))⟩,
  ⟨(some 15), (.bin .lss), [.t 12, .t 14], (some (11, true))⟩,
  ⟨(some 16), .pick, [.t 11, .t 15, .c (.bool false)], none⟩])
 (.cond (.t 16) (.reg [⟨(some 17), .mv, [.t 0], none⟩,
  ⟨(some 18), .mv, [.t 1], none⟩,
  ⟨(some 19), .mv, [.t 2], none⟩,
  ⟨(some 20), (.idx 1), [.t 17, .t 18], none⟩,
  ⟨none, (.store 1), [.t 20, .t 19], none⟩]) .skip))
 (.seq (.reg [⟨(some 21), .mv, [.t 0], none⟩,
  ⟨(some 6), .mv, [.t 21], none⟩])
 .ret))))
theorem comp116 : compC Go.Proofs.Try.prog ttL 22 [] (match Go.Proofs.Try.f116.body with | some b => b | none => .skip) = some (c116) := by kernel_rfl
def c120 : C := (.seq (.reg [⟨(some 2), .mv, [.c (.sl tI [] true)], none⟩])
 (.seq (.seq (.reg [⟨(some 3), .mv, [.t 0], none⟩,
  ⟨(some 4), .isnil, [.t 3], none⟩])
 (.cond (.t 4) (.seq (.reg [⟨(some 2), .mv, [.c (.sl tI [] true)], none⟩])
 .ret) .skip))
 (.seq (.reg [⟨(some 5), (.bslice tI 0), [], none⟩,
  ⟨(some 6), .mv, [.t 0], none⟩,
  ⟨(some 7), (.app 1 8), [.t 5, .t 6], none⟩,
  ⟨(some 2), .mv, [.t 7], none⟩])
 .ret)))
theorem comp120 : compC Go.Proofs.Try.prog ttL 8 [] (match Go.Proofs.Try.f120.body with | some b => b | none => .skip) = some (c120) := by kernel_rfl
end Go.AM
