import Derived.Test.YtbcbgfkojmligaaAA
import Derived.KernelRfl
import Derived.Test.YtbcbgfkojmligaaProg
/- Functions of the program as code of the abstract machine, each with the proof that it is that code; no condition. -/
set_option maxRecDepth 100000
namespace Go.AM
def c78_42 : C := (.seq (.seq (.reg [⟨(some 42), (.load 15 true), [.t 1], none⟩,
  ⟨(some 43), (.call 44), [.t 42], none⟩,
  ⟨(some 44), (.bin .neq), [.t 43, .c (.int .i64 1)], none⟩])
 (.cond (.t 44) (.seq (.reg [⟨(some 45), (.load 15 true), [.t 1], none⟩,
  ⟨(some 46), .mv, [.t 4], none⟩,
  ⟨none, (.store 15), [.t 2, .t 45], none⟩,
  ⟨(some 3), .mv, [.t 46], none⟩])
 .ret) .skip))
 (.seq (.reg [⟨(some 48), (.load 15 true), [.t 1], none⟩,
  ⟨(some 49), (.call 67), [.t 48], none⟩,
  ⟨(some 47), .mv, [.t 49], none⟩,
  ⟨(some 50), (.ext 0), [.t 47], none⟩,
  ⟨(some 51), (.ext 1), [.t 47], none⟩,
  ⟨none, (.store 15), [.t 1, .t 50], none⟩,
  ⟨(some 5), .mv, [.t 51], none⟩])
 (.seq (.regd [⟨(some 52), (.load 15 true), [.t 1], none⟩,
  ⟨(some 53), .mv, [.t 4], none⟩,
  ⟨(some 54), .mv, [.t 5], none⟩,
  ⟨(some 55), (.app 10 104), [.t 53, .t 54], none⟩,
  ⟨none, (.store 15), [.t 2, .t 52], none⟩,
  ⟨(some 3), .mv, [.t 55], none⟩] [0, 0, 0, 6, 9, 31])
 .ret)))
def c78_38 : C := (.seq (.reg [⟨(some 38), (.load 15 true), [.t 1], none⟩,
  ⟨(some 39), (.call 27), [.t 38], none⟩,
  ⟨(some 37), .mv, [.t 39], none⟩,
  ⟨(some 40), (.ext 0), [.t 37], none⟩,
  ⟨(some 41), (.ext 1), [.t 37], none⟩,
  ⟨none, (.store 15), [.t 1, .t 40], none⟩,
  ⟨(some 4), .mv, [.t 41], none⟩])
 (.cut c78_42))
def c78 : C := (.seq (.reg [⟨(some 1), .box, [.t 0], none⟩,
  ⟨(some 2), (.alloc [.int .i64 0, .int .i64 0, .int .i64 0, .int .i64 0, .int .i64 0, .int .i64 0, .str ⟨#[]⟩, .sl tEntry [] true, .int .i64 0, .int .i64 0, .int .i64 0, .sl .bool [] true, .sl tI [] true, .sl tI [] true, .int .i64 0]), [], none⟩,
  ⟨(some 3), .mv, [.c (.sl tMsg [] true)], none⟩])
 (.seq (.reg [⟨(some 6), (.fld 14), [.t 1], none⟩,
  ⟨(some 7), (.load 1 false), [.t 6], none⟩,
  ⟨(some 8), (.bin .add), [.t 7, .c (.int .i64 1)], none⟩,
  ⟨(some 9), (.fld 14), [.t 1], none⟩,
  ⟨none, (.store 1), [.t 9, .t 8], none⟩])
 (.seq (.block 0 (.seq (.reg [⟨(some 11), (.fld 8), [.t 1], none⟩,
  ⟨(some 12), (.load 1 false), [.t 11], none⟩,
  ⟨(some 13), (.bin .eql), [.t 12, .c (.int .i64 2)], none⟩,
  ⟨(some 14), .mv, [.t 13], none⟩,
  ⟨(some 15), (.fld 14), [.t 1], (some (14, true))⟩,
  ⟨(some 16), (.load 1 false), [.t 15], (some (14, true))⟩,
  ⟨(some 17), (.bin .geq), [.t 16, .c (.int .i64 3)], (some (14, true))⟩,
  ⟨(some 18), .pick, [.t 14, .t 17, .c (.bool false)], none⟩,
  ⟨(some 10), .mv, [.t 18], none⟩])
 (.cond (.t 10) (.seq (.reg [⟨(some 19), (.fld 14), [.t 1], none⟩,
  ⟨none, (.store 1), [.t 19, .c (.int .i64 0)], none⟩])
 (.seq (.regd [⟨(some 20), (.load 15 true), [.t 1], none⟩,
  ⟨(some 21), (.load 15 true), [.t 1], none⟩,
  ⟨(some 22), (.call 117), [.t 21], none⟩,
  ⟨none, (.store 15), [.t 2, .t 20], none⟩,
  ⟨(some 3), .mv, [.t 22], none⟩] [0, 0, 2, 5, 15])
 .ret)) (.seq (.reg [⟨(some 24), (.fld 8), [.t 1], none⟩,
  ⟨(some 25), (.load 1 false), [.t 24], none⟩,
  ⟨(some 26), (.bin .eql), [.t 25, .c (.int .i64 2)], none⟩,
  ⟨(some 27), .mv, [.t 26], none⟩,
  ⟨(some 28), (.fld 14), [.t 1], (some (27, false))⟩,
  ⟨(some 29), (.load 1 false), [.t 28], (some (27, false))⟩,
  ⟨(some 30), (.fld 0), [.t 1], (some (27, false))⟩,
  ⟨(some 31), (.load 1 false), [.t 30], (some (27, false))⟩,
  ⟨(some 32), (.bin .mul), [.c (.int .i64 5), .t 31], (some (27, false))⟩,
  ⟨(some 33), (.bin .add), [.c (.int .i64 10), .t 32], (some (27, false))⟩,
  ⟨(some 34), (.bin .lss), [.t 29, .t 33], (some (27, false))⟩,
  ⟨(some 35), .pick, [.t 27, .c (.bool true), .t 34], none⟩,
  ⟨(some 23), .mv, [.t 35], none⟩])
 (.cond (.t 23) (.seq (.reg [⟨(some 36), (.load 15 true), [.t 1], none⟩,
  ⟨none, (.store 15), [.t 2, .t 36], none⟩,
  ⟨(some 3), .mv, [.c (.sl tMsg [] true)], none⟩])
 .ret) .skip)))))
 (.cut c78_38))))
theorem comp78 : compC Go.Proofs.Try.prog ttL 56 [] (match Go.Proofs.Try.f78.body with | some b => b | none => .skip) = some (erase c78) := by kernel_rfl
def c82_50 : C := (.seq (.reg [⟨(some 50), (.load 15 true), [.t 2], none⟩,
  ⟨(some 51), (.call 56), [.t 50], none⟩,
  ⟨none, (.store 15), [.t 2, .t 51], none⟩])
 (.seq (.regd [⟨(some 52), (.load 15 true), [.t 2], none⟩,
  ⟨(some 53), (.load 15 true), [.t 2], none⟩,
  ⟨(some 54), (.call 117), [.t 53], none⟩,
  ⟨none, (.store 15), [.t 4, .t 52], none⟩,
  ⟨(some 5), .mv, [.t 54], none⟩,
  ⟨(some 6), .mv, [.c (.int .i64 0)], none⟩] [0, 0, 2, 5, 15, 31])
 .ret))
def c82_28 : C := (.seq (.reg [⟨(some 28), (.fld 13), [.t 2], none⟩,
  ⟨(some 29), (.load 1 false), [.t 28], none⟩,
  ⟨(some 30), (.call 120), [.t 29], none⟩,
  ⟨(some 31), (.fld 13), [.t 2], none⟩,
  ⟨none, (.store 1), [.t 31, .t 30], none⟩])
 (.seq (.seq (.reg [⟨(some 32), (.fld 0), [.t 2], none⟩,
  ⟨(some 33), (.load 1 false), [.t 32], none⟩,
  ⟨(some 34), (.bin .geq), [.t 33, .c (.int .i64 0)], none⟩,
  ⟨(some 35), .mv, [.t 34], none⟩,
  ⟨(some 36), (.fld 0), [.t 2], (some (35, true))⟩,
  ⟨(some 37), (.load 1 false), [.t 36], (some (35, true))⟩,
  ⟨(some 38), (.fld 13), [.t 2], (some (35, true))⟩,
  ⟨(some 39), (.load 1 false), [.t 38], (some (35, true))⟩,
  ⟨(some 40), .len, [.t 39], (some (35, true))⟩,
  ⟨(some 41), (.bin .lss), [.t 37, .t 40], (some (35, true))⟩,
  ⟨(some 42), .pick, [.t 35, .t 41, .c (.bool false)], none⟩])
 (.cond (.t 42) (.regd [⟨(some 43), (.fld 13), [.t 2], none⟩,
  ⟨(some 44), (.load 1 false), [.t 43], none⟩,
  ⟨(some 45), (.fld 0), [.t 2], none⟩,
  ⟨(some 46), (.load 1 false), [.t 45], none⟩,
  ⟨(some 47), (.load 15 true), [.t 2], none⟩,
  ⟨(some 48), (.call 52), [.t 47], none⟩,
  ⟨(some 49), (.idx 1), [.t 44, .t 46], none⟩,
  ⟨none, (.store 1), [.t 49, .t 48], none⟩] [0, 1, 0, 4, 0, 16, 63, 127]) .skip))
 (.cut c82_50)))
def c82_18 : C := (.seq (.regd [⟨(some 18), (.fld 7), [.t 2], none⟩,
  ⟨(some 19), (.load 1 false), [.t 18], none⟩,
  ⟨(some 20), (.call 109), [.t 19], none⟩,
  ⟨(some 21), (.fld 2), [.t 2], none⟩,
  ⟨(some 22), (.load 1 false), [.t 21], none⟩,
  ⟨(some 23), .mv, [.t 1], none⟩,
  ⟨(some 24), (.build [.int .i64 0, .str ⟨#[]⟩] [(0, 1), (1, 1)]), [.t 22, .t 23], none⟩,
  ⟨(some 25), (.bslice tEntry 1), [.t 24], none⟩,
  ⟨(some 26), (.app 2 24), [.t 20, .t 25], none⟩,
  ⟨(some 27), (.fld 7), [.t 2], none⟩,
  ⟨none, (.store 1), [.t 27, .t 26], none⟩] [0, 1, 2, 0, 8, 0, 48, 64, 132, 511, 1023])
 (.cut c82_28))
def c82 : C := (.seq (.reg [⟨(some 2), .box, [.t 0], none⟩,
  ⟨(some 4), (.alloc [.int .i64 0, .int .i64 0, .int .i64 0, .int .i64 0, .int .i64 0, .int .i64 0, .str ⟨#[]⟩, .sl tEntry [] true, .int .i64 0, .int .i64 0, .int .i64 0, .sl .bool [] true, .sl tI [] true, .sl tI [] true, .int .i64 0]), [], none⟩,
  ⟨(some 5), .mv, [.c (.sl tMsg [] true)], none⟩,
  ⟨(some 6), .mv, [.c (.int .i64 0)], none⟩])
 (.seq (.block 0 (.seq (.reg [⟨(some 8), (.fld 8), [.t 2], none⟩,
  ⟨(some 9), (.load 1 false), [.t 8], none⟩,
  ⟨(some 10), (.bin .neq), [.t 9, .c (.int .i64 2)], none⟩,
  ⟨(some 7), .mv, [.t 10], none⟩])
 (.cond (.t 7) (.seq (.reg [⟨(some 11), (.load 15 true), [.t 2], none⟩,
  ⟨none, (.store 15), [.t 4, .t 11], none⟩,
  ⟨(some 5), .mv, [.c (.sl tMsg [] true)], none⟩,
  ⟨(some 6), .mv, [.c (.int .i64 13)], none⟩])
 .ret) (.seq (.reg [⟨(some 13), (.fld 7), [.t 2], none⟩,
  ⟨(some 14), (.load 1 false), [.t 13], none⟩,
  ⟨(some 15), .len, [.t 14], none⟩,
  ⟨(some 16), (.bin .geq), [.t 15, .c (.int .i64 200)], none⟩,
  ⟨(some 12), .mv, [.t 16], none⟩])
 (.cond (.t 12) (.seq (.reg [⟨(some 17), (.load 15 true), [.t 2], none⟩,
  ⟨none, (.store 15), [.t 4, .t 17], none⟩,
  ⟨(some 5), .mv, [.c (.sl tMsg [] true)], none⟩,
  ⟨(some 6), .mv, [.c (.int .i64 7)], none⟩])
 .ret) .skip)))))
 (.cut c82_18)))
theorem comp82 : compC Go.Proofs.Try.prog ttL 55 [] (match Go.Proofs.Try.f82.body with | some b => b | none => .skip) = some (erase c82) := by kernel_rfl
def c84 : C := (.seq (.reg [⟨(some 2), .box, [.t 0], none⟩,
  ⟨(some 4), .mv, [.c (.bool false)], none⟩])
 (.seq (.reg [⟨(some 6), (.clo 121), [.t 2], none⟩,
  ⟨(some 5), .mv, [.t 6], none⟩])
 (.seq (.reg [⟨(some 7), (.fld 0), [.t 2], none⟩,
  ⟨(some 8), (.load 1 false), [.t 7], none⟩,
  ⟨(some 9), (.call 122), [.t 8, .c (.int .i64 1), .c (.int .i64 5)], none⟩,
  ⟨(some 10), .mv, [.t 9], none⟩,
  ⟨(some 11), (.fld 1), [.t 2], (some (10, true))⟩,
  ⟨(some 12), (.load 1 false), [.t 11], (some (10, true))⟩,
  ⟨(some 13), (.fld 2), [.t 2], (some (10, true))⟩,
  ⟨(some 14), (.load 1 false), [.t 13], (some (10, true))⟩,
  ⟨(some 15), (.bin .neq), [.t 12, .t 14], (some (10, true))⟩,
  ⟨(some 16), .pick, [.t 10, .t 15, .c (.bool false)], none⟩,
  ⟨(some 17), .mv, [.t 16], none⟩,
  ⟨(some 18), (.fld 1), [.t 2], (some (17, true))⟩,
  ⟨(some 19), (.load 1 false), [.t 18], (some (17, true))⟩,
  ⟨(some 20), .mv, [.t 1], (some (17, true))⟩,
  ⟨(some 21), (.bin .sub), [.t 20, .c (.int .i64 1)], (some (17, true))⟩,
  ⟨(some 22), (.call 122), [.t 19, .c (.int .i64 0), .t 21], (some (17, true))⟩,
  ⟨(some 23), .pick, [.t 17, .t 22, .c (.bool false)], none⟩,
  ⟨(some 24), .mv, [.t 23], none⟩,
  ⟨(some 25), (.fld 2), [.t 2], (some (24, true))⟩,
  ⟨(some 26), (.load 1 false), [.t 25], (some (24, true))⟩,
  ⟨(some 27), .mv, [.t 1], (some (24, true))⟩,
  ⟨(some 28), (.bin .sub), [.t 27, .c (.int .i64 1)], (some (24, true))⟩,
  ⟨(some 29), (.call 122), [.t 26, .c (.int .i64 0), .t 28], (some (24, true))⟩,
  ⟨(some 30), .pick, [.t 24, .t 29, .c (.bool false)], none⟩,
  ⟨(some 31), .mv, [.t 30], none⟩,
  ⟨(some 32), (.fld 3), [.t 2], (some (31, true))⟩,
  ⟨(some 33), (.load 1 false), [.t 32], (some (31, true))⟩,
  ⟨(some 34), (.call 122), [.t 33, .c (.int .i64 1), .c (.int .i64 1099511627776)], (some (31, true))⟩,
  ⟨(some 35), .pick, [.t 31, .t 34, .c (.bool false)], none⟩,
  ⟨(some 36), .mv, [.t 35], none⟩,
  ⟨(some 37), (.fld 4), [.t 2], (some (36, true))⟩,
  ⟨(some 38), (.load 1 false), [.t 37], (some (36, true))⟩,
  ⟨(some 39), (.call 122), [.t 38, .c (.int .i64 0), .c (.int .i64 1099511627776)], (some (36, true))⟩,
  ⟨(some 40), .pick, [.t 36, .t 39, .c (.bool false)], none⟩,
  ⟨(some 41), .mv, [.t 40], none⟩,
  ⟨(some 42), (.fld 5), [.t 2], (some (41, true))⟩,
  ⟨(some 43), (.load 1 false), [.t 42], (some (41, true))⟩,
  ⟨(some 44), (.call 122), [.t 43, .c (.int .i64 0), .c (.int .i64 1099511627776)], (some (41, true))⟩,
  ⟨(some 45), .pick, [.t 41, .t 44, .c (.bool false)], none⟩,
  ⟨(some 46), .mv, [.t 45], none⟩,
  ⟨(some 47), (.fld 7), [.t 2], (some (46, true))⟩,
  ⟨(some 48), (.load 1 false), [.t 47], (some (46, true))⟩,
  ⟨(some 49), (.call 122), [.t 48, .c (.int .i64 0), .c (.int .i64 1099511627776)], (some (46, true))⟩,
  ⟨(some 50), .pick, [.t 46, .t 49, .c (.bool false)], none⟩,
  ⟨(some 51), .mv, [.t 50], none⟩,
  ⟨(some 52), (.fld 8), [.t 2], (some (51, true))⟩,
  ⟨(some 53), (.load 1 false), [.t 52], (some (51, true))⟩,
  ⟨(some 54), .len, [.t 53], (some (51, true))⟩,
  ⟨(some 55), (.bin .leq), [.t 54, .c (.int .i64 20)], (some (51, true))⟩,
  ⟨(some 56), .pick, [.t 51, .t 55, .c (.bool false)], none⟩,
  ⟨(some 57), .mv, [.t 56], none⟩,
  ⟨(some 58), (.fld 8), [.t 2], (some (57, true))⟩,
  ⟨(some 59), (.load 1 false), [.t 58], (some (57, true))⟩,
  ⟨(some 60), .mv, [.t 5], (some (57, true))⟩,
  ⟨(some 61), (.call 100), [.t 59, .t 60], (some (57, true))⟩,
  ⟨(some 62), .not, [.t 61], (some (57, true))⟩,
  ⟨(some 63), .pick, [.t 57, .t 62, .c (.bool false)], none⟩,
  ⟨(some 4), .mv, [.t 63], none⟩])
 .ret)))
theorem comp84 : compC Go.Proofs.Try.prog ttL 64 [] (match Go.Proofs.Try.f84.body with | some b => b | none => .skip) = some (c84) := by kernel_rfl
def c117 : C := (.seq (.reg [⟨(some 1), .box, [.t 0], none⟩,
  ⟨(some 2), .mv, [.c (.sl tMsg [] true)], none⟩])
 (.seq (.reg [⟨(some 3), .mv, [.c (.sl tMsg [] true)], none⟩])
 (.seq (.seq (.reg [⟨(some 5), (.fld 1), [.t 1], none⟩,
  ⟨(some 6), (.load 1 false), [.t 5], none⟩,
  ⟨(some 7), .mn, [.t 6, .c (.int .i64 5)], none⟩,
  ⟨(some 8), .mx, [.c (.int .i64 0), .t 7], none⟩,
  ⟨(some 9), .mv, [.c (.int .i64 0)], none⟩])
 (.block 0 (.loop (.seq (.reg [⟨(some 10), (.bin .lss), [.t 9, .t 8], none⟩])
 (.seq (.cond (.t 10) .skip (.exit 0))
 (.seq (.block 1 (.seq (.reg [⟨(some 11), .mv, [.t 9], none⟩,
  ⟨(some 4), .mv, [.t 11], none⟩])
 (.seq (.reg [⟨(some 12), .mv, [.t 4], none⟩,
  ⟨(some 13), (.fld 0), [.t 1], none⟩,
  ⟨(some 14), (.load 1 false), [.t 13], none⟩,
  ⟨(some 15), (.bin .neq), [.t 12, .t 14], none⟩])
 (.cond (.t 15) (.reg [⟨(some 16), .mv, [.t 3], none⟩,
  ⟨(some 17), (.load 15 true), [.t 1], none⟩,
  ⟨(some 18), .mv, [.t 4], none⟩,
  ⟨(some 19), (.call 70), [.t 17, .t 18], none⟩,
  ⟨(some 20), (.bslice tMsg 1), [.t 19], none⟩,
  ⟨(some 21), (.app 10 104), [.t 16, .t 20], none⟩,
  ⟨(some 3), .mv, [.t 21], none⟩]) .skip))))
 (.reg [⟨(some 22), (.bin .add), [.t 9, .c (.int .i64 1)], none⟩,
  ⟨(some 9), .mv, [.t 22], none⟩])))))))
 (.seq (.reg [⟨(some 23), .mv, [.t 3], none⟩,
  ⟨(some 2), .mv, [.t 23], none⟩])
 .ret))))
theorem comp117 : compC Go.Proofs.Try.prog ttL 24 [] (match Go.Proofs.Try.f117.body with | some b => b | none => .skip) = some (c117) := by kernel_rfl
def c121 : C := (.seq (.reg [⟨(some 2), .box, [.t 0], none⟩,
  ⟨(some 3), .mv, [.c (.bool false)], none⟩])
 (.seq (.reg [⟨(some 4), (.fld 0), [.t 2], none⟩,
  ⟨(some 5), (.load 1 false), [.t 4], none⟩,
  ⟨(some 6), (.fld 3), [.t 1], none⟩,
  ⟨(some 7), (.load 1 false), [.t 6], none⟩,
  ⟨(some 8), (.call 122), [.t 5, .c (.int .i64 0), .t 7], none⟩,
  ⟨(some 9), .not, [.t 8], none⟩,
  ⟨(some 3), .mv, [.t 9], none⟩])
 .ret))
theorem comp121 : compC Go.Proofs.Try.prog ttL 10 [] (match Go.Proofs.Try.f121.body with | some b => b | none => .skip) = some (c121) := by kernel_rfl
def c122 : C := (.seq (.reg [⟨(some 6), .mv, [.c (.bool false)], none⟩])
 (.seq (.reg [⟨(some 7), .mv, [.t 0], none⟩,
  ⟨(some 8), .mv, [.t 1], none⟩,
  ⟨(some 9), (.bin .geq), [.t 7, .t 8], none⟩,
  ⟨(some 10), .mv, [.t 9], none⟩,
  ⟨(some 11), .mv, [.t 0], (some (10, true))⟩,
  ⟨(some 12), .mv, [.t 2], (some (10, true))⟩,
  ⟨(some 13), (.bin .leq), [.t 11, .t 12], (some (10, true))⟩,
  ⟨(some 14), .pick, [.t 10, .t 13, .c (.bool false)], none⟩,
  ⟨(some 6), .mv, [.t 14], none⟩])
 .ret))
theorem comp122 : compC Go.Proofs.Try.prog ttL 15 [] (match Go.Proofs.Try.f122.body with | some b => b | none => .skip) = some (c122) := by kernel_rfl
end Go.AM
