import Derived.Test.YtbcbgfkojmligaaAA
import Derived.KernelRfl
import Derived.Test.YtbcbgfkojmligaaProg
/- Functions of the program as code of the abstract machine, each with the proof that it is that code; no condition. -/
set_option maxRecDepth 100000
namespace Go.AM
def c76_31 : C := (.seq (.reg [⟨(some 31), (.fld 8), [.t 1], none⟩,
  ⟨(some 32), (.load 1 false), [.t 31], none⟩,
  ⟨(some 33), (.bin .eql), [.t 32, .c (.int .i64 2)], none⟩,
  ⟨(some 34), .mv, [.t 33], none⟩,
  ⟨(some 35), .mv, [.t 5], (some (34, true))⟩,
  ⟨(some 36), (.bin .eql), [.t 35, .c (.int .i64 0)], (some (34, true))⟩,
  ⟨(some 37), .pick, [.t 34, .t 36, .c (.bool false)], none⟩,
  ⟨(some 38), .mv, [.t 37], none⟩,
  ⟨(some 39), (.fld 10), [.t 3], (some (38, true))⟩,
  ⟨(some 40), (.load 1 false), [.t 39], (some (38, true))⟩,
  ⟨(some 41), (.bin .eql), [.t 40, .c (.int .i64 2)], (some (38, true))⟩,
  ⟨(some 42), .pick, [.t 38, .t 41, .c (.bool false)], none⟩,
  ⟨(some 43), .mv, [.t 42], none⟩,
  ⟨(some 44), .mv, [.t 8], (some (43, true))⟩,
  ⟨(some 45), (.bin .eql), [.t 44, .c (.int .i64 13)], (some (43, true))⟩,
  ⟨(some 46), .pick, [.t 43, .t 45, .c (.bool false)], none⟩,
  ⟨(some 47), .mv, [.t 46], none⟩,
  ⟨(some 48), .pick, [.t 47, .c (.bool true), .c (.bool false)], none⟩,
  ⟨(some 49), .mv, [.t 48], none⟩,
  ⟨(some 50), .pick, [.t 49, .c (.bool true), .c (.bool false)], none⟩,
  ⟨(some 0), .mv, [.t 50], none⟩])
 .ret)
def c76_26 : C := (.seq (.reg [⟨(some 26), (.call 31), [.c (.int .i64 0), .c (.int .i64 3)], none⟩,
  ⟨(some 27), (.call 82), [.t 26, .c (.str ⟨#[120]⟩)], none⟩,
  ⟨(some 25), .mv, [.t 27], none⟩,
  ⟨(some 28), (.ext 0), [.t 25], none⟩,
  ⟨(some 29), (.ext 1), [.t 25], none⟩,
  ⟨(some 30), (.ext 2), [.t 25], none⟩,
  ⟨(some 6), (.alloc [.int .i64 0, .int .i64 0, .int .i64 0, .int .i64 0, .int .i64 0, .int .i64 0, .str ⟨#[]⟩, .sl tEntry [] true, .int .i64 0, .int .i64 0, .int .i64 0, .sl .bool [] true, .sl tI [] true, .sl tI [] true, .int .i64 0]), [], none⟩,
  ⟨none, (.store 15), [.t 6, .t 28], none⟩,
  ⟨(some 7), .mv, [.t 29], none⟩,
  ⟨(some 8), .mv, [.t 30], none⟩])
 (.cut c76_31))
def c76_20 : C := (.seq (.reg [⟨(some 20), (.load 15 true), [.t 1], none⟩,
  ⟨(some 21), (.call 82), [.t 20, .c (.str ⟨#[120]⟩)], none⟩,
  ⟨(some 19), .mv, [.t 21], none⟩,
  ⟨(some 22), (.ext 0), [.t 19], none⟩,
  ⟨(some 23), (.ext 1), [.t 19], none⟩,
  ⟨(some 24), (.ext 2), [.t 19], none⟩,
  ⟨(some 3), (.alloc [.int .i64 0, .int .i64 0, .int .i64 0, .int .i64 0, .int .i64 0, .int .i64 0, .str ⟨#[]⟩, .sl tEntry [] true, .int .i64 0, .int .i64 0, .int .i64 0, .sl .bool [] true, .sl tI [] true, .sl tI [] true, .int .i64 0]), [], none⟩,
  ⟨none, (.store 15), [.t 3, .t 22], none⟩,
  ⟨(some 4), .mv, [.t 23], none⟩,
  ⟨(some 5), .mv, [.t 24], none⟩])
 (.cut c76_26))
def c76 : C := (.seq (.reg [⟨(some 0), .mv, [.c (.bool false)], none⟩])
 (.seq (.reg [⟨(some 9), (.call 31), [.c (.int .i64 0), .c (.int .i64 1)], none⟩,
  ⟨(some 1), (.alloc [.int .i64 0, .int .i64 0, .int .i64 0, .int .i64 0, .int .i64 0, .int .i64 0, .str ⟨#[]⟩, .sl tEntry [] true, .int .i64 0, .int .i64 0, .int .i64 0, .sl .bool [] true, .sl tI [] true, .sl tI [] true, .int .i64 0]), [], none⟩,
  ⟨none, (.store 15), [.t 1, .t 9], none⟩])
 (.seq (.seq (.reg [⟨(some 2), .mv, [.c (.int .i64 0)], none⟩])
 (.block 0 (.loop (.seq (.seq (.reg [⟨(some 10), .mv, [.t 2], none⟩,
  ⟨(some 11), (.bin .lss), [.t 10, .c (.int .i64 10)], none⟩])
 (.cond (.t 11) .skip (.exit 0)))
 (.seq (.block 1 (.reg [⟨(some 15), (.load 15 true), [.t 1], none⟩,
  ⟨(some 16), (.call 78), [.t 15], none⟩,
  ⟨(some 14), .mv, [.t 16], none⟩,
  ⟨(some 17), (.ext 0), [.t 14], none⟩,
  ⟨(some 18), (.ext 1), [.t 14], none⟩,
  ⟨none, (.store 15), [.t 1, .t 17], none⟩]))
 (.reg [⟨(some 12), .mv, [.t 2], none⟩,
  ⟨(some 13), (.bin .add), [.t 12, .c (.int .i64 1)], none⟩,
  ⟨(some 2), .mv, [.t 13], none⟩]))))))
 (.cut c76_20))))
theorem comp76 : compC Go.Proofs.Try.prog ttL 51 [] (match Go.Proofs.Try.f76.body with | some b => b | none => .skip) = some (erase c76) := by kernel_rfl
def c80_26 : C := (.seq (.regd [⟨(some 26), (.fld 0), [.t 3], none⟩,
  ⟨(some 27), (.load 1 false), [.t 26], none⟩,
  ⟨(some 28), (.aidx 1 6), [.t 6, .t 27], none⟩,
  ⟨(some 29), (.fld 0), [.t 28], none⟩,
  ⟨(some 30), (.load 1 false), [.t 29], none⟩,
  ⟨(some 31), (.load 15 true), [.t 2], none⟩,
  ⟨(some 32), (.load 10 true), [.t 3], none⟩,
  ⟨(some 33), .callv, [.t 30, .t 31, .t 32], none⟩,
  ⟨(some 34), (.ext 0), [.t 33], none⟩,
  ⟨(some 35), (.ext 1), [.t 33], none⟩,
  ⟨none, (.store 15), [.t 4, .t 34], none⟩,
  ⟨(some 5), .mv, [.t 35], none⟩] [0, 1, 2, 4, 8, 0, 0, 112, 128, 128, 1023, 2047])
 .ret)
def c80 : C := (.seq (.reg [⟨(some 2), .box, [.t 0], none⟩,
  ⟨(some 3), .box, [.t 1], none⟩,
  ⟨(some 4), (.alloc [.int .i64 0, .int .i64 0, .int .i64 0, .int .i64 0, .int .i64 0, .int .i64 0, .str ⟨#[]⟩, .sl tEntry [] true, .int .i64 0, .int .i64 0, .int .i64 0, .sl .bool [] true, .sl tI [] true, .sl tI [] true, .int .i64 0]), [], none⟩,
  ⟨(some 5), .mv, [.c (.sl tMsg [] true)], none⟩])
 (.seq (.reg [⟨(some 7), (.build [.nilf] [(0, 1)]), [.c (.clo 25 [])], none⟩,
  ⟨(some 8), (.build [.nilf] [(0, 1)]), [.c (.clo 119 [])], none⟩,
  ⟨(some 9), (.build [.nilf] [(0, 1)]), [.c (.clo 65 [])], none⟩,
  ⟨(some 10), (.build [.nilf] [(0, 1)]), [.c (.clo 74 [])], none⟩,
  ⟨(some 11), (.build [.nilf] [(0, 1)]), [.c (.clo 65 [])], none⟩,
  ⟨(some 12), (.build [.nilf, .nilf, .nilf, .nilf, .nilf, .nilf] [(1, 1), (2, 1), (3, 1), (4, 1), (5, 1)]), [.t 7, .t 8, .t 9, .t 10, .t 11], none⟩,
  ⟨(some 6), (.alloc [.nilf, .nilf, .nilf, .nilf, .nilf, .nilf]), [], none⟩,
  ⟨none, (.store 6), [.t 6, .t 12], none⟩])
 (.seq (.seq (.reg [⟨(some 13), (.load 10 true), [.t 3], none⟩,
  ⟨(some 14), (.fld 1), [.t 2], none⟩,
  ⟨(some 15), (.load 1 false), [.t 14], none⟩,
  ⟨(some 16), (.call 84), [.t 13, .t 15], none⟩,
  ⟨(some 17), .not, [.t 16], none⟩,
  ⟨(some 18), .mv, [.t 17], none⟩,
  ⟨(some 19), (.fld 2), [.t 3], (some (18, false))⟩,
  ⟨(some 20), (.load 1 false), [.t 19], (some (18, false))⟩,
  ⟨(some 21), (.fld 0), [.t 2], (some (18, false))⟩,
  ⟨(some 22), (.load 1 false), [.t 21], (some (18, false))⟩,
  ⟨(some 23), (.bin .neq), [.t 20, .t 22], (some (18, false))⟩,
  ⟨(some 24), .pick, [.t 18, .c (.bool true), .t 23], none⟩])
 (.cond (.t 24) (.seq (.reg [⟨(some 25), (.load 15 true), [.t 2], none⟩,
  ⟨none, (.store 15), [.t 4, .t 25], none⟩,
  ⟨(some 5), .mv, [.c (.sl tMsg [] true)], none⟩])
 .ret) .skip))
 (.cut c80_26))))
theorem comp80 : compC Go.Proofs.Try.prog ttL 36 [] (match Go.Proofs.Try.f80.body with | some b => b | none => .skip) = some (erase c80) := by kernel_rfl
end Go.AM
