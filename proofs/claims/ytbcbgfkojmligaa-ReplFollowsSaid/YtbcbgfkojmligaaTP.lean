import Derived.Test.YtbcbgfkojmligaaAA
import Derived.KernelRfl
import Derived.Test.YtbcbgfkojmligaaProg
/- Functions of the program as code of the abstract machine, each with the proof that it is that code; no condition. -/
set_option maxRecDepth 100000
namespace Go.AM
def c17_56 : C := (.seq (.reg [⟨(some 56), (.load 15 true), [.t 9], none⟩,
  ⟨(some 57), (.load 15 true), [.t 11], none⟩,
  ⟨(some 58), (.call 33), [.t 56, .t 57], none⟩,
  ⟨(some 59), .mv, [.t 58], none⟩,
  ⟨(some 60), .mv, [.t 12], (some (59, true))⟩,
  ⟨(some 61), .len, [.t 60], (some (59, true))⟩,
  ⟨(some 62), (.bin .eql), [.t 61, .c (.int .i64 1)], (some (59, true))⟩,
  ⟨(some 63), .pick, [.t 59, .t 62, .c (.bool false)], none⟩,
  ⟨(some 64), .mv, [.t 63], none⟩,
  ⟨(some 65), .mv, [.t 12], (some (64, true))⟩,
  ⟨(some 66), (.idx 10), [.t 65, .c (.int .i64 0)], (some (64, true))⟩,
  ⟨(some 67), (.fld 6), [.t 66], (some (64, true))⟩,
  ⟨(some 68), (.load 1 false), [.t 67], (some (64, true))⟩,
  ⟨(some 69), .not, [.t 68], (some (64, true))⟩,
  ⟨(some 70), .pick, [.t 64, .t 69, .c (.bool false)], none⟩,
  ⟨(some 71), .mv, [.t 70], none⟩,
  ⟨(some 72), .mv, [.t 12], (some (71, true))⟩,
  ⟨(some 73), (.idx 10), [.t 72, .c (.int .i64 0)], (some (71, true))⟩,
  ⟨(some 74), (.fld 3), [.t 73], (some (71, true))⟩,
  ⟨(some 75), (.load 1 false), [.t 74], (some (71, true))⟩,
  ⟨(some 76), .mv, [.t 7], (some (71, true))⟩,
  ⟨(some 77), (.bin .eql), [.t 75, .t 76], (some (71, true))⟩,
  ⟨(some 78), .pick, [.t 71, .t 77, .c (.bool false)], none⟩,
  ⟨(some 79), .mv, [.t 78], none⟩,
  ⟨(some 80), .mv, [.t 12], (some (79, true))⟩,
  ⟨(some 81), (.idx 10), [.t 80, .c (.int .i64 0)], (some (79, true))⟩,
  ⟨(some 82), (.fld 2), [.t 81], (some (79, true))⟩,
  ⟨(some 83), (.load 1 false), [.t 82], (some (79, true))⟩,
  ⟨(some 84), (.bin .eql), [.t 83, .c (.int .i64 0)], (some (79, true))⟩,
  ⟨(some 85), .pick, [.t 79, .t 84, .c (.bool false)], none⟩,
  ⟨(some 86), .mv, [.t 85], none⟩,
  ⟨(some 87), (.load 15 true), [.t 13], (some (86, true))⟩,
  ⟨(some 88), (.load 15 true), [.t 15], (some (86, true))⟩,
  ⟨(some 89), (.call 33), [.t 87, .t 88], (some (86, true))⟩,
  ⟨(some 90), .pick, [.t 86, .t 89, .c (.bool false)], none⟩,
  ⟨(some 91), .mv, [.t 90], none⟩,
  ⟨(some 92), .mv, [.t 16], (some (91, true))⟩,
  ⟨(some 93), .len, [.t 92], (some (91, true))⟩,
  ⟨(some 94), (.bin .eql), [.t 93, .c (.int .i64 0)], (some (91, true))⟩,
  ⟨(some 95), .pick, [.t 91, .t 94, .c (.bool false)], none⟩,
  ⟨(some 96), .mv, [.t 95], none⟩,
  ⟨(some 97), (.call 57), [], (some (96, true))⟩,
  ⟨(some 98), .pick, [.t 96, .t 97, .c (.bool false)], none⟩,
  ⟨(some 6), .mv, [.t 98], none⟩])
 .ret)
def c17_50 : C := (.seq (.reg [⟨(some 50), (.load 15 true), [.t 13], none⟩,
  ⟨(some 51), .mv, [.t 8], none⟩,
  ⟨(some 52), (.build [.int .i64 0, .int .i64 0, .int .i64 0, .int .i64 0, .int .i64 0, .int .i64 0, .bool false, .int .i64 0, .sl tEntry [] true, .str ⟨#[]⟩] [(0, 1), (1, 1), (2, 1), (3, 1), (6, 1), (4, 1)]), [.c (.int .i64 4), .c (.int .i64 0), .c (.int .i64 1), .t 51, .c (.bool true), .c (.int .i64 9)], none⟩,
  ⟨(some 53), (.call 74), [.t 50, .t 52], none⟩,
  ⟨(some 49), .mv, [.t 53], none⟩,
  ⟨(some 54), (.ext 0), [.t 49], none⟩,
  ⟨(some 55), (.ext 1), [.t 49], none⟩,
  ⟨(some 15), (.alloc [.int .i64 0, .int .i64 0, .int .i64 0, .int .i64 0, .int .i64 0, .int .i64 0, .str ⟨#[]⟩, .sl tEntry [] true, .int .i64 0, .int .i64 0, .int .i64 0, .sl .bool [] true, .sl tI [] true, .sl tI [] true, .int .i64 0]), [], none⟩,
  ⟨none, (.store 15), [.t 15, .t 54], none⟩,
  ⟨(some 16), .mv, [.t 55], none⟩])
 (.cut c17_56))
def c17_45 : C := (.seq (.reg [⟨(some 45), (.load 15 true), [.t 9], none⟩,
  ⟨(some 46), (.call 67), [.t 45], none⟩,
  ⟨(some 44), .mv, [.t 46], none⟩,
  ⟨(some 47), (.ext 0), [.t 44], none⟩,
  ⟨(some 48), (.ext 1), [.t 44], none⟩,
  ⟨(some 13), (.alloc [.int .i64 0, .int .i64 0, .int .i64 0, .int .i64 0, .int .i64 0, .int .i64 0, .str ⟨#[]⟩, .sl tEntry [] true, .int .i64 0, .int .i64 0, .int .i64 0, .sl .bool [] true, .sl tI [] true, .sl tI [] true, .int .i64 0]), [], none⟩,
  ⟨none, (.store 15), [.t 13, .t 47], none⟩,
  ⟨(some 14), .mv, [.t 48], none⟩])
 (.cut c17_50))
def c17_39 : C := (.seq (.reg [⟨(some 39), (.load 15 true), [.t 9], none⟩,
  ⟨(some 40), (.load 10 true), [.t 10], none⟩,
  ⟨(some 41), (.call 65), [.t 39, .t 40], none⟩,
  ⟨(some 38), .mv, [.t 41], none⟩,
  ⟨(some 42), (.ext 0), [.t 38], none⟩,
  ⟨(some 43), (.ext 1), [.t 38], none⟩,
  ⟨(some 11), (.alloc [.int .i64 0, .int .i64 0, .int .i64 0, .int .i64 0, .int .i64 0, .int .i64 0, .str ⟨#[]⟩, .sl tEntry [] true, .int .i64 0, .int .i64 0, .int .i64 0, .sl .bool [] true, .sl tI [] true, .sl tI [] true, .int .i64 0]), [], none⟩,
  ⟨none, (.store 15), [.t 11, .t 42], none⟩,
  ⟨(some 12), .mv, [.t 43], none⟩])
 (.cut c17_45))
def c17 : C := (.seq (.reg [⟨(some 6), .mv, [.c (.bool false)], none⟩])
 (.seq (.reg [⟨(some 17), .mv, [.t 0], none⟩,
  ⟨(some 18), (.call 23), [.t 17, .c (.int .i64 100)], none⟩,
  ⟨(some 19), (.bin .add), [.c (.int .i64 2), .t 18], none⟩,
  ⟨(some 7), .mv, [.t 19], none⟩])
 (.seq (.reg [⟨(some 20), .mv, [.t 1], none⟩,
  ⟨(some 21), .mv, [.t 7], none⟩,
  ⟨(some 22), (.bin .sub), [.t 21, .c (.int .i64 1)], none⟩,
  ⟨(some 23), (.call 23), [.t 20, .t 22], none⟩,
  ⟨(some 24), (.bin .add), [.c (.int .i64 1), .t 23], none⟩,
  ⟨(some 8), .mv, [.t 24], none⟩])
 (.seq (.reg [⟨(some 25), (.call 31), [.c (.int .i64 1), .c (.int .i64 3)], none⟩,
  ⟨(some 9), (.alloc [.int .i64 0, .int .i64 0, .int .i64 0, .int .i64 0, .int .i64 0, .int .i64 0, .str ⟨#[]⟩, .sl tEntry [] true, .int .i64 0, .int .i64 0, .int .i64 0, .sl .bool [] true, .sl tI [] true, .sl tI [] true, .int .i64 0]), [], none⟩,
  ⟨none, (.store 15), [.t 9, .t 25], none⟩])
 (.seq (.reg [⟨(some 26), .mv, [.t 7], none⟩,
  ⟨(some 27), (.fld 2), [.t 9], none⟩,
  ⟨none, (.store 1), [.t 27, .t 26], none⟩,
  ⟨(some 28), (.fld 3), [.t 9], none⟩,
  ⟨none, (.store 1), [.t 28, .c (.int .i64 2)], none⟩,
  ⟨(some 29), (.fld 14), [.t 9], none⟩,
  ⟨none, (.store 1), [.t 29, .c (.int .i64 4)], none⟩])
 (.seq (.reg [⟨(some 30), .mv, [.t 8], none⟩,
  ⟨(some 31), .mv, [.t 8], none⟩,
  ⟨(some 32), (.build [.int .i64 0, .str ⟨#[]⟩] [(0, 1), (1, 1)]), [.t 31, .c (.str ⟨#[120]⟩)], none⟩,
  ⟨(some 33), (.bslice tEntry 1), [.t 32], none⟩,
  ⟨(some 34), (.build [.int .i64 0, .int .i64 0, .int .i64 0, .int .i64 0, .int .i64 0, .int .i64 0, .bool false, .int .i64 0, .sl tEntry [] true, .str ⟨#[]⟩] [(0, 1), (1, 1), (2, 1), (3, 1), (8, 1), (7, 1)]), [.c (.int .i64 3), .c (.int .i64 0), .c (.int .i64 1), .t 30, .t 33, .c (.int .i64 1)], none⟩,
  ⟨(some 10), (.alloc [.int .i64 0, .int .i64 0, .int .i64 0, .int .i64 0, .int .i64 0, .int .i64 0, .bool false, .int .i64 0, .sl tEntry [] true, .str ⟨#[]⟩]), [], none⟩,
  ⟨none, (.store 10), [.t 10, .t 34], none⟩])
 (.seq (.seq (.reg [⟨(some 35), .mv, [.t 2], none⟩])
 (.cond (.t 35) (.reg [⟨(some 36), .mv, [.t 8], none⟩,
  ⟨(some 37), (.build [.int .i64 0, .int .i64 0, .int .i64 0, .int .i64 0, .int .i64 0, .int .i64 0, .bool false, .int .i64 0, .sl tEntry [] true, .str ⟨#[]⟩] [(0, 1), (1, 1), (2, 1), (3, 1), (4, 1), (5, 1), (9, 1)]), [.c (.int .i64 5), .c (.int .i64 0), .c (.int .i64 1), .t 36, .c (.int .i64 5), .c (.int .i64 1), .c (.str ⟨#[120]⟩)], none⟩,
  ⟨none, (.store 10), [.t 10, .t 37], none⟩]) .skip))
 (.cut c17_39))))))))
theorem comp17 : compC Go.Proofs.Try.prog ttL 99 [] (match Go.Proofs.Try.f17.body with | some b => b | none => .skip) = some (erase c17) := by kernel_rfl
end Go.AM
