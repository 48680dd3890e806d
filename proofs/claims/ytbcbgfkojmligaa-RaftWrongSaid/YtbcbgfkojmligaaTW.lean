import Derived.Test.YtbcbgfkojmligaaAA
import Derived.KernelRfl
import Derived.Test.YtbcbgfkojmligaaProg
/- Functions of the program as code of the abstract machine, each with the proof that it is that code; no condition. -/
set_option maxRecDepth 100000
namespace Go.AM
def c21_84 : C := (.seq (.reg [⟨(some 84), (.load 10 true), [.t 7], none⟩,
  ⟨(some 85), (.call 84), [.t 84, .c (.int .i64 3)], none⟩,
  ⟨(some 86), .not, [.t 85], none⟩,
  ⟨(some 87), .mv, [.t 86], none⟩,
  ⟨(some 88), (.load 15 true), [.t 8], (some (87, true))⟩,
  ⟨(some 89), (.load 15 true), [.t 5], (some (87, true))⟩,
  ⟨(some 90), (.call 33), [.t 88, .t 89], (some (87, true))⟩,
  ⟨(some 91), .pick, [.t 87, .t 90, .c (.bool false)], none⟩,
  ⟨(some 92), .mv, [.t 91], none⟩,
  ⟨(some 93), .mv, [.t 9], (some (92, true))⟩,
  ⟨(some 94), .len, [.t 93], (some (92, true))⟩,
  ⟨(some 95), (.bin .eql), [.t 94, .c (.int .i64 0)], (some (92, true))⟩,
  ⟨(some 96), .pick, [.t 92, .t 95, .c (.bool false)], none⟩,
  ⟨(some 97), .mv, [.t 96], none⟩,
  ⟨(some 98), (.load 15 true), [.t 10], (some (97, true))⟩,
  ⟨(some 99), (.load 15 true), [.t 5], (some (97, true))⟩,
  ⟨(some 100), (.call 33), [.t 98, .t 99], (some (97, true))⟩,
  ⟨(some 101), .pick, [.t 97, .t 100, .c (.bool false)], none⟩,
  ⟨(some 102), .mv, [.t 101], none⟩,
  ⟨(some 103), .mv, [.t 11], (some (102, true))⟩,
  ⟨(some 104), .len, [.t 103], (some (102, true))⟩,
  ⟨(some 105), (.bin .eql), [.t 104, .c (.int .i64 0)], (some (102, true))⟩,
  ⟨(some 106), .pick, [.t 102, .t 105, .c (.bool false)], none⟩,
  ⟨(some 107), .mv, [.t 106], none⟩,
  ⟨(some 108), (.call 76), [], (some (107, true))⟩,
  ⟨(some 109), .pick, [.t 107, .t 108, .c (.bool false)], none⟩,
  ⟨(some 4), .mv, [.t 109], none⟩])
 .ret)
def c21_79 : C := (.seq (.reg [⟨(some 79), (.load 15 true), [.t 5], none⟩,
  ⟨(some 80), (.build [.int .i64 0, .int .i64 0, .int .i64 0, .int .i64 0, .int .i64 0, .int .i64 0, .bool false, .int .i64 0, .sl tEntry [] true, .str ⟨#[]⟩] [(0, 1), (1, 1), (2, 1), (3, 1)]), [.c (.int .i64 1), .c (.int .i64 1), .c (.int .i64 2), .c (.int .i64 9)], none⟩,
  ⟨(some 81), (.call 80), [.t 79, .t 80], none⟩,
  ⟨(some 78), .mv, [.t 81], none⟩,
  ⟨(some 82), (.ext 0), [.t 78], none⟩,
  ⟨(some 83), (.ext 1), [.t 78], none⟩,
  ⟨(some 10), (.alloc [.int .i64 0, .int .i64 0, .int .i64 0, .int .i64 0, .int .i64 0, .int .i64 0, .str ⟨#[]⟩, .sl tEntry [] true, .int .i64 0, .int .i64 0, .int .i64 0, .sl .bool [] true, .sl tI [] true, .sl tI [] true, .int .i64 0]), [], none⟩,
  ⟨none, (.store 15), [.t 10, .t 82], none⟩,
  ⟨(some 11), .mv, [.t 83], none⟩])
 (.cut c21_84))
def c21_73 : C := (.seq (.reg [⟨(some 73), (.load 15 true), [.t 5], none⟩,
  ⟨(some 74), (.load 10 true), [.t 7], none⟩,
  ⟨(some 75), (.call 80), [.t 73, .t 74], none⟩,
  ⟨(some 72), .mv, [.t 75], none⟩,
  ⟨(some 76), (.ext 0), [.t 72], none⟩,
  ⟨(some 77), (.ext 1), [.t 72], none⟩,
  ⟨(some 8), (.alloc [.int .i64 0, .int .i64 0, .int .i64 0, .int .i64 0, .int .i64 0, .int .i64 0, .str ⟨#[]⟩, .sl tEntry [] true, .int .i64 0, .int .i64 0, .int .i64 0, .sl .bool [] true, .sl tI [] true, .sl tI [] true, .int .i64 0]), [], none⟩,
  ⟨none, (.store 15), [.t 8, .t 76], none⟩,
  ⟨(some 9), .mv, [.t 77], none⟩])
 (.cut c21_79))
def c21 : C := (.seq (.reg [⟨(some 4), .mv, [.c (.bool false)], none⟩])
 (.seq (.reg [⟨(some 12), (.call 31), [.c (.int .i64 0), .c (.int .i64 3)], none⟩,
  ⟨(some 5), (.alloc [.int .i64 0, .int .i64 0, .int .i64 0, .int .i64 0, .int .i64 0, .int .i64 0, .str ⟨#[]⟩, .sl tEntry [] true, .int .i64 0, .int .i64 0, .int .i64 0, .sl .bool [] true, .sl tI [] true, .sl tI [] true, .int .i64 0]), [], none⟩,
  ⟨none, (.store 15), [.t 5, .t 12], none⟩])
 (.seq (.reg [⟨(some 13), (.fld 2), [.t 5], none⟩,
  ⟨none, (.store 1), [.t 13, .c (.int .i64 4)], none⟩,
  ⟨(some 14), (.fld 8), [.t 5], none⟩,
  ⟨none, (.store 1), [.t 14, .c (.int .i64 2)], none⟩,
  ⟨(some 15), (.fld 9), [.t 5], none⟩,
  ⟨none, (.store 1), [.t 15, .c (.int .i64 0)], none⟩])
 (.seq (.reg [⟨(some 16), .mv, [.t 1], none⟩,
  ⟨(some 17), (.call 23), [.t 16, .c (.int .i64 1000)], none⟩,
  ⟨(some 18), (.bin .add), [.c (.int .i64 1), .t 17], none⟩,
  ⟨(some 6), .mv, [.t 18], none⟩])
 (.seq (.reg [⟨(some 19), (.build [.int .i64 0, .int .i64 0, .int .i64 0, .int .i64 0, .int .i64 0, .int .i64 0, .bool false, .int .i64 0, .sl tEntry [] true, .str ⟨#[]⟩] [(0, 1), (1, 1), (2, 1), (3, 1)]), [.c (.int .i64 1), .c (.int .i64 1), .c (.int .i64 0), .c (.int .i64 9)], none⟩,
  ⟨(some 7), (.alloc [.int .i64 0, .int .i64 0, .int .i64 0, .int .i64 0, .int .i64 0, .int .i64 0, .bool false, .int .i64 0, .sl tEntry [] true, .str ⟨#[]⟩]), [], none⟩,
  ⟨none, (.store 10), [.t 7, .t 19], none⟩])
 (.seq (.seq (.reg [⟨(some 20), (.load 10 true), [.t 7], none⟩,
  ⟨(some 21), (.call 84), [.t 20, .c (.int .i64 3)], none⟩,
  ⟨(some 22), .not, [.t 21], none⟩])
 (.cond (.t 22) (.seq (.reg [⟨(some 4), .mv, [.c (.bool false)], none⟩])
 .ret) .skip))
 (.seq (.seq (.reg [⟨(some 23), .mv, [.t 0], none⟩,
  ⟨(some 24), (.call 23), [.t 23, .c (.int .i64 10)], none⟩])
 (.block 0 (.seq (.reg [⟨(some 31), (.bin .eql), [.t 24, .c (.int .i64 0)], none⟩,
  ⟨(some 30), .mv, [.t 31], none⟩])
 (.cond (.t 30) (.reg [⟨(some 32), .mv, [.t 6], none⟩,
  ⟨(some 33), (.bin .add), [.c (.int .i64 5), .t 32], none⟩,
  ⟨(some 34), (.fld 0), [.t 7], none⟩,
  ⟨none, (.store 1), [.t 34, .t 33], none⟩]) (.seq (.reg [⟨(some 36), (.bin .eql), [.t 24, .c (.int .i64 1)], none⟩,
  ⟨(some 35), .mv, [.t 36], none⟩])
 (.cond (.t 35) (.reg [⟨(some 37), .mv, [.t 6], none⟩,
  ⟨(some 38), .neg, [.t 37], none⟩,
  ⟨(some 39), (.fld 0), [.t 7], none⟩,
  ⟨none, (.store 1), [.t 39, .t 38], none⟩]) (.seq (.reg [⟨(some 41), (.bin .eql), [.t 24, .c (.int .i64 2)], none⟩,
  ⟨(some 40), .mv, [.t 41], none⟩])
 (.cond (.t 40) (.reg [⟨(some 42), .mv, [.t 6], none⟩,
  ⟨(some 43), (.bin .add), [.c (.int .i64 2), .t 42], none⟩,
  ⟨(some 44), (.fld 1), [.t 7], none⟩,
  ⟨none, (.store 1), [.t 44, .t 43], none⟩]) (.seq (.reg [⟨(some 46), (.bin .eql), [.t 24, .c (.int .i64 3)], none⟩,
  ⟨(some 45), .mv, [.t 46], none⟩])
 (.cond (.t 45) (.reg [⟨(some 47), .mv, [.t 6], none⟩,
  ⟨(some 48), .neg, [.t 47], none⟩,
  ⟨(some 49), (.fld 1), [.t 7], none⟩,
  ⟨none, (.store 1), [.t 49, .t 48], none⟩]) (.seq (.reg [⟨(some 51), (.bin .eql), [.t 24, .c (.int .i64 4)], none⟩,
  ⟨(some 50), .mv, [.t 51], none⟩])
 (.cond (.t 50) (.reg [⟨(some 52), (.fld 1), [.t 7], none⟩,
  ⟨none, (.store 1), [.t 52, .c (.int .i64 0)], none⟩]) (.seq (.reg [⟨(some 54), (.bin .eql), [.t 24, .c (.int .i64 5)], none⟩,
  ⟨(some 53), .mv, [.t 54], none⟩])
 (.cond (.t 53) (.reg [⟨(some 55), (.fld 3), [.t 7], none⟩,
  ⟨none, (.store 1), [.t 55, .c (.int .i64 0)], none⟩]) (.seq (.reg [⟨(some 57), (.bin .eql), [.t 24, .c (.int .i64 6)], none⟩,
  ⟨(some 56), .mv, [.t 57], none⟩])
 (.cond (.t 56) (.reg [⟨(some 58), .mv, [.t 6], none⟩,
  ⟨(some 59), (.bin .add), [.c (.int .i64 1099511627776), .t 58], none⟩,
  ⟨(some 60), (.fld 3), [.t 7], none⟩,
  ⟨none, (.store 1), [.t 60, .t 59], none⟩]) (.seq (.reg [⟨(some 62), (.bin .eql), [.t 24, .c (.int .i64 7)], none⟩,
  ⟨(some 61), .mv, [.t 62], none⟩])
 (.cond (.t 61) (.reg [⟨(some 63), .mv, [.t 6], none⟩,
  ⟨(some 64), .neg, [.t 63], none⟩,
  ⟨(some 65), (.fld 4), [.t 7], none⟩,
  ⟨none, (.store 1), [.t 65, .t 64], none⟩]) (.seq (.reg [⟨(some 67), (.bin .eql), [.t 24, .c (.int .i64 8)], none⟩,
  ⟨(some 66), .mv, [.t 67], none⟩])
 (.cond (.t 66) (.reg [⟨(some 68), .mv, [.t 6], none⟩,
  ⟨(some 69), (.bin .add), [.c (.int .i64 20), .t 68], none⟩,
  ⟨(some 70), (.mks tEntry 24), [.t 69, .t 69], none⟩,
  ⟨(some 71), (.fld 8), [.t 7], none⟩,
  ⟨none, (.store 1), [.t 71, .t 70], none⟩]) (.reg [⟨(some 25), .mv, [.t 6], none⟩,
  ⟨(some 26), (.bin .add), [.c (.int .i64 9), .t 25], none⟩,
  ⟨(some 27), (.build [.int .i64 0, .str ⟨#[]⟩] [(0, 1)]), [.t 26], none⟩,
  ⟨(some 28), (.bslice tEntry 1), [.t 27], none⟩,
  ⟨(some 29), (.fld 8), [.t 7], none⟩,
  ⟨none, (.store 1), [.t 29, .t 28], none⟩])))))))))))))))))))))
 (.cut c21_73))))))))
theorem comp21 : compC Go.Proofs.Try.prog ttL 110 [] (match Go.Proofs.Try.f21.body with | some b => b | none => .skip) = some (erase c21) := by kernel_rfl
end Go.AM
