import Derived.Test.YtbcbgfkojmligaaAA
import Derived.KernelRfl
import Derived.Test.YtbcbgfkojmligaaProg
/- Functions of the program as code of the abstract machine, each with the proof that it is that code; no condition. -/
set_option maxRecDepth 100000
namespace Go.AM
def c18_80 : C := (.seq (.regd [⟨(some 80), (.load 15 true), [.t 17], none⟩,
  ⟨(some 81), (.load 15 true), [.t 19], none⟩,
  ⟨(some 82), (.call 33), [.t 80, .t 81], none⟩,
  ⟨(some 83), .mv, [.t 82], none⟩,
  ⟨(some 84), .mv, [.t 18], (some (83, true))⟩,
  ⟨(some 85), .mv, [.t 20], (some (83, true))⟩,
  ⟨(some 86), (.call 42), [.t 84, .t 85], (some (83, true))⟩,
  ⟨(some 87), .pick, [.t 83, .t 86, .c (.bool false)], none⟩,
  ⟨(some 88), .mv, [.t 87], none⟩,
  ⟨(some 89), (.load 15 true), [.t 21], (some (88, true))⟩,
  ⟨(some 90), (.load 15 true), [.t 23], (some (88, true))⟩,
  ⟨(some 91), (.call 33), [.t 89, .t 90], (some (88, true))⟩,
  ⟨(some 92), .pick, [.t 88, .t 91, .c (.bool false)], none⟩,
  ⟨(some 93), .mv, [.t 92], none⟩,
  ⟨(some 94), .mv, [.t 22], (some (93, true))⟩,
  ⟨(some 95), .mv, [.t 24], (some (93, true))⟩,
  ⟨(some 96), (.call 42), [.t 94, .t 95], (some (93, true))⟩,
  ⟨(some 97), .pick, [.t 93, .t 96, .c (.bool false)], none⟩,
  ⟨(some 98), .mv, [.t 97], none⟩,
  ⟨(some 99), (.load 15 true), [.t 25], (some (98, true))⟩,
  ⟨(some 100), (.load 15 true), [.t 28], (some (98, true))⟩,
  ⟨(some 101), (.call 33), [.t 99, .t 100], (some (98, true))⟩,
  ⟨(some 102), .pick, [.t 98, .t 101, .c (.bool false)], none⟩,
  ⟨(some 103), .mv, [.t 102], none⟩,
  ⟨(some 104), .mv, [.t 26], (some (103, true))⟩,
  ⟨(some 105), .mv, [.t 29], (some (103, true))⟩,
  ⟨(some 106), (.call 42), [.t 104, .t 105], (some (103, true))⟩,
  ⟨(some 107), .pick, [.t 103, .t 106, .c (.bool false)], none⟩,
  ⟨(some 108), .mv, [.t 107], none⟩,
  ⟨(some 109), .mv, [.t 27], (some (108, true))⟩,
  ⟨(some 110), .mv, [.t 30], (some (108, true))⟩,
  ⟨(some 111), (.bin .eql), [.t 109, .t 110], (some (108, true))⟩,
  ⟨(some 112), .pick, [.t 108, .t 111, .c (.bool false)], none⟩,
  ⟨(some 113), .mv, [.t 112], none⟩,
  ⟨(some 114), (.load 10 true), [.t 16], (some (113, true))⟩,
  ⟨(some 115), (.fld 1), [.t 15], (some (113, true))⟩,
  ⟨(some 116), (.load 1 false), [.t 115], (some (113, true))⟩,
  ⟨(some 117), (.call 84), [.t 114, .t 116], (some (113, true))⟩,
  ⟨(some 118), (.load 10 true), [.t 16], (some (113, true))⟩,
  ⟨(some 119), (.fld 1), [.t 15], (some (113, true))⟩,
  ⟨(some 120), (.load 1 false), [.t 119], (some (113, true))⟩,
  ⟨(some 121), (.call 85), [.t 118, .t 120], (some (113, true))⟩,
  ⟨(some 122), (.binb .eql), [.t 117, .t 121], (some (113, true))⟩,
  ⟨(some 123), .pick, [.t 113, .t 122, .c (.bool false)], none⟩,
  ⟨(some 124), .mv, [.t 123], none⟩,
  ⟨(some 125), (.call 76), [], (some (124, true))⟩,
  ⟨(some 126), .pick, [.t 124, .t 125, .c (.bool false)], none⟩,
  ⟨(some 14), .mv, [.t 126], none⟩] [0, 0, 3, 4, 8, 8, 56, 72, 192, 256, 256, 1792, 2304, 6144, 8192, 8192, 57344, 73728, 196608, 262144, 262144, 1835008, 2359296, 6291456, 8388608, 8388608, 58720256, 75497472, 201326592, 268435456, 268435456, 1879048192, 2415919104, 4563402752, 8589934592, 8589934592, 42949672960, 94489280512, 8589934592, 8589934592, 558345748480, 1520418422784, 2345052143616, 4406636445696, 10995116277760, 17592186044416, 52776558133248, 140737488355327])
 .ret)
def c18_67 : C := (.seq (.reg [⟨(some 67), (.load 15 true), [.t 15], none⟩,
  ⟨(some 68), .mv, [.t 6], none⟩,
  ⟨(some 69), (.call 82), [.t 67, .t 68], none⟩,
  ⟨(some 66), .mv, [.t 69], none⟩,
  ⟨(some 70), (.ext 0), [.t 66], none⟩,
  ⟨(some 71), (.ext 1), [.t 66], none⟩,
  ⟨(some 72), (.ext 2), [.t 66], none⟩,
  ⟨(some 25), (.alloc [.int .i64 0, .int .i64 0, .int .i64 0, .int .i64 0, .int .i64 0, .int .i64 0, .str ⟨#[]⟩, .sl tEntry [] true, .int .i64 0, .int .i64 0, .int .i64 0, .sl .bool [] true, .sl tI [] true, .sl tI [] true, .int .i64 0]), [], none⟩,
  ⟨none, (.store 15), [.t 25, .t 70], none⟩,
  ⟨(some 26), .mv, [.t 71], none⟩,
  ⟨(some 27), .mv, [.t 72], none⟩])
 (.seq (.reg [⟨(some 74), (.load 15 true), [.t 15], none⟩,
  ⟨(some 75), .mv, [.t 6], none⟩,
  ⟨(some 76), (.call 83), [.t 74, .t 75], none⟩,
  ⟨(some 73), .mv, [.t 76], none⟩,
  ⟨(some 77), (.ext 0), [.t 73], none⟩,
  ⟨(some 78), (.ext 1), [.t 73], none⟩,
  ⟨(some 79), (.ext 2), [.t 73], none⟩,
  ⟨(some 28), (.alloc [.int .i64 0, .int .i64 0, .int .i64 0, .int .i64 0, .int .i64 0, .int .i64 0, .str ⟨#[]⟩, .sl tEntry [] true, .int .i64 0, .int .i64 0, .int .i64 0, .sl .bool [] true, .sl tI [] true, .sl tI [] true, .int .i64 0]), [], none⟩,
  ⟨none, (.store 15), [.t 28, .t 77], none⟩,
  ⟨(some 29), .mv, [.t 78], none⟩,
  ⟨(some 30), .mv, [.t 79], none⟩])
 (.cut c18_80)))
def c18_55 : C := (.seq (.reg [⟨(some 55), (.load 15 true), [.t 15], none⟩,
  ⟨(some 56), (.load 10 true), [.t 16], none⟩,
  ⟨(some 57), (.call 80), [.t 55, .t 56], none⟩,
  ⟨(some 54), .mv, [.t 57], none⟩,
  ⟨(some 58), (.ext 0), [.t 54], none⟩,
  ⟨(some 59), (.ext 1), [.t 54], none⟩,
  ⟨(some 21), (.alloc [.int .i64 0, .int .i64 0, .int .i64 0, .int .i64 0, .int .i64 0, .int .i64 0, .str ⟨#[]⟩, .sl tEntry [] true, .int .i64 0, .int .i64 0, .int .i64 0, .sl .bool [] true, .sl tI [] true, .sl tI [] true, .int .i64 0]), [], none⟩,
  ⟨none, (.store 15), [.t 21, .t 58], none⟩,
  ⟨(some 22), .mv, [.t 59], none⟩])
 (.seq (.reg [⟨(some 61), (.load 15 true), [.t 15], none⟩,
  ⟨(some 62), (.load 10 true), [.t 16], none⟩,
  ⟨(some 63), (.call 81), [.t 61, .t 62], none⟩,
  ⟨(some 60), .mv, [.t 63], none⟩,
  ⟨(some 64), (.ext 0), [.t 60], none⟩,
  ⟨(some 65), (.ext 1), [.t 60], none⟩,
  ⟨(some 23), (.alloc [.int .i64 0, .int .i64 0, .int .i64 0, .int .i64 0, .int .i64 0, .int .i64 0, .str ⟨#[]⟩, .sl tEntry [] true, .int .i64 0, .int .i64 0, .int .i64 0, .sl .bool [] true, .sl tI [] true, .sl tI [] true, .int .i64 0]), [], none⟩,
  ⟨none, (.store 15), [.t 23, .t 64], none⟩,
  ⟨(some 24), .mv, [.t 65], none⟩])
 (.cut c18_67)))
def c18_45 : C := (.seq (.reg [⟨(some 45), (.load 15 true), [.t 15], none⟩,
  ⟨(some 46), (.call 78), [.t 45], none⟩,
  ⟨(some 44), .mv, [.t 46], none⟩,
  ⟨(some 47), (.ext 0), [.t 44], none⟩,
  ⟨(some 48), (.ext 1), [.t 44], none⟩,
  ⟨(some 17), (.alloc [.int .i64 0, .int .i64 0, .int .i64 0, .int .i64 0, .int .i64 0, .int .i64 0, .str ⟨#[]⟩, .sl tEntry [] true, .int .i64 0, .int .i64 0, .int .i64 0, .sl .bool [] true, .sl tI [] true, .sl tI [] true, .int .i64 0]), [], none⟩,
  ⟨none, (.store 15), [.t 17, .t 47], none⟩,
  ⟨(some 18), .mv, [.t 48], none⟩])
 (.seq (.reg [⟨(some 50), (.load 15 true), [.t 15], none⟩,
  ⟨(some 51), (.call 79), [.t 50], none⟩,
  ⟨(some 49), .mv, [.t 51], none⟩,
  ⟨(some 52), (.ext 0), [.t 49], none⟩,
  ⟨(some 53), (.ext 1), [.t 49], none⟩,
  ⟨(some 19), (.alloc [.int .i64 0, .int .i64 0, .int .i64 0, .int .i64 0, .int .i64 0, .int .i64 0, .str ⟨#[]⟩, .sl tEntry [] true, .int .i64 0, .int .i64 0, .int .i64 0, .sl .bool [] true, .sl tI [] true, .sl tI [] true, .int .i64 0]), [], none⟩,
  ⟨none, (.store 15), [.t 19, .t 52], none⟩,
  ⟨(some 20), .mv, [.t 53], none⟩])
 (.cut c18_55)))
def c18_39 : C := (.seq (.reg [⟨(some 39), .mv, [.t 3], none⟩,
  ⟨(some 40), .mv, [.t 4], none⟩,
  ⟨(some 41), (.load 15 true), [.t 15], none⟩,
  ⟨(some 42), .mv, [.t 5], none⟩,
  ⟨(some 43), (.call 77), [.t 39, .t 40, .t 41, .t 42], none⟩,
  ⟨(some 16), (.alloc [.int .i64 0, .int .i64 0, .int .i64 0, .int .i64 0, .int .i64 0, .int .i64 0, .bool false, .int .i64 0, .sl tEntry [] true, .str ⟨#[]⟩]), [], none⟩,
  ⟨none, (.store 10), [.t 16, .t 43], none⟩])
 (.cut c18_45))
def c18 : C := (.seq (.reg [⟨(some 14), .mv, [.c (.bool false)], none⟩])
 (.seq (.seq (.reg [⟨(some 31), .mv, [.t 6], none⟩,
  ⟨(some 32), .lens, [.t 31], none⟩,
  ⟨(some 33), (.bin .gtr), [.t 32, .c (.int .i64 200)], none⟩])
 (.cond (.t 33) (.seq (.reg [⟨(some 34), (.call 76), [], none⟩,
  ⟨(some 14), .mv, [.t 34], none⟩])
 .ret) .skip))
 (.seq (.reg [⟨(some 35), .mv, [.t 0], none⟩,
  ⟨(some 36), .mv, [.t 1], none⟩,
  ⟨(some 37), .mv, [.t 2], none⟩,
  ⟨(some 38), (.call 22), [.t 35, .t 36, .t 37], none⟩,
  ⟨(some 15), (.alloc [.int .i64 0, .int .i64 0, .int .i64 0, .int .i64 0, .int .i64 0, .int .i64 0, .str ⟨#[]⟩, .sl tEntry [] true, .int .i64 0, .int .i64 0, .int .i64 0, .sl .bool [] true, .sl tI [] true, .sl tI [] true, .int .i64 0]), [], none⟩,
  ⟨none, (.store 15), [.t 15, .t 38], none⟩])
 (.cut c18_39))))
theorem comp18 : compC Go.Proofs.Try.prog ttL 127 [] (match Go.Proofs.Try.f18.body with | some b => b | none => .skip) = some (erase c18) := by kernel_rfl
def c81_21 : C := (.seq (.seq (.reg [⟨(some 21), (.fld 0), [.t 3], none⟩,
  ⟨(some 22), (.load 1 false), [.t 21], none⟩])
 (.block 0 (.seq (.reg [⟨(some 24), (.bin .eql), [.t 22, .c (.int .i64 1)], none⟩,
  ⟨(some 23), .mv, [.t 24], none⟩])
 (.cond (.t 23) (.seq (.reg [⟨(some 25), (.load 15 true), [.t 2], none⟩,
  ⟨(some 26), (.load 10 true), [.t 3], none⟩,
  ⟨(some 27), (.call 39), [.t 25, .t 26], none⟩,
  ⟨(some 28), (.ext 0), [.t 27], none⟩,
  ⟨(some 29), (.ext 1), [.t 27], none⟩,
  ⟨none, (.store 15), [.t 4, .t 28], none⟩,
  ⟨(some 5), .mv, [.t 29], none⟩])
 .ret) (.seq (.reg [⟨(some 31), (.bin .eql), [.t 22, .c (.int .i64 2)], none⟩,
  ⟨(some 30), .mv, [.t 31], none⟩])
 (.cond (.t 30) (.seq (.reg [⟨(some 33), (.load 15 true), [.t 2], none⟩,
  ⟨(some 34), (.load 10 true), [.t 3], none⟩,
  ⟨(some 35), (.call 41), [.t 33, .t 34], none⟩,
  ⟨(some 32), .mv, [.t 35], none⟩,
  ⟨(some 36), (.ext 0), [.t 32], none⟩,
  ⟨(some 37), (.ext 1), [.t 32], none⟩,
  ⟨(some 6), (.alloc [.int .i64 0, .int .i64 0, .int .i64 0, .int .i64 0, .int .i64 0, .int .i64 0, .str ⟨#[]⟩, .sl tEntry [] true, .int .i64 0, .int .i64 0, .int .i64 0, .sl .bool [] true, .sl tI [] true, .sl tI [] true, .int .i64 0]), [], none⟩,
  ⟨none, (.store 15), [.t 6, .t 36], none⟩,
  ⟨(some 7), .mv, [.t 37], none⟩])
 (.seq (.seq (.reg [⟨(some 38), .mv, [.t 7], none⟩,
  ⟨(some 39), .not, [.t 38], none⟩])
 (.cond (.t 39) (.seq (.reg [⟨(some 40), (.load 15 true), [.t 6], none⟩,
  ⟨none, (.store 15), [.t 4, .t 40], none⟩,
  ⟨(some 5), .mv, [.c (.sl tMsg [] true)], none⟩])
 .ret) .skip))
 (.seq (.reg [⟨(some 41), (.load 15 true), [.t 6], none⟩,
  ⟨(some 42), (.call 68), [.t 41], none⟩,
  ⟨(some 43), (.ext 0), [.t 42], none⟩,
  ⟨(some 44), (.ext 1), [.t 42], none⟩,
  ⟨none, (.store 15), [.t 4, .t 43], none⟩,
  ⟨(some 5), .mv, [.t 44], none⟩])
 .ret))) (.seq (.reg [⟨(some 46), (.bin .eql), [.t 22, .c (.int .i64 4)], none⟩,
  ⟨(some 45), .mv, [.t 46], none⟩])
 (.cond (.t 45) (.seq (.reg [⟨(some 47), (.load 15 true), [.t 2], none⟩,
  ⟨(some 48), (.load 10 true), [.t 3], none⟩,
  ⟨(some 49), (.call 75), [.t 47, .t 48], none⟩,
  ⟨(some 50), (.ext 0), [.t 49], none⟩,
  ⟨(some 51), (.ext 1), [.t 49], none⟩,
  ⟨none, (.store 15), [.t 4, .t 50], none⟩,
  ⟨(some 5), .mv, [.t 51], none⟩])
 .ret) .skip))))))))
 (.seq (.reg [⟨(some 52), (.load 15 true), [.t 2], none⟩,
  ⟨(some 53), (.load 10 true), [.t 3], none⟩,
  ⟨(some 54), (.call 73), [.t 52, .t 53], none⟩,
  ⟨(some 55), (.ext 0), [.t 54], none⟩,
  ⟨(some 56), (.ext 1), [.t 54], none⟩,
  ⟨none, (.store 15), [.t 4, .t 55], none⟩,
  ⟨(some 5), .mv, [.t 56], none⟩])
 .ret))
def c81 : C := (.seq (.reg [⟨(some 2), .box, [.t 0], none⟩,
  ⟨(some 3), .box, [.t 1], none⟩,
  ⟨(some 4), (.alloc [.int .i64 0, .int .i64 0, .int .i64 0, .int .i64 0, .int .i64 0, .int .i64 0, .str ⟨#[]⟩, .sl tEntry [] true, .int .i64 0, .int .i64 0, .int .i64 0, .sl .bool [] true, .sl tI [] true, .sl tI [] true, .int .i64 0]), [], none⟩,
  ⟨(some 5), .mv, [.c (.sl tMsg [] true)], none⟩])
 (.seq (.seq (.reg [⟨(some 8), (.load 10 true), [.t 3], none⟩,
  ⟨(some 9), (.fld 1), [.t 2], none⟩,
  ⟨(some 10), (.load 1 false), [.t 9], none⟩,
  ⟨(some 11), (.call 85), [.t 8, .t 10], none⟩,
  ⟨(some 12), .not, [.t 11], none⟩,
  ⟨(some 13), .mv, [.t 12], none⟩,
  ⟨(some 14), (.fld 2), [.t 3], (some (13, false))⟩,
  ⟨(some 15), (.load 1 false), [.t 14], (some (13, false))⟩,
  ⟨(some 16), (.fld 0), [.t 2], (some (13, false))⟩,
  ⟨(some 17), (.load 1 false), [.t 16], (some (13, false))⟩,
  ⟨(some 18), (.bin .neq), [.t 15, .t 17], (some (13, false))⟩,
  ⟨(some 19), .pick, [.t 13, .c (.bool true), .t 18], none⟩])
 (.cond (.t 19) (.seq (.reg [⟨(some 20), (.load 15 true), [.t 2], none⟩,
  ⟨none, (.store 15), [.t 4, .t 20], none⟩,
  ⟨(some 5), .mv, [.c (.sl tMsg [] true)], none⟩])
 .ret) .skip))
 (.cut c81_21)))
theorem comp81 : compC Go.Proofs.Try.prog ttL 57 [] (match Go.Proofs.Try.f81.body with | some b => b | none => .skip) = some (erase c81) := by kernel_rfl
end Go.AM
