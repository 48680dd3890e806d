import Derived.Test.YtbcbgfkojmligaaAA
import Derived.KernelRfl
import Derived.Test.YtbcbgfkojmligaaProg
/- Functions of the program as code of the abstract machine, each with the proof that it is that code; no condition. -/
set_option maxRecDepth 100000
namespace Go.AM
def c14_112 : C := (.seq (.reg [⟨(some 112), (.load 15 true), [.t 22], none⟩,
  ⟨(some 113), (.load 15 true), [.t 24], none⟩,
  ⟨(some 114), (.call 33), [.t 112, .t 113], none⟩,
  ⟨(some 115), .mv, [.t 114], none⟩,
  ⟨(some 116), .mv, [.t 23], (some (115, true))⟩,
  ⟨(some 117), .mv, [.t 25], (some (115, true))⟩,
  ⟨(some 118), (.call 42), [.t 116, .t 117], (some (115, true))⟩,
  ⟨(some 119), .pick, [.t 115, .t 118, .c (.bool false)], none⟩,
  ⟨(some 120), .mv, [.t 119], none⟩,
  ⟨(some 121), (.load 15 true), [.t 26], (some (120, true))⟩,
  ⟨(some 122), (.load 15 true), [.t 28], (some (120, true))⟩,
  ⟨(some 123), (.call 33), [.t 121, .t 122], (some (120, true))⟩,
  ⟨(some 124), .pick, [.t 120, .t 123, .c (.bool false)], none⟩,
  ⟨(some 125), .mv, [.t 124], none⟩,
  ⟨(some 126), .mv, [.t 27], (some (125, true))⟩,
  ⟨(some 127), .mv, [.t 29], (some (125, true))⟩,
  ⟨(some 128), (.call 42), [.t 126, .t 127], (some (125, true))⟩,
  ⟨(some 129), .pick, [.t 125, .t 128, .c (.bool false)], none⟩,
  ⟨(some 130), .mv, [.t 129], none⟩,
  ⟨(some 131), (.call 57), [], (some (130, true))⟩,
  ⟨(some 132), .pick, [.t 130, .t 131, .c (.bool false)], none⟩,
  ⟨(some 14), .mv, [.t 132], none⟩])
 .ret)
def c14_99 : C := (.seq (.reg [⟨(some 99), (.fld 0), [.t 16], none⟩,
  ⟨none, (.store 1), [.t 99, .c (.int .i64 4)], none⟩])
 (.seq (.reg [⟨(some 101), (.load 15 true), [.t 15], none⟩,
  ⟨(some 102), (.load 10 true), [.t 16], none⟩,
  ⟨(some 103), (.call 74), [.t 101, .t 102], none⟩,
  ⟨(some 100), .mv, [.t 103], none⟩,
  ⟨(some 104), (.ext 0), [.t 100], none⟩,
  ⟨(some 105), (.ext 1), [.t 100], none⟩,
  ⟨(some 26), (.alloc [.int .i64 0, .int .i64 0, .int .i64 0, .int .i64 0, .int .i64 0, .int .i64 0, .str ⟨#[]⟩, .sl tEntry [] true, .int .i64 0, .int .i64 0, .int .i64 0, .sl .bool [] true, .sl tI [] true, .sl tI [] true, .int .i64 0]), [], none⟩,
  ⟨none, (.store 15), [.t 26, .t 104], none⟩,
  ⟨(some 27), .mv, [.t 105], none⟩])
 (.seq (.reg [⟨(some 107), (.load 15 true), [.t 15], none⟩,
  ⟨(some 108), (.load 10 true), [.t 16], none⟩,
  ⟨(some 109), (.call 75), [.t 107, .t 108], none⟩,
  ⟨(some 106), .mv, [.t 109], none⟩,
  ⟨(some 110), (.ext 0), [.t 106], none⟩,
  ⟨(some 111), (.ext 1), [.t 106], none⟩,
  ⟨(some 28), (.alloc [.int .i64 0, .int .i64 0, .int .i64 0, .int .i64 0, .int .i64 0, .int .i64 0, .str ⟨#[]⟩, .sl tEntry [] true, .int .i64 0, .int .i64 0, .int .i64 0, .sl .bool [] true, .sl tI [] true, .sl tI [] true, .int .i64 0]), [], none⟩,
  ⟨none, (.store 15), [.t 28, .t 110], none⟩,
  ⟨(some 29), .mv, [.t 111], none⟩])
 (.cut c14_112))))
def c14_88 : C := (.seq (.reg [⟨(some 88), (.load 15 true), [.t 15], none⟩,
  ⟨(some 89), (.load 10 true), [.t 16], none⟩,
  ⟨(some 90), (.call 65), [.t 88, .t 89], none⟩,
  ⟨(some 87), .mv, [.t 90], none⟩,
  ⟨(some 91), (.ext 0), [.t 87], none⟩,
  ⟨(some 92), (.ext 1), [.t 87], none⟩,
  ⟨(some 22), (.alloc [.int .i64 0, .int .i64 0, .int .i64 0, .int .i64 0, .int .i64 0, .int .i64 0, .str ⟨#[]⟩, .sl tEntry [] true, .int .i64 0, .int .i64 0, .int .i64 0, .sl .bool [] true, .sl tI [] true, .sl tI [] true, .int .i64 0]), [], none⟩,
  ⟨none, (.store 15), [.t 22, .t 91], none⟩,
  ⟨(some 23), .mv, [.t 92], none⟩])
 (.seq (.reg [⟨(some 94), (.load 15 true), [.t 15], none⟩,
  ⟨(some 95), (.load 10 true), [.t 16], none⟩,
  ⟨(some 96), (.call 73), [.t 94, .t 95], none⟩,
  ⟨(some 93), .mv, [.t 96], none⟩,
  ⟨(some 97), (.ext 0), [.t 93], none⟩,
  ⟨(some 98), (.ext 1), [.t 93], none⟩,
  ⟨(some 24), (.alloc [.int .i64 0, .int .i64 0, .int .i64 0, .int .i64 0, .int .i64 0, .int .i64 0, .str ⟨#[]⟩, .sl tEntry [] true, .int .i64 0, .int .i64 0, .int .i64 0, .sl .bool [] true, .sl tI [] true, .sl tI [] true, .int .i64 0]), [], none⟩,
  ⟨none, (.store 15), [.t 24, .t 97], none⟩,
  ⟨(some 25), .mv, [.t 98], none⟩])
 (.cut c14_99)))
def c14_81 : C := (.seq (.reg [⟨(some 81), (.build [.int .i64 0, .int .i64 0] [(0, 1), (1, 1)]), [.c (.int .i64 3), .c (.int .i64 5)], none⟩,
  ⟨(some 82), (.fld 0), [.t 16], none⟩,
  ⟨(some 83), (.load 1 false), [.t 82], none⟩,
  ⟨(some 84), (.bin .rem), [.t 83, .c (.int .i64 2)], none⟩,
  ⟨(some 85), (.index 1 2), [.t 81, .t 84], none⟩,
  ⟨(some 86), (.fld 0), [.t 16], none⟩,
  ⟨none, (.store 1), [.t 86, .t 85], none⟩])
 (.cut c14_88))
def c14_53 : C := (.seq (.seq (.regd [⟨(some 53), (.load 15 true), [.t 18], none⟩,
  ⟨(some 54), (.load 15 true), [.t 20], none⟩,
  ⟨(some 55), (.call 33), [.t 53, .t 54], none⟩,
  ⟨(some 56), .not, [.t 55], none⟩,
  ⟨(some 57), .mv, [.t 56], none⟩,
  ⟨(some 58), .mv, [.t 19], (some (57, false))⟩,
  ⟨(some 59), .mv, [.t 21], (some (57, false))⟩,
  ⟨(some 60), (.call 42), [.t 58, .t 59], (some (57, false))⟩,
  ⟨(some 61), .not, [.t 60], (some (57, false))⟩,
  ⟨(some 62), .pick, [.t 57, .c (.bool true), .t 61], none⟩,
  ⟨(some 63), .mv, [.t 62], none⟩,
  ⟨(some 64), (.load 15 true), [.t 15], (some (63, false))⟩,
  ⟨(some 65), .mv, [.t 17], (some (63, false))⟩,
  ⟨(some 66), (.call 70), [.t 64, .t 65], (some (63, false))⟩,
  ⟨(some 67), (.load 15 true), [.t 15], (some (63, false))⟩,
  ⟨(some 68), .mv, [.t 17], (some (63, false))⟩,
  ⟨(some 69), (.call 71), [.t 67, .t 68], (some (63, false))⟩,
  ⟨(some 70), (.call 69), [.t 66, .t 69], (some (63, false))⟩,
  ⟨(some 71), .not, [.t 70], (some (63, false))⟩,
  ⟨(some 72), .pick, [.t 63, .c (.bool true), .t 71], none⟩,
  ⟨(some 73), .mv, [.t 72], none⟩,
  ⟨(some 74), (.load 15 true), [.t 15], (some (73, false))⟩,
  ⟨(some 75), (.call 56), [.t 74], (some (73, false))⟩,
  ⟨(some 76), (.load 15 true), [.t 15], (some (73, false))⟩,
  ⟨(some 77), (.call 72), [.t 76], (some (73, false))⟩,
  ⟨(some 78), (.call 33), [.t 75, .t 77], (some (73, false))⟩,
  ⟨(some 79), .not, [.t 78], (some (73, false))⟩,
  ⟨(some 80), .pick, [.t 73, .c (.bool true), .t 79], none⟩] [0, 0, 3, 4, 12, 16, 16, 112, 144, 272, 640, 1024, 1024, 7168, 1024, 1024, 58368, 74752, 132096, 263168, 655360, 1048576, 3145728, 1048576, 13631488, 22020096, 34603008, 68157440])
 (.cond (.t 80) (.seq (.reg [⟨(some 14), .mv, [.c (.bool false)], none⟩])
 .ret) .skip))
 (.cut c14_81))
def c14_44 : C := (.seq (.reg [⟨(some 44), (.load 15 true), [.t 15], none⟩,
  ⟨(some 45), (.call 67), [.t 44], none⟩,
  ⟨(some 43), .mv, [.t 45], none⟩,
  ⟨(some 46), (.ext 0), [.t 43], none⟩,
  ⟨(some 47), (.ext 1), [.t 43], none⟩,
  ⟨(some 18), (.alloc [.int .i64 0, .int .i64 0, .int .i64 0, .int .i64 0, .int .i64 0, .int .i64 0, .str ⟨#[]⟩, .sl tEntry [] true, .int .i64 0, .int .i64 0, .int .i64 0, .sl .bool [] true, .sl tI [] true, .sl tI [] true, .int .i64 0]), [], none⟩,
  ⟨none, (.store 15), [.t 18, .t 46], none⟩,
  ⟨(some 19), .mv, [.t 47], none⟩])
 (.seq (.reg [⟨(some 49), (.load 15 true), [.t 15], none⟩,
  ⟨(some 50), (.call 68), [.t 49], none⟩,
  ⟨(some 48), .mv, [.t 50], none⟩,
  ⟨(some 51), (.ext 0), [.t 48], none⟩,
  ⟨(some 52), (.ext 1), [.t 48], none⟩,
  ⟨(some 20), (.alloc [.int .i64 0, .int .i64 0, .int .i64 0, .int .i64 0, .int .i64 0, .int .i64 0, .str ⟨#[]⟩, .sl tEntry [] true, .int .i64 0, .int .i64 0, .int .i64 0, .sl .bool [] true, .sl tI [] true, .sl tI [] true, .int .i64 0]), [], none⟩,
  ⟨none, (.store 15), [.t 20, .t 51], none⟩,
  ⟨(some 21), .mv, [.t 52], none⟩])
 (.cut c14_53)))
def c14 : C := (.seq (.reg [⟨(some 14), .mv, [.c (.bool false)], none⟩])
 (.seq (.reg [⟨(some 30), .mv, [.t 0], none⟩,
  ⟨(some 31), .mv, [.t 1], none⟩,
  ⟨(some 32), .mv, [.t 2], none⟩,
  ⟨(some 33), (.call 22), [.t 30, .t 31, .t 32], none⟩,
  ⟨(some 15), (.alloc [.int .i64 0, .int .i64 0, .int .i64 0, .int .i64 0, .int .i64 0, .int .i64 0, .str ⟨#[]⟩, .sl tEntry [] true, .int .i64 0, .int .i64 0, .int .i64 0, .sl .bool [] true, .sl tI [] true, .sl tI [] true, .int .i64 0]), [], none⟩,
  ⟨none, (.store 15), [.t 15, .t 33], none⟩])
 (.seq (.reg [⟨(some 34), .mv, [.t 3], none⟩,
  ⟨(some 35), .mv, [.t 4], none⟩,
  ⟨(some 36), (.load 15 true), [.t 15], none⟩,
  ⟨(some 37), .mv, [.t 5], none⟩,
  ⟨(some 38), (.call 66), [.t 34, .t 35, .t 36, .t 37], none⟩,
  ⟨(some 16), (.alloc [.int .i64 0, .int .i64 0, .int .i64 0, .int .i64 0, .int .i64 0, .int .i64 0, .bool false, .int .i64 0, .sl tEntry [] true, .str ⟨#[]⟩]), [], none⟩,
  ⟨none, (.store 10), [.t 16, .t 38], none⟩])
 (.seq (.reg [⟨(some 39), .mv, [.t 6], none⟩,
  ⟨(some 40), (.fld 1), [.t 15], none⟩,
  ⟨(some 41), (.load 1 false), [.t 40], none⟩,
  ⟨(some 42), (.call 23), [.t 39, .t 41], none⟩,
  ⟨(some 17), .mv, [.t 42], none⟩])
 (.cut c14_44)))))
theorem comp14 : compC Go.Proofs.Try.prog ttL 133 [] (match Go.Proofs.Try.f14.body with | some b => b | none => .skip) = some (erase c14) := by kernel_rfl
end Go.AM
