import Derived.Test.YtbcbgfkojmligaaAA
import Derived.KernelRfl
import Derived.Test.YtbcbgfkojmligaaProg
/- Functions of the program as code of the abstract machine, each with the proof that it is that code; no condition. -/
set_option maxRecDepth 100000
namespace Go.AM
def c16_100 : C := (.seq (.reg [⟨(some 100), .mv, [.t 10], none⟩,
  ⟨(some 101), .len, [.t 100], none⟩,
  ⟨(some 102), (.bin .eql), [.t 101, .c (.int .i64 0)], none⟩,
  ⟨(some 103), .mv, [.t 102], none⟩,
  ⟨(some 104), .mv, [.t 11], (some (103, true))⟩,
  ⟨(some 105), (.bin .eql), [.t 104, .c (.int .i64 1)], (some (103, true))⟩,
  ⟨(some 106), .pick, [.t 103, .t 105, .c (.bool false)], none⟩,
  ⟨(some 107), .mv, [.t 106], none⟩,
  ⟨(some 108), (.fld 4), [.t 8], (some (107, true))⟩,
  ⟨(some 109), (.load 1 false), [.t 108], (some (107, true))⟩,
  ⟨(some 110), .mv, [.t 6], (some (107, true))⟩,
  ⟨(some 111), (.bin .eql), [.t 109, .t 110], (some (107, true))⟩,
  ⟨(some 112), .pick, [.t 107, .t 111, .c (.bool false)], none⟩,
  ⟨(some 113), .mv, [.t 112], none⟩,
  ⟨(some 114), (.fld 6), [.t 8], (some (113, true))⟩,
  ⟨(some 115), (.load 1 false), [.t 114], (some (113, true))⟩,
  ⟨(some 116), (.bin .eql), [.t 115, .c (.str ⟨#[115, 110, 97, 112]⟩)], (some (113, true))⟩,
  ⟨(some 117), .pick, [.t 113, .t 116, .c (.bool false)], none⟩,
  ⟨(some 118), .mv, [.t 117], none⟩,
  ⟨(some 119), (.fld 7), [.t 8], (some (118, true))⟩,
  ⟨(some 120), (.load 1 false), [.t 119], (some (118, true))⟩,
  ⟨(some 121), .len, [.t 120], (some (118, true))⟩,
  ⟨(some 122), .mv, [.t 5], (some (118, true))⟩,
  ⟨(some 123), .mv, [.t 6], (some (118, true))⟩,
  ⟨(some 124), (.bin .sub), [.t 122, .t 123], (some (118, true))⟩,
  ⟨(some 125), (.bin .add), [.t 124, .c (.int .i64 1)], (some (118, true))⟩,
  ⟨(some 126), (.bin .eql), [.t 121, .t 125], (some (118, true))⟩,
  ⟨(some 127), .pick, [.t 118, .t 126, .c (.bool false)], none⟩,
  ⟨(some 128), .mv, [.t 127], none⟩,
  ⟨(some 129), (.fld 10), [.t 7], (some (128, true))⟩,
  ⟨(some 130), (.load 1 false), [.t 129], (some (128, true))⟩,
  ⟨(some 131), .mv, [.t 5], (some (128, true))⟩,
  ⟨(some 132), (.bin .add), [.t 131, .c (.int .i64 1)], (some (128, true))⟩,
  ⟨(some 133), (.bin .eql), [.t 130, .t 132], (some (128, true))⟩,
  ⟨(some 134), .pick, [.t 128, .t 133, .c (.bool false)], none⟩,
  ⟨(some 135), .mv, [.t 134], none⟩,
  ⟨(some 136), (.fld 10), [.t 8], (some (135, true))⟩,
  ⟨(some 137), (.load 1 false), [.t 136], (some (135, true))⟩,
  ⟨(some 138), .mv, [.t 6], (some (135, true))⟩,
  ⟨(some 139), (.bin .geq), [.t 137, .t 138], (some (135, true))⟩,
  ⟨(some 140), .pick, [.t 135, .t 139, .c (.bool false)], none⟩,
  ⟨(some 141), .mv, [.t 140], none⟩,
  ⟨(some 142), (.fld 5), [.t 8], (some (141, true))⟩,
  ⟨(some 143), (.load 1 false), [.t 142], (some (141, true))⟩,
  ⟨(some 144), .mv, [.t 6], (some (141, true))⟩,
  ⟨(some 145), (.bin .sub), [.t 144, .c (.int .i64 1)], (some (141, true))⟩,
  ⟨(some 146), (.bin .quo), [.t 145, .c (.int .i64 25)], (some (141, true))⟩,
  ⟨(some 147), (.bin .add), [.c (.int .i64 1), .t 146], (some (141, true))⟩,
  ⟨(some 148), (.bin .eql), [.t 143, .t 147], (some (141, true))⟩,
  ⟨(some 149), .pick, [.t 141, .t 148, .c (.bool false)], none⟩,
  ⟨(some 150), .mv, [.t 149], none⟩,
  ⟨(some 151), (.call 57), [], (some (150, true))⟩,
  ⟨(some 152), .pick, [.t 150, .t 151, .c (.bool false)], none⟩,
  ⟨(some 4), .mv, [.t 152], none⟩])
 .ret)
def c16_11 : C := (.seq (.reg [⟨(some 11), .mv, [.c (.int .i64 0)], none⟩])
 (.seq (.seq (.reg [⟨(some 12), .mv, [.c (.int .i64 0)], none⟩])
 (.block 2 (.loop (.seq (.seq (.reg [⟨(some 53), .mv, [.t 12], none⟩,
  ⟨(some 54), (.bin .lss), [.t 53, .c (.int .i64 200)], none⟩,
  ⟨(some 55), .mv, [.t 54], none⟩,
  ⟨(some 56), .mv, [.t 10], (some (55, true))⟩,
  ⟨(some 57), .len, [.t 56], (some (55, true))⟩,
  ⟨(some 58), (.bin .gtr), [.t 57, .c (.int .i64 0)], (some (55, true))⟩,
  ⟨(some 59), .pick, [.t 55, .t 58, .c (.bool false)], none⟩])
 (.cond (.t 59) .skip (.exit 2)))
 (.seq (.block 3 (.seq (.reg [⟨(some 62), .mv, [.t 10], none⟩,
  ⟨(some 63), (.idx 10), [.t 62, .c (.int .i64 0)], none⟩,
  ⟨(some 64), (.fld 2), [.t 63], none⟩,
  ⟨(some 65), (.load 1 false), [.t 64], none⟩,
  ⟨(some 66), (.bin .eql), [.t 65, .c (.int .i64 1)], none⟩])
 (.cond (.t 66) (.seq (.seq (.reg [⟨(some 67), .mv, [.t 10], none⟩,
  ⟨(some 68), (.idx 10), [.t 67, .c (.int .i64 0)], none⟩,
  ⟨(some 69), (.fld 0), [.t 68], none⟩,
  ⟨(some 70), (.load 1 false), [.t 69], none⟩,
  ⟨(some 71), (.bin .eql), [.t 70, .c (.int .i64 5)], none⟩])
 (.cond (.t 71) (.reg [⟨(some 72), .mv, [.t 11], none⟩,
  ⟨(some 73), (.bin .add), [.t 72, .c (.int .i64 1)], none⟩,
  ⟨(some 11), .mv, [.t 73], none⟩]) .skip))
 (.seq (.regd [⟨(some 75), (.load 15 true), [.t 8], none⟩,
  ⟨(some 76), .mv, [.t 10], none⟩,
  ⟨(some 77), (.idx 10), [.t 76, .c (.int .i64 0)], none⟩,
  ⟨(some 78), (.load 10 true), [.t 77], none⟩,
  ⟨(some 79), (.call 65), [.t 75, .t 78], none⟩,
  ⟨(some 74), .mv, [.t 79], none⟩,
  ⟨(some 80), (.ext 0), [.t 74], none⟩,
  ⟨(some 81), (.ext 1), [.t 74], none⟩,
  ⟨(some 13), (.alloc [.int .i64 0, .int .i64 0, .int .i64 0, .int .i64 0, .int .i64 0, .int .i64 0, .str ⟨#[]⟩, .sl tEntry [] true, .int .i64 0, .int .i64 0, .int .i64 0, .sl .bool [] true, .sl tI [] true, .sl tI [] true, .int .i64 0]), [], none⟩,
  ⟨none, (.store 15), [.t 13, .t 80], none⟩,
  ⟨(some 14), .mv, [.t 81], none⟩] [0, 0, 2, 4, 9, 16, 32, 32, 0, 383, 1023])
 (.regd [⟨(some 82), (.load 15 true), [.t 13], none⟩,
  ⟨(some 83), .mv, [.t 10], none⟩,
  ⟨(some 84), (.slc 10 true false false), [.t 83, .c (.int .i64 1)], none⟩,
  ⟨(some 85), .mv, [.t 14], none⟩,
  ⟨(some 86), (.app 10 104), [.t 84, .t 85], none⟩,
  ⟨none, (.store 15), [.t 8, .t 82], none⟩,
  ⟨(some 10), .mv, [.t 86], none⟩] [0, 0, 2, 0, 12, 17, 63]))) (.seq (.regd [⟨(some 88), (.load 15 true), [.t 7], none⟩,
  ⟨(some 89), .mv, [.t 10], none⟩,
  ⟨(some 90), (.idx 10), [.t 89, .c (.int .i64 0)], none⟩,
  ⟨(some 91), (.load 10 true), [.t 90], none⟩,
  ⟨(some 92), (.call 74), [.t 88, .t 91], none⟩,
  ⟨(some 87), .mv, [.t 92], none⟩,
  ⟨(some 93), (.ext 0), [.t 87], none⟩,
  ⟨(some 94), (.ext 1), [.t 87], none⟩,
  ⟨(some 15), (.alloc [.int .i64 0, .int .i64 0, .int .i64 0, .int .i64 0, .int .i64 0, .int .i64 0, .str ⟨#[]⟩, .sl tEntry [] true, .int .i64 0, .int .i64 0, .int .i64 0, .sl .bool [] true, .sl tI [] true, .sl tI [] true, .int .i64 0]), [], none⟩,
  ⟨none, (.store 15), [.t 15, .t 93], none⟩,
  ⟨(some 16), .mv, [.t 94], none⟩] [0, 0, 2, 4, 9, 16, 32, 32, 0, 383, 1023])
 (.regd [⟨(some 95), (.load 15 true), [.t 15], none⟩,
  ⟨(some 96), .mv, [.t 10], none⟩,
  ⟨(some 97), (.slc 10 true false false), [.t 96, .c (.int .i64 1)], none⟩,
  ⟨(some 98), .mv, [.t 16], none⟩,
  ⟨(some 99), (.app 10 104), [.t 97, .t 98], none⟩,
  ⟨none, (.store 15), [.t 7, .t 95], none⟩,
  ⟨(some 10), .mv, [.t 99], none⟩] [0, 0, 2, 0, 12, 17, 63])))))
 (.reg [⟨(some 60), .mv, [.t 12], none⟩,
  ⟨(some 61), (.bin .add), [.t 60, .c (.int .i64 1)], none⟩,
  ⟨(some 12), .mv, [.t 61], none⟩]))))))
 (.cut c16_100)))
def c16_49 : C := (.seq (.reg [⟨(some 49), (.load 15 true), [.t 7], none⟩,
  ⟨(some 50), (.call 67), [.t 49], none⟩,
  ⟨(some 48), .mv, [.t 50], none⟩,
  ⟨(some 51), (.ext 0), [.t 48], none⟩,
  ⟨(some 52), (.ext 1), [.t 48], none⟩,
  ⟨none, (.store 15), [.t 7, .t 51], none⟩,
  ⟨(some 10), .mv, [.t 52], none⟩])
 (.cut c16_11))
def c16_43 : C := (.seq (.reg [⟨(some 43), .mv, [.t 5], none⟩,
  ⟨(some 44), (.fld 10), [.t 7], none⟩,
  ⟨none, (.store 1), [.t 44, .t 43], none⟩])
 (.seq (.reg [⟨(some 45), (.load 15 true), [.t 7], none⟩,
  ⟨(some 46), .mv, [.t 6], none⟩,
  ⟨(some 47), (.call 59), [.t 45, .t 46, .c (.str ⟨#[115, 110, 97, 112]⟩)], none⟩,
  ⟨none, (.store 15), [.t 7, .t 47], none⟩])
 (.cut c16_49)))
def c16 : C := (.seq (.reg [⟨(some 4), .mv, [.c (.bool false)], none⟩])
 (.seq (.reg [⟨(some 17), .mv, [.t 0], none⟩,
  ⟨(some 18), (.call 23), [.t 17, .c (.int .i64 60)], none⟩,
  ⟨(some 19), (.bin .add), [.c (.int .i64 1), .t 18], none⟩,
  ⟨(some 5), .mv, [.t 19], none⟩])
 (.seq (.reg [⟨(some 20), .mv, [.t 1], none⟩,
  ⟨(some 21), .mv, [.t 5], none⟩,
  ⟨(some 22), (.call 23), [.t 20, .t 21], none⟩,
  ⟨(some 23), (.bin .add), [.c (.int .i64 1), .t 22], none⟩,
  ⟨(some 6), .mv, [.t 23], none⟩])
 (.seq (.reg [⟨(some 24), (.call 31), [.c (.int .i64 0), .c (.int .i64 2)], none⟩,
  ⟨(some 25), (.call 31), [.c (.int .i64 1), .c (.int .i64 2)], none⟩,
  ⟨(some 7), (.alloc [.int .i64 0, .int .i64 0, .int .i64 0, .int .i64 0, .int .i64 0, .int .i64 0, .str ⟨#[]⟩, .sl tEntry [] true, .int .i64 0, .int .i64 0, .int .i64 0, .sl .bool [] true, .sl tI [] true, .sl tI [] true, .int .i64 0]), [], none⟩,
  ⟨(some 8), (.alloc [.int .i64 0, .int .i64 0, .int .i64 0, .int .i64 0, .int .i64 0, .int .i64 0, .str ⟨#[]⟩, .sl tEntry [] true, .int .i64 0, .int .i64 0, .int .i64 0, .sl .bool [] true, .sl tI [] true, .sl tI [] true, .int .i64 0]), [], none⟩,
  ⟨none, (.store 15), [.t 7, .t 24], none⟩,
  ⟨none, (.store 15), [.t 8, .t 25], none⟩])
 (.seq (.reg [⟨(some 26), (.fld 2), [.t 7], none⟩,
  ⟨none, (.store 1), [.t 26, .c (.int .i64 3)], none⟩])
 (.seq (.seq (.reg [⟨(some 9), .mv, [.c (.int .i64 0)], none⟩])
 (.block 0 (.loop (.seq (.seq (.reg [⟨(some 27), .mv, [.t 9], none⟩,
  ⟨(some 28), .mv, [.t 5], none⟩,
  ⟨(some 29), (.bin .lss), [.t 27, .t 28], none⟩])
 (.cond (.t 29) .skip (.exit 0)))
 (.seq (.block 1 (.regd [⟨(some 32), (.fld 7), [.t 7], none⟩,
  ⟨(some 33), (.load 1 false), [.t 32], none⟩,
  ⟨(some 34), .mv, [.t 9], none⟩,
  ⟨(some 35), (.bin .quo), [.t 34, .c (.int .i64 25)], none⟩,
  ⟨(some 36), (.bin .add), [.c (.int .i64 1), .t 35], none⟩,
  ⟨(some 37), .mv, [.t 9], none⟩,
  ⟨(some 38), (.call 50), [.t 37], none⟩,
  ⟨(some 39), (.build [.int .i64 0, .str ⟨#[]⟩] [(0, 1), (1, 1)]), [.t 36, .t 38], none⟩,
  ⟨(some 40), (.bslice tEntry 1), [.t 39], none⟩,
  ⟨(some 41), (.app 2 24), [.t 33, .t 40], none⟩,
  ⟨(some 42), (.fld 7), [.t 7], none⟩,
  ⟨none, (.store 1), [.t 42, .t 41], none⟩] [0, 1, 0, 4, 8, 0, 32, 80, 128, 322, 1023, 2047]))
 (.reg [⟨(some 30), .mv, [.t 9], none⟩,
  ⟨(some 31), (.bin .add), [.t 30, .c (.int .i64 1)], none⟩,
  ⟨(some 9), .mv, [.t 31], none⟩]))))))
 (.cut c16_43)))))))
theorem comp16 : compC Go.Proofs.Try.prog ttL 153 [] (match Go.Proofs.Try.f16.body with | some b => b | none => .skip) = some (erase c16) := by kernel_rfl
end Go.AM
