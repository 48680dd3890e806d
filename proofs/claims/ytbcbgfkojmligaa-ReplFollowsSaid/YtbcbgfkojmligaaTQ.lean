import Derived.Test.YtbcbgfkojmligaaAA
import Derived.KernelRfl
import Derived.Test.YtbcbgfkojmligaaProg
/- Functions of the program as code of the abstract machine, each with the proof that it is that code; no condition. -/
set_option maxRecDepth 100000
namespace Go.AM
def c66 : C := (.seq (.reg [⟨(some 6), .box, [.t 2], none⟩,
  ⟨(some 8), (.alloc [.int .i64 0, .int .i64 0, .int .i64 0, .int .i64 0, .int .i64 0, .int .i64 0, .bool false, .int .i64 0, .sl tEntry [] true, .str ⟨#[]⟩]), [], none⟩])
 (.seq (.reg [⟨(some 15), .mv, [.t 0], none⟩,
  ⟨(some 16), (.call 23), [.t 15, .c (.int .i64 1073741824)], none⟩,
  ⟨(some 17), .mv, [.t 1], none⟩,
  ⟨(some 18), (.call 23), [.t 17, .c (.int .i64 1073741824)], none⟩,
  ⟨(some 9), .mv, [.t 16], none⟩,
  ⟨(some 10), .mv, [.t 18], none⟩])
 (.seq (.regd [⟨(some 19), .mv, [.t 9], none⟩,
  ⟨(some 20), (.bin .rem), [.t 19, .c (.int .i64 5)], none⟩,
  ⟨(some 21), (.bin .add), [.c (.int .i64 1), .t 20], none⟩,
  ⟨(some 22), (.fld 0), [.t 6], none⟩,
  ⟨(some 23), (.load 1 false), [.t 22], none⟩,
  ⟨(some 24), (.fld 0), [.t 6], none⟩,
  ⟨(some 25), (.load 1 false), [.t 24], none⟩,
  ⟨(some 26), (.bin .add), [.t 25, .c (.int .i64 1)], none⟩,
  ⟨(some 27), .mv, [.t 9], none⟩,
  ⟨(some 28), (.bin .quo), [.t 27, .c (.int .i64 5)], none⟩,
  ⟨(some 29), (.fld 1), [.t 6], none⟩,
  ⟨(some 30), (.load 1 false), [.t 29], none⟩,
  ⟨(some 31), (.bin .sub), [.t 30, .c (.int .i64 1)], none⟩,
  ⟨(some 32), .mx, [.t 31, .c (.int .i64 1)], none⟩,
  ⟨(some 33), (.bin .rem), [.t 28, .t 32], none⟩,
  ⟨(some 34), (.bin .add), [.t 26, .t 33], none⟩,
  ⟨(some 35), (.fld 1), [.t 6], none⟩,
  ⟨(some 36), (.load 1 false), [.t 35], none⟩,
  ⟨(some 37), (.bin .rem), [.t 34, .t 36], none⟩,
  ⟨(some 38), (.fld 2), [.t 6], none⟩,
  ⟨(some 39), (.load 1 false), [.t 38], none⟩,
  ⟨(some 40), (.bin .sub), [.t 39, .c (.int .i64 1)], none⟩,
  ⟨(some 41), .mv, [.t 9], none⟩,
  ⟨(some 42), (.bin .quo), [.t 41, .c (.int .i64 25)], none⟩,
  ⟨(some 43), (.bin .rem), [.t 42, .c (.int .i64 3)], none⟩,
  ⟨(some 44), (.bin .add), [.t 40, .t 43], none⟩,
  ⟨(some 45), .mx, [.t 44, .c (.int .i64 1)], none⟩,
  ⟨(some 46), (.build [.int .i64 0, .int .i64 0, .int .i64 0, .int .i64 0, .int .i64 0, .int .i64 0, .bool false, .int .i64 0, .sl tEntry [] true, .str ⟨#[]⟩] [(0, 1), (2, 1), (1, 1), (3, 1)]), [.t 21, .t 23, .t 37, .t 45], none⟩,
  ⟨(some 11), (.alloc [.int .i64 0, .int .i64 0, .int .i64 0, .int .i64 0, .int .i64 0, .int .i64 0, .bool false, .int .i64 0, .sl tEntry [] true, .str ⟨#[]⟩]), [], none⟩,
  ⟨none, (.store 10), [.t 11, .t 46], none⟩] [0, 1, 2, 0, 8, 0, 32, 64, 0, 256, 0, 1024, 2048, 4096, 8704, 16512, 0, 65536, 163840, 0, 524288, 1048576, 0, 4194304, 8388608, 18874368, 33554432, 67371028, 0, 536870911])
 (.seq (.reg [⟨(some 47), (.fld 4), [.t 6], none⟩,
  ⟨(some 48), (.load 1 false), [.t 47], none⟩,
  ⟨(some 49), (.fld 7), [.t 6], none⟩,
  ⟨(some 50), (.load 1 false), [.t 49], none⟩,
  ⟨(some 51), .len, [.t 50], none⟩,
  ⟨(some 52), (.bin .add), [.t 48, .t 51], none⟩,
  ⟨(some 12), .mv, [.t 52], none⟩])
 (.seq (.regd [⟨(some 53), .mv, [.t 12], none⟩,
  ⟨(some 54), (.bin .sub), [.t 53, .c (.int .i64 3)], none⟩,
  ⟨(some 55), .mv, [.t 10], none⟩,
  ⟨(some 56), (.bin .rem), [.t 55, .c (.int .i64 6)], none⟩,
  ⟨(some 57), (.bin .add), [.t 54, .t 56], none⟩,
  ⟨(some 58), .mx, [.t 57, .c (.int .i64 0)], none⟩,
  ⟨(some 59), (.fld 2), [.t 6], none⟩,
  ⟨(some 60), (.load 1 false), [.t 59], none⟩,
  ⟨(some 61), (.bin .sub), [.t 60, .c (.int .i64 1)], none⟩,
  ⟨(some 62), .mv, [.t 10], none⟩,
  ⟨(some 63), (.bin .quo), [.t 62, .c (.int .i64 6)], none⟩,
  ⟨(some 64), (.bin .rem), [.t 63, .c (.int .i64 3)], none⟩,
  ⟨(some 65), (.bin .add), [.t 61, .t 64], none⟩,
  ⟨(some 66), .mx, [.t 65, .c (.int .i64 0)], none⟩,
  ⟨(some 67), .mv, [.t 10], none⟩,
  ⟨(some 68), (.bin .quo), [.t 67, .c (.int .i64 18)], none⟩,
  ⟨(some 69), .mv, [.t 12], none⟩,
  ⟨(some 70), (.bin .add), [.t 69, .c (.int .i64 3)], none⟩,
  ⟨(some 71), (.bin .rem), [.t 68, .t 70], none⟩,
  ⟨(some 72), .mv, [.t 10], none⟩,
  ⟨(some 73), (.bin .quo), [.t 72, .c (.int .i64 900)], none⟩,
  ⟨(some 74), (.bin .rem), [.t 73, .c (.int .i64 3)], none⟩,
  ⟨(some 75), (.bin .gtr), [.t 74, .c (.int .i64 0)], none⟩,
  ⟨(some 76), (.fld 4), [.t 11], none⟩,
  ⟨none, (.store 1), [.t 76, .t 58], none⟩,
  ⟨(some 77), (.fld 5), [.t 11], none⟩,
  ⟨none, (.store 1), [.t 77, .t 66], none⟩,
  ⟨(some 78), (.fld 7), [.t 11], none⟩,
  ⟨none, (.store 1), [.t 78, .t 71], none⟩,
  ⟨(some 79), (.fld 6), [.t 11], none⟩,
  ⟨none, (.store 1), [.t 79, .t 75], none⟩] [0, 1, 0, 4, 10, 16, 0, 64, 128, 0, 512, 1024, 2304, 4096, 0, 16384, 0, 65536, 163840, 0, 524288, 1048576, 2097152, 63, 8388671, 25182207, 58736639, 126353407, 260571135, 536870911, 1073741823])
 (.seq (.seq (.reg [⟨(some 81), (.load 15 true), [.t 6], none⟩,
  ⟨(some 82), (.fld 4), [.t 11], none⟩,
  ⟨(some 83), (.load 1 false), [.t 82], none⟩,
  ⟨(some 84), (.call 29), [.t 81, .t 83], none⟩,
  ⟨(some 80), .mv, [.t 84], none⟩,
  ⟨(some 85), (.ext 0), [.t 80], none⟩,
  ⟨(some 86), (.ext 1), [.t 80], none⟩,
  ⟨(some 13), .mv, [.t 85], none⟩,
  ⟨(some 14), .mv, [.t 86], none⟩])
 (.seq (.reg [⟨(some 87), .mv, [.t 14], none⟩,
  ⟨(some 88), .mv, [.t 87], none⟩,
  ⟨(some 89), .mv, [.t 10], (some (88, true))⟩,
  ⟨(some 90), (.bin .quo), [.t 89, .c (.int .i64 2700)], (some (88, true))⟩,
  ⟨(some 91), (.bin .rem), [.t 90, .c (.int .i64 2)], (some (88, true))⟩,
  ⟨(some 92), (.bin .eql), [.t 91, .c (.int .i64 0)], (some (88, true))⟩,
  ⟨(some 93), .pick, [.t 88, .t 92, .c (.bool false)], none⟩])
 (.cond (.t 93) (.reg [⟨(some 94), .mv, [.t 13], none⟩,
  ⟨(some 95), (.fld 5), [.t 11], none⟩,
  ⟨none, (.store 1), [.t 95, .t 94], none⟩]) .skip)))
 (.seq (.seq (.reg [⟨(some 96), (.fld 0), [.t 11], none⟩,
  ⟨(some 97), (.load 1 false), [.t 96], none⟩,
  ⟨(some 98), (.bin .eql), [.t 97, .c (.int .i64 3)], none⟩])
 (.cond (.t 98) (.reg [⟨(some 99), .mv, [.t 3], none⟩,
  ⟨(some 100), (.fld 3), [.t 11], none⟩,
  ⟨(some 101), (.load 1 false), [.t 100], none⟩,
  ⟨(some 102), (.call 35), [.t 99, .t 101], none⟩,
  ⟨(some 103), (.fld 8), [.t 11], none⟩,
  ⟨none, (.store 1), [.t 103, .t 102], none⟩]) .skip))
 (.seq (.seq (.reg [⟨(some 104), (.fld 0), [.t 11], none⟩,
  ⟨(some 105), (.load 1 false), [.t 104], none⟩,
  ⟨(some 106), (.bin .eql), [.t 105, .c (.int .i64 5)], none⟩])
 (.cond (.t 106) (.reg [⟨(some 107), .mv, [.t 10], none⟩,
  ⟨(some 108), (.bin .rem), [.t 107, .c (.int .i64 100)], none⟩,
  ⟨(some 109), (.call 50), [.t 108], none⟩,
  ⟨(some 110), (.bin .add), [.c (.str ⟨#[115, 110, 97, 112]⟩), .t 109], none⟩,
  ⟨(some 111), (.fld 9), [.t 11], none⟩,
  ⟨none, (.store 1), [.t 111, .t 110], none⟩]) .skip))
 (.seq (.reg [⟨(some 112), (.load 10 true), [.t 11], none⟩,
  ⟨none, (.store 10), [.t 8, .t 112], none⟩])
 .ret)))))))))
theorem comp66 : compC Go.Proofs.Try.prog ttL 113 [] (match Go.Proofs.Try.f66.body with | some b => b | none => .skip) = some (c66) := by kernel_rfl
def c68_31 : C := (.seq (.reg [⟨(some 31), (.load 15 true), [.t 1], none⟩,
  ⟨(some 32), (.call 112), [.t 31, .c (.str ⟨#[]⟩)], none⟩,
  ⟨(some 33), (.ext 0), [.t 32], none⟩,
  ⟨(some 34), (.ext 1), [.t 32], none⟩,
  ⟨none, (.store 15), [.t 2, .t 33], none⟩,
  ⟨(some 3), .mv, [.t 34], none⟩])
 .ret)
def c68 : C := (.seq (.reg [⟨(some 1), .box, [.t 0], none⟩,
  ⟨(some 2), (.alloc [.int .i64 0, .int .i64 0, .int .i64 0, .int .i64 0, .int .i64 0, .int .i64 0, .str ⟨#[]⟩, .sl tEntry [] true, .int .i64 0, .int .i64 0, .int .i64 0, .sl .bool [] true, .sl tI [] true, .sl tI [] true, .int .i64 0]), [], none⟩,
  ⟨(some 3), .mv, [.c (.sl tMsg [] true)], none⟩])
 (.seq (.reg [⟨(some 5), (.fld 0), [.t 1], none⟩,
  ⟨(some 6), (.load 1 false), [.t 5], none⟩,
  ⟨(some 7), (.fld 8), [.t 1], none⟩,
  ⟨none, (.store 1), [.t 7, .c (.int .i64 2)], none⟩,
  ⟨(some 8), (.fld 9), [.t 1], none⟩,
  ⟨none, (.store 1), [.t 8, .t 6], none⟩,
  ⟨(some 9), (.fld 14), [.t 1], none⟩,
  ⟨none, (.store 1), [.t 9, .c (.int .i64 0)], none⟩])
 (.seq (.regd [⟨(some 10), (.fld 1), [.t 1], none⟩,
  ⟨(some 11), (.load 1 false), [.t 10], none⟩,
  ⟨(some 12), (.mks tI 8), [.t 11, .t 11], none⟩,
  ⟨(some 13), (.fld 1), [.t 1], none⟩,
  ⟨(some 14), (.load 1 false), [.t 13], none⟩,
  ⟨(some 15), (.mks tI 8), [.t 14, .t 14], none⟩,
  ⟨(some 16), (.fld 12), [.t 1], none⟩,
  ⟨none, (.store 1), [.t 16, .t 12], none⟩,
  ⟨(some 17), (.fld 13), [.t 1], none⟩,
  ⟨none, (.store 1), [.t 17, .t 15], none⟩] [0, 1, 2, 0, 8, 16, 31, 95, 255, 511])
 (.seq (.seq (.reg [⟨(some 4), .mv, [.c (.int .i64 0)], none⟩])
 (.block 0 (.loop (.seq (.seq (.reg [⟨(some 18), .mv, [.t 4], none⟩,
  ⟨(some 19), (.fld 1), [.t 1], none⟩,
  ⟨(some 20), (.load 1 false), [.t 19], none⟩,
  ⟨(some 21), (.bin .lss), [.t 18, .t 20], none⟩])
 (.cond (.t 21) .skip (.exit 0)))
 (.seq (.block 1 (.regd [⟨(some 24), (.fld 12), [.t 1], none⟩,
  ⟨(some 25), (.load 1 false), [.t 24], none⟩,
  ⟨(some 26), .mv, [.t 4], none⟩,
  ⟨(some 27), (.load 15 true), [.t 1], none⟩,
  ⟨(some 28), (.call 30), [.t 27], none⟩,
  ⟨(some 29), (.bin .add), [.t 28, .c (.int .i64 1)], none⟩,
  ⟨(some 30), (.idx 1), [.t 25, .t 26], none⟩,
  ⟨none, (.store 1), [.t 30, .t 29], none⟩] [0, 1, 0, 0, 8, 16, 63, 127]))
 (.reg [⟨(some 22), .mv, [.t 4], none⟩,
  ⟨(some 23), (.bin .add), [.t 22, .c (.int .i64 1)], none⟩,
  ⟨(some 4), .mv, [.t 23], none⟩]))))))
 (.cut c68_31)))))
theorem comp68 : compC Go.Proofs.Try.prog ttL 35 [] (match Go.Proofs.Try.f68.body with | some b => b | none => .skip) = some (erase c68) := by kernel_rfl
def c71 : C := (.seq (.reg [⟨(some 2), .box, [.t 0], none⟩,
  ⟨(some 4), (.alloc [.int .i64 0, .int .i64 0, .int .i64 0, .int .i64 0, .int .i64 0, .int .i64 0, .bool false, .int .i64 0, .sl tEntry [] true, .str ⟨#[]⟩]), [], none⟩])
 (.seq (.reg [⟨(some 9), (.fld 12), [.t 2], none⟩,
  ⟨(some 10), (.load 1 false), [.t 9], none⟩,
  ⟨(some 11), .mv, [.t 1], none⟩,
  ⟨(some 12), (.idx 1), [.t 10, .t 11], none⟩,
  ⟨(some 13), (.load 1 false), [.t 12], none⟩,
  ⟨(some 14), (.bin .sub), [.t 13, .c (.int .i64 1)], none⟩,
  ⟨(some 5), .mv, [.t 14], none⟩])
 (.seq (.seq (.reg [⟨(some 15), .mv, [.t 5], none⟩,
  ⟨(some 16), (.fld 4), [.t 2], none⟩,
  ⟨(some 17), (.load 1 false), [.t 16], none⟩,
  ⟨(some 18), (.bin .lss), [.t 15, .t 17], none⟩])
 (.cond (.t 18) (.seq (.reg [⟨(some 19), (.fld 0), [.t 2], none⟩,
  ⟨(some 20), (.load 1 false), [.t 19], none⟩,
  ⟨(some 21), .mv, [.t 1], none⟩,
  ⟨(some 22), (.fld 2), [.t 2], none⟩,
  ⟨(some 23), (.load 1 false), [.t 22], none⟩,
  ⟨(some 24), (.fld 4), [.t 2], none⟩,
  ⟨(some 25), (.load 1 false), [.t 24], none⟩,
  ⟨(some 26), (.fld 5), [.t 2], none⟩,
  ⟨(some 27), (.load 1 false), [.t 26], none⟩,
  ⟨(some 28), (.fld 6), [.t 2], none⟩,
  ⟨(some 29), (.load 1 false), [.t 28], none⟩,
  ⟨(some 30), (.build [.int .i64 0, .int .i64 0, .int .i64 0, .int .i64 0, .int .i64 0, .int .i64 0, .bool false, .int .i64 0, .sl tEntry [] true, .str ⟨#[]⟩] [(0, 1), (1, 1), (2, 1), (3, 1), (4, 1), (5, 1), (9, 1)]), [.c (.int .i64 5), .t 20, .t 21, .t 23, .t 25, .t 27, .t 29], none⟩,
  ⟨none, (.store 10), [.t 4, .t 30], none⟩])
 .ret) .skip))
 (.seq (.reg [⟨(some 32), (.load 15 true), [.t 2], none⟩,
  ⟨(some 33), .mv, [.t 5], none⟩,
  ⟨(some 34), (.call 29), [.t 32, .t 33], none⟩,
  ⟨(some 31), .mv, [.t 34], none⟩,
  ⟨(some 35), (.ext 0), [.t 31], none⟩,
  ⟨(some 36), (.ext 1), [.t 31], none⟩,
  ⟨(some 6), .mv, [.t 35], none⟩,
  ⟨(some 7), .mv, [.t 36], none⟩])
 (.seq (.reg [⟨(some 37), (.load 15 true), [.t 2], none⟩,
  ⟨(some 38), .mv, [.t 5], none⟩,
  ⟨(some 39), (.call 60), [.t 37, .t 38], none⟩,
  ⟨(some 8), .mv, [.t 39], none⟩])
 (.seq (.regd [⟨(some 40), (.fld 0), [.t 2], none⟩,
  ⟨(some 41), (.load 1 false), [.t 40], none⟩,
  ⟨(some 42), .mv, [.t 1], none⟩,
  ⟨(some 43), (.fld 2), [.t 2], none⟩,
  ⟨(some 44), (.load 1 false), [.t 43], none⟩,
  ⟨(some 45), .mv, [.t 5], none⟩,
  ⟨(some 46), .mv, [.t 6], none⟩,
  ⟨(some 47), .mv, [.t 8], none⟩,
  ⟨(some 48), .mv, [.t 8], none⟩,
  ⟨(some 49), .len, [.t 48], none⟩,
  ⟨(some 50), .mn, [.t 49, .c (.int .i64 20)], none⟩,
  ⟨(some 51), (.slc 2 false true false), [.t 47, .t 50], none⟩,
  ⟨(some 52), (.fld 10), [.t 2], none⟩,
  ⟨(some 53), (.load 1 false), [.t 52], none⟩,
  ⟨(some 54), (.build [.int .i64 0, .int .i64 0, .int .i64 0, .int .i64 0, .int .i64 0, .int .i64 0, .bool false, .int .i64 0, .sl tEntry [] true, .str ⟨#[]⟩] [(0, 1), (1, 1), (2, 1), (3, 1), (4, 1), (5, 1), (8, 1), (7, 1)]), [.c (.int .i64 3), .t 41, .t 42, .t 44, .t 45, .t 46, .t 51, .t 53], none⟩,
  ⟨none, (.store 10), [.t 4, .t 54], none⟩] [0, 1, 0, 0, 8, 0, 0, 0, 0, 256, 512, 1152, 0, 4096, 10358, 32767])
 .ret))))))
theorem comp71 : compC Go.Proofs.Try.prog ttL 55 [] (match Go.Proofs.Try.f71.body with | some b => b | none => .skip) = some (c71) := by kernel_rfl
def c72 : C := (.seq (.reg [⟨(some 1), .box, [.t 0], none⟩,
  ⟨(some 2), (.alloc [.int .i64 0, .int .i64 0, .int .i64 0, .int .i64 0, .int .i64 0, .int .i64 0, .str ⟨#[]⟩, .sl tEntry [] true, .int .i64 0, .int .i64 0, .int .i64 0, .sl .bool [] true, .sl tI [] true, .sl tI [] true, .int .i64 0]), [], none⟩])
 (.seq (.seq (.reg [⟨(some 8), (.fld 8), [.t 1], none⟩,
  ⟨(some 9), (.load 1 false), [.t 8], none⟩,
  ⟨(some 10), (.bin .neq), [.t 9, .c (.int .i64 2)], none⟩])
 (.cond (.t 10) (.seq (.reg [⟨(some 11), (.load 15 true), [.t 1], none⟩,
  ⟨none, (.store 15), [.t 2, .t 11], none⟩])
 .ret) .skip))
 (.seq (.seq (.reg [⟨(some 12), (.load 15 true), [.t 1], none⟩,
  ⟨(some 13), (.call 30), [.t 12], none⟩,
  ⟨(some 3), .mv, [.t 13], none⟩])
 (.block 0 (.loop (.seq (.seq (.reg [⟨(some 14), .mv, [.t 3], none⟩,
  ⟨(some 15), (.fld 10), [.t 1], none⟩,
  ⟨(some 16), (.load 1 false), [.t 15], none⟩,
  ⟨(some 17), (.bin .gtr), [.t 14, .t 16], none⟩])
 (.cond (.t 17) .skip (.exit 0)))
 (.seq (.block 1 (.seq (.reg [⟨(some 21), (.load 15 true), [.t 1], none⟩,
  ⟨(some 22), .mv, [.t 3], none⟩,
  ⟨(some 23), (.call 29), [.t 21, .t 22], none⟩,
  ⟨(some 20), .mv, [.t 23], none⟩,
  ⟨(some 24), (.ext 0), [.t 20], none⟩,
  ⟨(some 25), (.ext 1), [.t 20], none⟩,
  ⟨(some 4), .mv, [.t 24], none⟩,
  ⟨(some 5), .mv, [.t 25], none⟩])
 (.seq (.reg [⟨(some 6), .mv, [.c (.int .i64 0)], none⟩])
 (.seq (.seq (.reg [⟨(some 7), .mv, [.c (.int .i64 0)], none⟩])
 (.block 2 (.loop (.seq (.seq (.reg [⟨(some 26), .mv, [.t 7], none⟩,
  ⟨(some 27), (.fld 1), [.t 1], none⟩,
  ⟨(some 28), (.load 1 false), [.t 27], none⟩,
  ⟨(some 29), (.bin .lss), [.t 26, .t 28], none⟩])
 (.cond (.t 29) .skip (.exit 2)))
 (.seq (.block 3 (.seq (.reg [⟨(some 32), (.fld 13), [.t 1], none⟩,
  ⟨(some 33), (.load 1 false), [.t 32], none⟩,
  ⟨(some 34), .mv, [.t 7], none⟩,
  ⟨(some 35), (.idx 1), [.t 33, .t 34], none⟩,
  ⟨(some 36), (.load 1 false), [.t 35], none⟩,
  ⟨(some 37), .mv, [.t 3], none⟩,
  ⟨(some 38), (.bin .geq), [.t 36, .t 37], none⟩])
 (.cond (.t 38) (.reg [⟨(some 39), .mv, [.t 6], none⟩,
  ⟨(some 40), (.bin .add), [.t 39, .c (.int .i64 1)], none⟩,
  ⟨(some 6), .mv, [.t 40], none⟩]) .skip)))
 (.reg [⟨(some 30), .mv, [.t 7], none⟩,
  ⟨(some 31), (.bin .add), [.t 30, .c (.int .i64 1)], none⟩,
  ⟨(some 7), .mv, [.t 31], none⟩]))))))
 (.seq (.reg [⟨(some 41), .mv, [.t 4], none⟩,
  ⟨(some 42), (.fld 2), [.t 1], none⟩,
  ⟨(some 43), (.load 1 false), [.t 42], none⟩,
  ⟨(some 44), (.bin .eql), [.t 41, .t 43], none⟩,
  ⟨(some 45), .mv, [.t 44], none⟩,
  ⟨(some 46), .mv, [.t 6], (some (45, true))⟩,
  ⟨(some 47), (.load 15 true), [.t 1], (some (45, true))⟩,
  ⟨(some 48), (.call 45), [.t 47], (some (45, true))⟩,
  ⟨(some 49), (.bin .geq), [.t 46, .t 48], (some (45, true))⟩,
  ⟨(some 50), .pick, [.t 45, .t 49, .c (.bool false)], none⟩])
 (.cond (.t 50) (.seq (.reg [⟨(some 51), .mv, [.t 3], none⟩,
  ⟨(some 52), (.fld 10), [.t 1], none⟩,
  ⟨none, (.store 1), [.t 52, .t 51], none⟩])
 (.exit 0)) .skip))))))
 (.reg [⟨(some 18), .mv, [.t 3], none⟩,
  ⟨(some 19), (.bin .sub), [.t 18, .c (.int .i64 1)], none⟩,
  ⟨(some 3), .mv, [.t 19], none⟩]))))))
 (.seq (.reg [⟨(some 53), (.load 15 true), [.t 1], none⟩,
  ⟨none, (.store 15), [.t 2, .t 53], none⟩])
 .ret))))
theorem comp72 : compC Go.Proofs.Try.prog ttL 54 [] (match Go.Proofs.Try.f72.body with | some b => b | none => .skip) = some (c72) := by kernel_rfl
def c73 : C := (.seq (.reg [⟨(some 2), .box, [.t 0], none⟩,
  ⟨(some 3), .box, [.t 1], none⟩,
  ⟨(some 4), (.alloc [.int .i64 0, .int .i64 0, .int .i64 0, .int .i64 0, .int .i64 0, .int .i64 0, .str ⟨#[]⟩, .sl tEntry [] true, .int .i64 0, .int .i64 0, .int .i64 0, .sl .bool [] true, .sl tI [] true, .sl tI [] true, .int .i64 0]), [], none⟩,
  ⟨(some 5), .mv, [.c (.sl tMsg [] true)], none⟩])
 (.seq (.reg [⟨(some 10), (.load 15 true), [.t 2], none⟩,
  ⟨(some 11), (.fld 3), [.t 3], none⟩,
  ⟨(some 12), (.load 1 false), [.t 11], none⟩,
  ⟨(some 13), (.call 43), [.t 10, .t 12], none⟩,
  ⟨none, (.store 15), [.t 2, .t 13], none⟩])
 (.seq (.seq (.reg [⟨(some 14), (.fld 3), [.t 3], none⟩,
  ⟨(some 15), (.load 1 false), [.t 14], none⟩,
  ⟨(some 16), (.fld 2), [.t 2], none⟩,
  ⟨(some 17), (.load 1 false), [.t 16], none⟩,
  ⟨(some 18), (.bin .lss), [.t 15, .t 17], none⟩])
 (.cond (.t 18) (.seq (.regd [⟨(some 19), (.load 15 true), [.t 2], none⟩,
  ⟨(some 20), (.load 15 true), [.t 2], none⟩,
  ⟨(some 21), (.fld 1), [.t 3], none⟩,
  ⟨(some 22), (.load 1 false), [.t 21], none⟩,
  ⟨(some 23), (.load 15 true), [.t 2], none⟩,
  ⟨(some 24), (.call 30), [.t 23], none⟩,
  ⟨(some 25), (.call 114), [.t 20, .t 22, .c (.bool false), .t 24], none⟩,
  ⟨none, (.store 15), [.t 4, .t 19], none⟩,
  ⟨(some 5), .mv, [.t 25], none⟩] [0, 0, 0, 4, 0, 16, 42, 65, 255])
 .ret) .skip))
 (.seq (.regd [⟨(some 26), (.fld 1), [.t 3], none⟩,
  ⟨(some 27), (.load 1 false), [.t 26], none⟩,
  ⟨(some 28), (.fld 8), [.t 2], none⟩,
  ⟨none, (.store 1), [.t 28, .c (.int .i64 0)], none⟩,
  ⟨(some 29), (.fld 9), [.t 2], none⟩,
  ⟨none, (.store 1), [.t 29, .t 27], none⟩,
  ⟨(some 30), (.fld 14), [.t 2], none⟩,
  ⟨none, (.store 1), [.t 30, .c (.int .i64 0)], none⟩] [0, 1, 0, 4, 15, 31, 63, 127])
 (.seq (.seq (.reg [⟨(some 31), (.fld 0), [.t 3], none⟩,
  ⟨(some 32), (.load 1 false), [.t 31], none⟩,
  ⟨(some 33), (.bin .eql), [.t 32, .c (.int .i64 5)], none⟩])
 (.cond (.t 33) (.seq (.reg [⟨(some 34), (.load 15 true), [.t 2], none⟩,
  ⟨(some 35), (.load 10 true), [.t 3], none⟩,
  ⟨(some 36), (.call 115), [.t 34, .t 35], none⟩,
  ⟨(some 37), (.ext 0), [.t 36], none⟩,
  ⟨(some 38), (.ext 1), [.t 36], none⟩,
  ⟨none, (.store 15), [.t 4, .t 37], none⟩,
  ⟨(some 5), .mv, [.t 38], none⟩])
 .ret) .skip))
 (.seq (.reg [⟨(some 39), (.load 15 true), [.t 2], none⟩,
  ⟨(some 40), (.call 30), [.t 39], none⟩,
  ⟨(some 6), .mv, [.t 40], none⟩])
 (.seq (.seq (.reg [⟨(some 41), (.fld 4), [.t 3], none⟩,
  ⟨(some 42), (.load 1 false), [.t 41], none⟩,
  ⟨(some 43), (.fld 4), [.t 2], none⟩,
  ⟨(some 44), (.load 1 false), [.t 43], none⟩,
  ⟨(some 45), (.bin .lss), [.t 42, .t 44], none⟩])
 (.cond (.t 45) (.seq (.regd [⟨(some 46), (.load 15 true), [.t 2], none⟩,
  ⟨(some 47), (.load 15 true), [.t 2], none⟩,
  ⟨(some 48), (.fld 1), [.t 3], none⟩,
  ⟨(some 49), (.load 1 false), [.t 48], none⟩,
  ⟨(some 50), (.fld 4), [.t 2], none⟩,
  ⟨(some 51), (.load 1 false), [.t 50], none⟩,
  ⟨(some 52), (.call 114), [.t 47, .t 49, .c (.bool true), .t 51], none⟩,
  ⟨none, (.store 15), [.t 4, .t 46], none⟩,
  ⟨(some 5), .mv, [.t 52], none⟩] [0, 0, 0, 4, 0, 16, 42, 65, 255])
 .ret) .skip))
 (.seq (.seq (.reg [⟨(some 54), (.load 15 true), [.t 2], none⟩,
  ⟨(some 55), (.fld 4), [.t 3], none⟩,
  ⟨(some 56), (.load 1 false), [.t 55], none⟩,
  ⟨(some 57), (.call 29), [.t 54, .t 56], none⟩,
  ⟨(some 53), .mv, [.t 57], none⟩,
  ⟨(some 58), (.ext 0), [.t 53], none⟩,
  ⟨(some 59), (.ext 1), [.t 53], none⟩,
  ⟨(some 7), .mv, [.t 58], none⟩,
  ⟨(some 8), .mv, [.t 59], none⟩])
 (.seq (.reg [⟨(some 60), .mv, [.t 8], none⟩,
  ⟨(some 61), .not, [.t 60], none⟩,
  ⟨(some 62), .mv, [.t 61], none⟩,
  ⟨(some 63), .mv, [.t 7], (some (62, false))⟩,
  ⟨(some 64), (.fld 5), [.t 3], (some (62, false))⟩,
  ⟨(some 65), (.load 1 false), [.t 64], (some (62, false))⟩,
  ⟨(some 66), (.bin .neq), [.t 63, .t 65], (some (62, false))⟩,
  ⟨(some 67), .pick, [.t 62, .c (.bool true), .t 66], none⟩])
 (.cond (.t 67) (.seq (.regd [⟨(some 68), (.load 15 true), [.t 2], none⟩,
  ⟨(some 69), (.load 15 true), [.t 2], none⟩,
  ⟨(some 70), (.fld 1), [.t 3], none⟩,
  ⟨(some 71), (.load 1 false), [.t 70], none⟩,
  ⟨(some 72), .mv, [.t 6], none⟩,
  ⟨(some 73), (.fld 4), [.t 3], none⟩,
  ⟨(some 74), (.load 1 false), [.t 73], none⟩,
  ⟨(some 75), (.bin .sub), [.t 74, .c (.int .i64 1)], none⟩,
  ⟨(some 76), .mn, [.t 72, .t 75], none⟩,
  ⟨(some 77), .mx, [.t 76, .c (.int .i64 0)], none⟩,
  ⟨(some 78), (.call 114), [.t 69, .t 71, .c (.bool false), .t 77], none⟩,
  ⟨none, (.store 15), [.t 4, .t 68], none⟩,
  ⟨(some 5), .mv, [.t 78], none⟩] [0, 0, 0, 4, 0, 0, 32, 64, 144, 256, 522, 1025, 4095])
 .ret) .skip)))
 (.seq (.reg [⟨(some 79), (.load 15 true), [.t 2], none⟩,
  ⟨(some 80), (.fld 4), [.t 3], none⟩,
  ⟨(some 81), (.load 1 false), [.t 80], none⟩,
  ⟨(some 82), (.fld 8), [.t 3], none⟩,
  ⟨(some 83), (.load 1 false), [.t 82], none⟩,
  ⟨(some 84), (.call 58), [.t 79, .t 81, .t 83], none⟩,
  ⟨none, (.store 15), [.t 2, .t 84], none⟩])
 (.seq (.reg [⟨(some 85), (.fld 4), [.t 3], none⟩,
  ⟨(some 86), (.load 1 false), [.t 85], none⟩,
  ⟨(some 87), (.fld 8), [.t 3], none⟩,
  ⟨(some 88), (.load 1 false), [.t 87], none⟩,
  ⟨(some 89), .len, [.t 88], none⟩,
  ⟨(some 90), (.bin .add), [.t 86, .t 89], none⟩,
  ⟨(some 9), .mv, [.t 90], none⟩])
 (.seq (.reg [⟨(some 91), (.fld 10), [.t 2], none⟩,
  ⟨(some 92), (.load 1 false), [.t 91], none⟩,
  ⟨(some 93), (.fld 7), [.t 3], none⟩,
  ⟨(some 94), (.load 1 false), [.t 93], none⟩,
  ⟨(some 95), .mv, [.t 9], none⟩,
  ⟨(some 96), .mn, [.t 94, .t 95], none⟩,
  ⟨(some 97), .mx, [.t 92, .t 96], none⟩,
  ⟨(some 98), (.fld 10), [.t 2], none⟩,
  ⟨none, (.store 1), [.t 98, .t 97], none⟩])
 (.seq (.regd [⟨(some 99), (.load 15 true), [.t 2], none⟩,
  ⟨(some 100), (.load 15 true), [.t 2], none⟩,
  ⟨(some 101), (.fld 1), [.t 3], none⟩,
  ⟨(some 102), (.load 1 false), [.t 101], none⟩,
  ⟨(some 103), .mv, [.t 9], none⟩,
  ⟨(some 104), (.call 114), [.t 100, .t 102, .c (.bool true), .t 103], none⟩,
  ⟨none, (.store 15), [.t 4, .t 99], none⟩,
  ⟨(some 5), .mv, [.t 104], none⟩] [0, 0, 0, 4, 0, 26, 33, 127])
 .ret))))))))))))
theorem comp73 : compC Go.Proofs.Try.prog ttL 105 [] (match Go.Proofs.Try.f73.body with | some b => b | none => .skip) = some (c73) := by kernel_rfl
def c75_32 : C := (.seq (.seq (.reg [⟨(some 32), (.fld 6), [.t 3], none⟩,
  ⟨(some 33), (.load 1 false), [.t 32], none⟩])
 (.cond (.t 33) (.seq (.regd [⟨(some 34), (.fld 13), [.t 2], none⟩,
  ⟨(some 35), (.load 1 false), [.t 34], none⟩,
  ⟨(some 36), .mv, [.t 6], none⟩,
  ⟨(some 37), (.fld 13), [.t 2], none⟩,
  ⟨(some 38), (.load 1 false), [.t 37], none⟩,
  ⟨(some 39), .mv, [.t 6], none⟩,
  ⟨(some 40), (.idx 1), [.t 38, .t 39], none⟩,
  ⟨(some 41), (.load 1 false), [.t 40], none⟩,
  ⟨(some 42), (.fld 4), [.t 3], none⟩,
  ⟨(some 43), (.load 1 false), [.t 42], none⟩,
  ⟨(some 44), .mx, [.t 41, .t 43], none⟩,
  ⟨(some 45), (.load 15 true), [.t 2], none⟩,
  ⟨(some 46), (.call 30), [.t 45], none⟩,
  ⟨(some 47), .mn, [.t 44, .t 46], none⟩,
  ⟨(some 48), (.idx 1), [.t 35, .t 36], none⟩,
  ⟨none, (.store 1), [.t 48, .t 47], none⟩] [0, 1, 0, 0, 8, 0, 48, 64, 0, 256, 640, 0, 2048, 5120, 16383, 32767])
 (.seq (.regd [⟨(some 49), (.fld 12), [.t 2], none⟩,
  ⟨(some 50), (.load 1 false), [.t 49], none⟩,
  ⟨(some 51), .mv, [.t 6], none⟩,
  ⟨(some 52), (.fld 13), [.t 2], none⟩,
  ⟨(some 53), (.load 1 false), [.t 52], none⟩,
  ⟨(some 54), .mv, [.t 6], none⟩,
  ⟨(some 55), (.idx 1), [.t 53, .t 54], none⟩,
  ⟨(some 56), (.load 1 false), [.t 55], none⟩,
  ⟨(some 57), (.bin .add), [.t 56, .c (.int .i64 1)], none⟩,
  ⟨(some 58), (.idx 1), [.t 50, .t 51], none⟩,
  ⟨none, (.store 1), [.t 58, .t 57], none⟩] [0, 1, 0, 0, 8, 0, 48, 64, 128, 511, 1023])
 (.seq (.reg [⟨(some 59), (.load 15 true), [.t 2], none⟩,
  ⟨(some 60), (.call 72), [.t 59], none⟩,
  ⟨none, (.store 15), [.t 2, .t 60], none⟩])
 (.seq (.seq (.regd [⟨(some 61), (.fld 12), [.t 2], none⟩,
  ⟨(some 62), (.load 1 false), [.t 61], none⟩,
  ⟨(some 63), .mv, [.t 6], none⟩,
  ⟨(some 64), (.idx 1), [.t 62, .t 63], none⟩,
  ⟨(some 65), (.load 1 false), [.t 64], none⟩,
  ⟨(some 66), (.load 15 true), [.t 2], none⟩,
  ⟨(some 67), (.call 30), [.t 66], none⟩,
  ⟨(some 68), (.bin .gtr), [.t 65, .t 67], none⟩] [0, 1, 0, 6, 8, 0, 32, 80])
 (.cond (.t 68) (.seq (.reg [⟨(some 69), (.load 15 true), [.t 2], none⟩,
  ⟨none, (.store 15), [.t 4, .t 69], none⟩,
  ⟨(some 5), .mv, [.c (.sl tMsg [] true)], none⟩])
 .ret) .skip))
 (.seq (.regd [⟨(some 70), (.load 15 true), [.t 2], none⟩,
  ⟨(some 71), (.load 15 true), [.t 2], none⟩,
  ⟨(some 72), .mv, [.t 6], none⟩,
  ⟨(some 73), (.call 71), [.t 71, .t 72], none⟩,
  ⟨(some 74), (.bslice tMsg 1), [.t 73], none⟩,
  ⟨none, (.store 15), [.t 4, .t 70], none⟩,
  ⟨(some 5), .mv, [.t 74], none⟩] [0, 0, 0, 6, 8, 9, 63])
 .ret))))) .skip))
 (.seq (.regd [⟨(some 75), (.fld 12), [.t 2], none⟩,
  ⟨(some 76), (.load 1 false), [.t 75], none⟩,
  ⟨(some 77), .mv, [.t 6], none⟩,
  ⟨(some 78), (.fld 12), [.t 2], none⟩,
  ⟨(some 79), (.load 1 false), [.t 78], none⟩,
  ⟨(some 80), .mv, [.t 6], none⟩,
  ⟨(some 81), (.idx 1), [.t 79, .t 80], none⟩,
  ⟨(some 82), (.load 1 false), [.t 81], none⟩,
  ⟨(some 83), (.bin .sub), [.t 82, .c (.int .i64 1)], none⟩,
  ⟨(some 84), (.fld 4), [.t 3], none⟩,
  ⟨(some 85), (.load 1 false), [.t 84], none⟩,
  ⟨(some 86), (.bin .add), [.t 85, .c (.int .i64 1)], none⟩,
  ⟨(some 87), .mn, [.t 83, .t 86], none⟩,
  ⟨(some 88), (.fld 13), [.t 2], none⟩,
  ⟨(some 89), (.load 1 false), [.t 88], none⟩,
  ⟨(some 90), .mv, [.t 6], none⟩,
  ⟨(some 91), (.idx 1), [.t 89, .t 90], none⟩,
  ⟨(some 92), (.load 1 false), [.t 91], none⟩,
  ⟨(some 93), (.bin .add), [.t 92, .c (.int .i64 1)], none⟩,
  ⟨(some 94), .mx, [.t 87, .c (.int .i64 1), .t 93], none⟩,
  ⟨(some 95), (.idx 1), [.t 76, .t 77], none⟩,
  ⟨none, (.store 1), [.t 95, .t 94], none⟩] [0, 1, 0, 0, 8, 0, 48, 64, 128, 0, 512, 1024, 2304, 0, 8192, 0, 49152, 65536, 131072, 266240, 1048575, 2097151])
 (.seq (.regd [⟨(some 96), (.load 15 true), [.t 2], none⟩,
  ⟨(some 97), (.load 15 true), [.t 2], none⟩,
  ⟨(some 98), .mv, [.t 6], none⟩,
  ⟨(some 99), (.call 71), [.t 97, .t 98], none⟩,
  ⟨(some 100), (.bslice tMsg 1), [.t 99], none⟩,
  ⟨none, (.store 15), [.t 4, .t 96], none⟩,
  ⟨(some 5), .mv, [.t 100], none⟩] [0, 0, 0, 6, 8, 9, 63])
 .ret)))
def c75_22 : C := (.seq (.regd [⟨(some 22), (.fld 12), [.t 2], none⟩,
  ⟨(some 23), (.load 1 false), [.t 22], none⟩,
  ⟨(some 24), (.app 1 8), [.c (.sl tI [] true), .t 23], none⟩,
  ⟨(some 25), (.fld 13), [.t 2], none⟩,
  ⟨(some 26), (.load 1 false), [.t 25], none⟩,
  ⟨(some 27), (.app 1 8), [.c (.sl tI [] true), .t 26], none⟩,
  ⟨(some 28), (.fld 12), [.t 2], none⟩,
  ⟨none, (.store 1), [.t 28, .t 24], none⟩,
  ⟨(some 29), (.fld 13), [.t 2], none⟩,
  ⟨none, (.store 1), [.t 29, .t 27], none⟩] [0, 1, 2, 0, 8, 20, 31, 127, 255, 511])
 (.seq (.reg [⟨(some 30), (.fld 1), [.t 3], none⟩,
  ⟨(some 31), (.load 1 false), [.t 30], none⟩,
  ⟨(some 6), .mv, [.t 31], none⟩])
 (.cut c75_32)))
def c75 : C := (.seq (.reg [⟨(some 2), .box, [.t 0], none⟩,
  ⟨(some 3), .box, [.t 1], none⟩,
  ⟨(some 4), (.alloc [.int .i64 0, .int .i64 0, .int .i64 0, .int .i64 0, .int .i64 0, .int .i64 0, .str ⟨#[]⟩, .sl tEntry [] true, .int .i64 0, .int .i64 0, .int .i64 0, .sl .bool [] true, .sl tI [] true, .sl tI [] true, .int .i64 0]), [], none⟩,
  ⟨(some 5), .mv, [.c (.sl tMsg [] true)], none⟩])
 (.seq (.reg [⟨(some 7), (.load 15 true), [.t 2], none⟩,
  ⟨(some 8), (.fld 3), [.t 3], none⟩,
  ⟨(some 9), (.load 1 false), [.t 8], none⟩,
  ⟨(some 10), (.call 43), [.t 7, .t 9], none⟩,
  ⟨none, (.store 15), [.t 2, .t 10], none⟩])
 (.seq (.seq (.reg [⟨(some 11), (.fld 8), [.t 2], none⟩,
  ⟨(some 12), (.load 1 false), [.t 11], none⟩,
  ⟨(some 13), (.bin .neq), [.t 12, .c (.int .i64 2)], none⟩,
  ⟨(some 14), .mv, [.t 13], none⟩,
  ⟨(some 15), (.fld 3), [.t 3], (some (14, false))⟩,
  ⟨(some 16), (.load 1 false), [.t 15], (some (14, false))⟩,
  ⟨(some 17), (.fld 2), [.t 2], (some (14, false))⟩,
  ⟨(some 18), (.load 1 false), [.t 17], (some (14, false))⟩,
  ⟨(some 19), (.bin .neq), [.t 16, .t 18], (some (14, false))⟩,
  ⟨(some 20), .pick, [.t 14, .c (.bool true), .t 19], none⟩])
 (.cond (.t 20) (.seq (.reg [⟨(some 21), (.load 15 true), [.t 2], none⟩,
  ⟨none, (.store 15), [.t 4, .t 21], none⟩,
  ⟨(some 5), .mv, [.c (.sl tMsg [] true)], none⟩])
 .ret) .skip))
 (.cut c75_22))))
theorem comp75 : compC Go.Proofs.Try.prog ttL 101 [] (match Go.Proofs.Try.f75.body with | some b => b | none => .skip) = some (erase c75) := by kernel_rfl
def c112 : C := (.seq (.reg [⟨(some 2), .box, [.t 0], none⟩,
  ⟨(some 4), (.alloc [.int .i64 0, .int .i64 0, .int .i64 0, .int .i64 0, .int .i64 0, .int .i64 0, .str ⟨#[]⟩, .sl tEntry [] true, .int .i64 0, .int .i64 0, .int .i64 0, .sl .bool [] true, .sl tI [] true, .sl tI [] true, .int .i64 0]), [], none⟩,
  ⟨(some 5), .mv, [.c (.sl tMsg [] true)], none⟩])
 (.seq (.reg [⟨(some 6), (.load 15 true), [.t 2], none⟩,
  ⟨(some 7), .mv, [.t 1], none⟩,
  ⟨(some 8), (.call 127), [.t 6, .t 7], none⟩,
  ⟨none, (.store 15), [.t 2, .t 8], none⟩])
 (.seq (.regd [⟨(some 9), (.load 15 true), [.t 2], none⟩,
  ⟨(some 10), (.load 15 true), [.t 2], none⟩,
  ⟨(some 11), (.call 118), [.t 10], none⟩,
  ⟨none, (.store 15), [.t 4, .t 9], none⟩,
  ⟨(some 5), .mv, [.t 11], none⟩] [0, 0, 2, 5, 15])
 .ret)))
theorem comp112 : compC Go.Proofs.Try.prog ttL 12 [] (match Go.Proofs.Try.f112.body with | some b => b | none => .skip) = some (c112) := by kernel_rfl
def c114 : C := (.seq (.reg [⟨(some 4), .box, [.t 0], none⟩,
  ⟨(some 8), .mv, [.c (.sl tMsg [] true)], none⟩])
 (.seq (.reg [⟨(some 9), (.fld 0), [.t 4], none⟩,
  ⟨(some 10), (.load 1 false), [.t 9], none⟩,
  ⟨(some 11), .mv, [.t 1], none⟩,
  ⟨(some 12), (.fld 2), [.t 4], none⟩,
  ⟨(some 13), (.load 1 false), [.t 12], none⟩,
  ⟨(some 14), .mv, [.t 2], none⟩,
  ⟨(some 15), .mv, [.t 3], none⟩,
  ⟨(some 16), (.build [.int .i64 0, .int .i64 0, .int .i64 0, .int .i64 0, .int .i64 0, .int .i64 0, .bool false, .int .i64 0, .sl tEntry [] true, .str ⟨#[]⟩] [(0, 1), (1, 1), (2, 1), (3, 1), (6, 1), (4, 1)]), [.c (.int .i64 4), .t 10, .t 11, .t 13, .t 14, .t 15], none⟩,
  ⟨(some 17), (.bslice tMsg 1), [.t 16], none⟩,
  ⟨(some 8), .mv, [.t 17], none⟩])
 .ret))
theorem comp114 : compC Go.Proofs.Try.prog ttL 18 [] (match Go.Proofs.Try.f114.body with | some b => b | none => .skip) = some (c114) := by kernel_rfl
def c115 : C := (.seq (.reg [⟨(some 2), .box, [.t 0], none⟩,
  ⟨(some 3), .box, [.t 1], none⟩,
  ⟨(some 4), (.alloc [.int .i64 0, .int .i64 0, .int .i64 0, .int .i64 0, .int .i64 0, .int .i64 0, .str ⟨#[]⟩, .sl tEntry [] true, .int .i64 0, .int .i64 0, .int .i64 0, .sl .bool [] true, .sl tI [] true, .sl tI [] true, .int .i64 0]), [], none⟩,
  ⟨(some 5), .mv, [.c (.sl tMsg [] true)], none⟩])
 (.seq (.seq (.reg [⟨(some 8), (.fld 4), [.t 3], none⟩,
  ⟨(some 9), (.load 1 false), [.t 8], none⟩,
  ⟨(some 10), (.fld 10), [.t 2], none⟩,
  ⟨(some 11), (.load 1 false), [.t 10], none⟩,
  ⟨(some 12), (.bin .gtr), [.t 9, .t 11], none⟩])
 (.cond (.t 12) (.seq (.reg [⟨(some 14), (.load 15 true), [.t 2], none⟩,
  ⟨(some 15), (.fld 4), [.t 3], none⟩,
  ⟨(some 16), (.load 1 false), [.t 15], none⟩,
  ⟨(some 17), (.call 29), [.t 14, .t 16], none⟩,
  ⟨(some 13), .mv, [.t 17], none⟩,
  ⟨(some 18), (.ext 0), [.t 13], none⟩,
  ⟨(some 19), (.ext 1), [.t 13], none⟩,
  ⟨(some 6), .mv, [.t 18], none⟩,
  ⟨(some 7), .mv, [.t 19], none⟩])
 (.seq (.seq (.reg [⟨(some 20), .mv, [.t 7], none⟩,
  ⟨(some 21), .mv, [.t 20], none⟩,
  ⟨(some 22), .mv, [.t 6], (some (21, true))⟩,
  ⟨(some 23), (.fld 5), [.t 3], (some (21, true))⟩,
  ⟨(some 24), (.load 1 false), [.t 23], (some (21, true))⟩,
  ⟨(some 25), (.bin .eql), [.t 22, .t 24], (some (21, true))⟩,
  ⟨(some 26), .pick, [.t 21, .t 25, .c (.bool false)], none⟩])
 (.cond (.t 26) (.reg [⟨(some 27), (.load 15 true), [.t 2], none⟩,
  ⟨(some 28), (.fld 4), [.t 3], none⟩,
  ⟨(some 29), (.load 1 false), [.t 28], none⟩,
  ⟨(some 30), (.call 60), [.t 27, .t 29], none⟩,
  ⟨(some 31), (.fld 7), [.t 2], none⟩,
  ⟨none, (.store 1), [.t 31, .t 30], none⟩]) (.reg [⟨(some 32), (.fld 7), [.t 2], none⟩,
  ⟨none, (.store 1), [.t 32, .c (.sl tEntry [] true)], none⟩])))
 (.regd [⟨(some 33), (.fld 4), [.t 3], none⟩,
  ⟨(some 34), (.load 1 false), [.t 33], none⟩,
  ⟨(some 35), (.fld 5), [.t 3], none⟩,
  ⟨(some 36), (.load 1 false), [.t 35], none⟩,
  ⟨(some 37), (.fld 9), [.t 3], none⟩,
  ⟨(some 38), (.load 1 false), [.t 37], none⟩,
  ⟨(some 39), (.fld 4), [.t 3], none⟩,
  ⟨(some 40), (.load 1 false), [.t 39], none⟩,
  ⟨(some 41), (.fld 4), [.t 2], none⟩,
  ⟨none, (.store 1), [.t 41, .t 34], none⟩,
  ⟨(some 42), (.fld 5), [.t 2], none⟩,
  ⟨none, (.store 1), [.t 42, .t 36], none⟩,
  ⟨(some 43), (.fld 6), [.t 2], none⟩,
  ⟨none, (.store 1), [.t 43, .t 38], none⟩,
  ⟨(some 44), (.fld 10), [.t 2], none⟩,
  ⟨none, (.store 1), [.t 44, .t 40], none⟩] [0, 1, 0, 4, 0, 16, 0, 64, 3, 259, 783, 1807, 3903, 7999, 16383, 32767]))) .skip))
 (.seq (.regd [⟨(some 45), (.load 15 true), [.t 2], none⟩,
  ⟨(some 46), (.load 15 true), [.t 2], none⟩,
  ⟨(some 47), (.fld 1), [.t 3], none⟩,
  ⟨(some 48), (.load 1 false), [.t 47], none⟩,
  ⟨(some 49), (.fld 4), [.t 3], none⟩,
  ⟨(some 50), (.load 1 false), [.t 49], none⟩,
  ⟨(some 51), (.fld 10), [.t 2], none⟩,
  ⟨(some 52), (.load 1 false), [.t 51], none⟩,
  ⟨(some 53), .mx, [.t 50, .t 52], none⟩,
  ⟨(some 54), (.call 114), [.t 46, .t 48, .c (.bool true), .t 53], none⟩,
  ⟨none, (.store 15), [.t 4, .t 45], none⟩,
  ⟨(some 5), .mv, [.t 54], none⟩] [0, 0, 0, 4, 0, 16, 0, 64, 160, 266, 513, 2047])
 .ret)))
theorem comp115 : compC Go.Proofs.Try.prog ttL 55 [] (match Go.Proofs.Try.f115.body with | some b => b | none => .skip) = some (c115) := by kernel_rfl
def c118 : C := (.seq (.reg [⟨(some 1), .box, [.t 0], none⟩,
  ⟨(some 2), .mv, [.c (.sl tMsg [] true)], none⟩])
 (.seq (.reg [⟨(some 3), .mv, [.c (.sl tMsg [] true)], none⟩])
 (.seq (.seq (.reg [⟨(some 4), .mv, [.c (.int .i64 0)], none⟩])
 (.block 0 (.loop (.seq (.seq (.reg [⟨(some 5), .mv, [.t 4], none⟩,
  ⟨(some 6), (.fld 1), [.t 1], none⟩,
  ⟨(some 7), (.load 1 false), [.t 6], none⟩,
  ⟨(some 8), (.bin .lss), [.t 5, .t 7], none⟩])
 (.cond (.t 8) .skip (.exit 0)))
 (.seq (.block 1 (.seq (.reg [⟨(some 11), .mv, [.t 4], none⟩,
  ⟨(some 12), (.fld 0), [.t 1], none⟩,
  ⟨(some 13), (.load 1 false), [.t 12], none⟩,
  ⟨(some 14), (.bin .neq), [.t 11, .t 13], none⟩])
 (.cond (.t 14) (.reg [⟨(some 15), .mv, [.t 3], none⟩,
  ⟨(some 16), (.load 15 true), [.t 1], none⟩,
  ⟨(some 17), .mv, [.t 4], none⟩,
  ⟨(some 18), (.call 71), [.t 16, .t 17], none⟩,
  ⟨(some 19), (.bslice tMsg 1), [.t 18], none⟩,
  ⟨(some 20), (.app 10 104), [.t 15, .t 19], none⟩,
  ⟨(some 3), .mv, [.t 20], none⟩]) .skip)))
 (.reg [⟨(some 9), .mv, [.t 4], none⟩,
  ⟨(some 10), (.bin .add), [.t 9, .c (.int .i64 1)], none⟩,
  ⟨(some 4), .mv, [.t 10], none⟩]))))))
 (.seq (.reg [⟨(some 21), .mv, [.t 3], none⟩,
  ⟨(some 2), .mv, [.t 21], none⟩])
 .ret))))
theorem comp118 : compC Go.Proofs.Try.prog ttL 22 [] (match Go.Proofs.Try.f118.body with | some b => b | none => .skip) = some (c118) := by kernel_rfl
def c127 : C := (.seq (.reg [⟨(some 2), .box, [.t 0], none⟩,
  ⟨(some 4), (.alloc [.int .i64 0, .int .i64 0, .int .i64 0, .int .i64 0, .int .i64 0, .int .i64 0, .str ⟨#[]⟩, .sl tEntry [] true, .int .i64 0, .int .i64 0, .int .i64 0, .sl .bool [] true, .sl tI [] true, .sl tI [] true, .int .i64 0]), [], none⟩])
 (.seq (.regd [⟨(some 5), (.fld 7), [.t 2], none⟩,
  ⟨(some 6), (.load 1 false), [.t 5], none⟩,
  ⟨(some 7), (.app 2 24), [.c (.sl tEntry [] true), .t 6], none⟩,
  ⟨(some 8), (.fld 2), [.t 2], none⟩,
  ⟨(some 9), (.load 1 false), [.t 8], none⟩,
  ⟨(some 10), .mv, [.t 1], none⟩,
  ⟨(some 11), (.build [.int .i64 0, .str ⟨#[]⟩] [(0, 1), (1, 1)]), [.t 9, .t 10], none⟩,
  ⟨(some 12), (.bslice tEntry 1), [.t 11], none⟩,
  ⟨(some 13), (.app 2 24), [.t 7, .t 12], none⟩,
  ⟨(some 14), (.fld 7), [.t 2], none⟩,
  ⟨none, (.store 1), [.t 14, .t 13], none⟩] [0, 1, 2, 0, 8, 0, 48, 64, 132, 511, 1023])
 (.seq (.reg [⟨(some 15), (.fld 13), [.t 2], none⟩,
  ⟨(some 16), (.load 1 false), [.t 15], none⟩,
  ⟨(some 17), (.app 1 8), [.c (.sl tI [] true), .t 16], none⟩,
  ⟨(some 18), (.fld 13), [.t 2], none⟩,
  ⟨none, (.store 1), [.t 18, .t 17], none⟩])
 (.seq (.regd [⟨(some 19), (.fld 13), [.t 2], none⟩,
  ⟨(some 20), (.load 1 false), [.t 19], none⟩,
  ⟨(some 21), (.fld 0), [.t 2], none⟩,
  ⟨(some 22), (.load 1 false), [.t 21], none⟩,
  ⟨(some 23), (.load 15 true), [.t 2], none⟩,
  ⟨(some 24), (.call 30), [.t 23], none⟩,
  ⟨(some 25), (.idx 1), [.t 20, .t 22], none⟩,
  ⟨none, (.store 1), [.t 25, .t 24], none⟩] [0, 1, 0, 4, 0, 16, 63, 127])
 (.seq (.reg [⟨(some 26), (.load 15 true), [.t 2], none⟩,
  ⟨(some 27), (.call 72), [.t 26], none⟩,
  ⟨none, (.store 15), [.t 4, .t 27], none⟩])
 .ret)))))
theorem comp127 : compC Go.Proofs.Try.prog ttL 28 [] (match Go.Proofs.Try.f127.body with | some b => b | none => .skip) = some (c127) := by kernel_rfl
end Go.AM
