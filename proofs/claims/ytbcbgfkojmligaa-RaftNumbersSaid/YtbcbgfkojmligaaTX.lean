import Derived.Test.YtbcbgfkojmligaaAA
import Derived.KernelRfl
import Derived.Test.YtbcbgfkojmligaaProg
/- Functions of the program as code of the abstract machine, each with the proof that it is that code; no condition. -/
set_option maxRecDepth 100000
namespace Go.AM
def c77 : C := (.seq (.reg [⟨(some 6), .box, [.t 2], none⟩,
  ⟨(some 8), (.alloc [.int .i64 0, .int .i64 0, .int .i64 0, .int .i64 0, .int .i64 0, .int .i64 0, .bool false, .int .i64 0, .sl tEntry [] true, .str ⟨#[]⟩]), [], none⟩])
 (.seq (.reg [⟨(some 15), .mv, [.t 0], none⟩,
  ⟨(some 16), (.call 23), [.t 15, .c (.int .i64 1073741824)], none⟩,
  ⟨(some 17), .mv, [.t 1], none⟩,
  ⟨(some 18), (.call 23), [.t 17, .c (.int .i64 1073741824)], none⟩,
  ⟨(some 9), .mv, [.t 16], none⟩,
  ⟨(some 10), .mv, [.t 18], none⟩])
 (.seq (.regd [⟨(some 19), .mv, [.t 9], none⟩,
  ⟨(some 20), (.bin .rem), [.t 19, .c (.int .i64 5)], none⟩,
  ⟨(some 21), (.bin .add), [.c (.int .i64 1), .t 20], none⟩,
  ⟨(some 22), (.fld 0), [.t 6], none⟩,
  ⟨(some 23), (.load 1 false), [.t 22], none⟩,
  ⟨(some 24), (.fld 0), [.t 6], none⟩,
  ⟨(some 25), (.load 1 false), [.t 24], none⟩,
  ⟨(some 26), (.bin .add), [.t 25, .c (.int .i64 1)], none⟩,
  ⟨(some 27), .mv, [.t 9], none⟩,
  ⟨(some 28), (.bin .quo), [.t 27, .c (.int .i64 5)], none⟩,
  ⟨(some 29), (.fld 1), [.t 6], none⟩,
  ⟨(some 30), (.load 1 false), [.t 29], none⟩,
  ⟨(some 31), (.bin .sub), [.t 30, .c (.int .i64 1)], none⟩,
  ⟨(some 32), .mx, [.t 31, .c (.int .i64 1)], none⟩,
  ⟨(some 33), (.bin .rem), [.t 28, .t 32], none⟩,
  ⟨(some 34), (.bin .add), [.t 26, .t 33], none⟩,
  ⟨(some 35), (.fld 1), [.t 6], none⟩,
  ⟨(some 36), (.load 1 false), [.t 35], none⟩,
  ⟨(some 37), (.bin .rem), [.t 34, .t 36], none⟩,
  ⟨(some 38), (.fld 2), [.t 6], none⟩,
  ⟨(some 39), (.load 1 false), [.t 38], none⟩,
  ⟨(some 40), (.bin .sub), [.t 39, .c (.int .i64 1)], none⟩,
  ⟨(some 41), .mv, [.t 9], none⟩,
  ⟨(some 42), (.bin .quo), [.t 41, .c (.int .i64 25)], none⟩,
  ⟨(some 43), (.bin .rem), [.t 42, .c (.int .i64 3)], none⟩,
  ⟨(some 44), (.bin .add), [.t 40, .t 43], none⟩,
  ⟨(some 45), .mx, [.t 44, .c (.int .i64 1)], none⟩,
  ⟨(some 46), (.build [.int .i64 0, .int .i64 0, .int .i64 0, .int .i64 0, .int .i64 0, .int .i64 0, .bool false, .int .i64 0, .sl tEntry [] true, .str ⟨#[]⟩] [(0, 1), (2, 1), (1, 1), (3, 1)]), [.t 21, .t 23, .t 37, .t 45], none⟩,
  ⟨(some 11), (.alloc [.int .i64 0, .int .i64 0, .int .i64 0, .int .i64 0, .int .i64 0, .int .i64 0, .bool false, .int .i64 0, .sl tEntry [] true, .str ⟨#[]⟩]), [], none⟩,
  ⟨none, (.store 10), [.t 11, .t 46], none⟩] [0, 1, 2, 0, 8, 0, 32, 64, 0, 256, 0, 1024, 2048, 4096, 8704, 16512, 0, 65536, 163840, 0, 524288, 1048576, 0, 4194304, 8388608, 18874368, 33554432, 67371028, 0, 536870911])
 (.seq (.reg [⟨(some 47), (.fld 4), [.t 6], none⟩,
  ⟨(some 48), (.load 1 false), [.t 47], none⟩,
  ⟨(some 49), (.fld 7), [.t 6], none⟩,
  ⟨(some 50), (.load 1 false), [.t 49], none⟩,
  ⟨(some 51), .len, [.t 50], none⟩,
  ⟨(some 52), (.bin .add), [.t 48, .t 51], none⟩,
  ⟨(some 12), .mv, [.t 52], none⟩])
 (.seq (.regd [⟨(some 53), .mv, [.t 12], none⟩,
  ⟨(some 54), (.bin .sub), [.t 53, .c (.int .i64 3)], none⟩,
  ⟨(some 55), .mv, [.t 10], none⟩,
  ⟨(some 56), (.bin .rem), [.t 55, .c (.int .i64 6)], none⟩,
  ⟨(some 57), (.bin .add), [.t 54, .t 56], none⟩,
  ⟨(some 58), .mx, [.t 57, .c (.int .i64 0)], none⟩,
  ⟨(some 59), (.fld 2), [.t 6], none⟩,
  ⟨(some 60), (.load 1 false), [.t 59], none⟩,
  ⟨(some 61), (.bin .sub), [.t 60, .c (.int .i64 1)], none⟩,
  ⟨(some 62), .mv, [.t 10], none⟩,
  ⟨(some 63), (.bin .quo), [.t 62, .c (.int .i64 6)], none⟩,
  ⟨(some 64), (.bin .rem), [.t 63, .c (.int .i64 3)], none⟩,
  ⟨(some 65), (.bin .add), [.t 61, .t 64], none⟩,
  ⟨(some 66), .mx, [.t 65, .c (.int .i64 0)], none⟩,
  ⟨(some 67), .mv, [.t 10], none⟩,
  ⟨(some 68), (.bin .quo), [.t 67, .c (.int .i64 18)], none⟩,
  ⟨(some 69), .mv, [.t 12], none⟩,
  ⟨(some 70), (.bin .add), [.t 69, .c (.int .i64 3)], none⟩,
  ⟨(some 71), (.bin .rem), [.t 68, .t 70], none⟩,
  ⟨(some 72), .mv, [.t 10], none⟩,
  ⟨(some 73), (.bin .quo), [.t 72, .c (.int .i64 900)], none⟩,
  ⟨(some 74), (.bin .rem), [.t 73, .c (.int .i64 3)], none⟩,
  ⟨(some 75), (.bin .gtr), [.t 74, .c (.int .i64 0)], none⟩,
  ⟨(some 76), (.fld 4), [.t 11], none⟩,
  ⟨none, (.store 1), [.t 76, .t 58], none⟩,
  ⟨(some 77), (.fld 5), [.t 11], none⟩,
  ⟨none, (.store 1), [.t 77, .t 66], none⟩,
  ⟨(some 78), (.fld 7), [.t 11], none⟩,
  ⟨none, (.store 1), [.t 78, .t 71], none⟩,
  ⟨(some 79), (.fld 6), [.t 11], none⟩,
  ⟨none, (.store 1), [.t 79, .t 75], none⟩] [0, 1, 0, 4, 10, 16, 0, 64, 128, 0, 512, 1024, 2304, 4096, 0, 16384, 0, 65536, 163840, 0, 524288, 1048576, 2097152, 63, 8388671, 25182207, 58736639, 126353407, 260571135, 536870911, 1073741823])
 (.seq (.seq (.reg [⟨(some 81), (.load 15 true), [.t 6], none⟩,
  ⟨(some 82), (.fld 4), [.t 11], none⟩,
  ⟨(some 83), (.load 1 false), [.t 82], none⟩,
  ⟨(some 84), (.call 29), [.t 81, .t 83], none⟩,
  ⟨(some 80), .mv, [.t 84], none⟩,
  ⟨(some 85), (.ext 0), [.t 80], none⟩,
  ⟨(some 86), (.ext 1), [.t 80], none⟩,
  ⟨(some 13), .mv, [.t 85], none⟩,
  ⟨(some 14), .mv, [.t 86], none⟩])
 (.seq (.reg [⟨(some 87), .mv, [.t 14], none⟩,
  ⟨(some 88), .mv, [.t 87], none⟩,
  ⟨(some 89), .mv, [.t 10], (some (88, true))⟩,
  ⟨(some 90), (.bin .quo), [.t 89, .c (.int .i64 2700)], (some (88, true))⟩,
  ⟨(some 91), (.bin .rem), [.t 90, .c (.int .i64 2)], (some (88, true))⟩,
  ⟨(some 92), (.bin .eql), [.t 91, .c (.int .i64 0)], (some (88, true))⟩,
  ⟨(some 93), .pick, [.t 88, .t 92, .c (.bool false)], none⟩])
 (.cond (.t 93) (.reg [⟨(some 94), .mv, [.t 13], none⟩,
  ⟨(some 95), (.fld 5), [.t 11], none⟩,
  ⟨none, (.store 1), [.t 95, .t 94], none⟩]) .skip)))
 (.seq (.seq (.reg [⟨(some 96), (.fld 0), [.t 11], none⟩,
  ⟨(some 97), (.load 1 false), [.t 96], none⟩,
  ⟨(some 98), (.bin .eql), [.t 97, .c (.int .i64 3)], none⟩])
 (.cond (.t 98) (.reg [⟨(some 99), .mv, [.t 3], none⟩,
  ⟨(some 100), (.fld 3), [.t 11], none⟩,
  ⟨(some 101), (.load 1 false), [.t 100], none⟩,
  ⟨(some 102), (.call 35), [.t 99, .t 101], none⟩,
  ⟨(some 103), (.fld 8), [.t 11], none⟩,
  ⟨none, (.store 1), [.t 103, .t 102], none⟩]) .skip))
 (.seq (.seq (.reg [⟨(some 104), (.fld 0), [.t 11], none⟩,
  ⟨(some 105), (.load 1 false), [.t 104], none⟩,
  ⟨(some 106), (.bin .eql), [.t 105, .c (.int .i64 5)], none⟩])
 (.cond (.t 106) (.reg [⟨(some 107), .mv, [.t 10], none⟩,
  ⟨(some 108), (.bin .rem), [.t 107, .c (.int .i64 100)], none⟩,
  ⟨(some 109), (.call 50), [.t 108], none⟩,
  ⟨(some 110), (.bin .add), [.c (.str ⟨#[115, 110, 97, 112]⟩), .t 109], none⟩,
  ⟨(some 111), (.fld 9), [.t 11], none⟩,
  ⟨none, (.store 1), [.t 111, .t 110], none⟩]) .skip))
 (.seq (.reg [⟨(some 112), (.load 10 true), [.t 11], none⟩,
  ⟨none, (.store 10), [.t 8, .t 112], none⟩])
 .ret)))))))))
theorem comp77 : compC Go.Proofs.Try.prog ttL 113 [] (match Go.Proofs.Try.f77.body with | some b => b | none => .skip) = some (c77) := by kernel_rfl
def c79_35 : C := (.seq (.seq (.reg [⟨(some 35), (.load 15 true), [.t 1], none⟩,
  ⟨(some 36), (.call 45), [.t 35], none⟩,
  ⟨(some 37), (.bin .eql), [.t 36, .c (.int .i64 1)], none⟩])
 (.cond (.t 37) (.seq (.reg [⟨(some 39), (.load 15 true), [.t 1], none⟩,
  ⟨(some 40), (.call 68), [.t 39], none⟩,
  ⟨(some 38), .mv, [.t 40], none⟩,
  ⟨(some 41), (.ext 0), [.t 38], none⟩,
  ⟨(some 42), (.ext 1), [.t 38], none⟩,
  ⟨(some 5), (.alloc [.int .i64 0, .int .i64 0, .int .i64 0, .int .i64 0, .int .i64 0, .int .i64 0, .str ⟨#[]⟩, .sl tEntry [] true, .int .i64 0, .int .i64 0, .int .i64 0, .sl .bool [] true, .sl tI [] true, .sl tI [] true, .int .i64 0]), [], none⟩,
  ⟨none, (.store 15), [.t 5, .t 41], none⟩,
  ⟨(some 6), .mv, [.t 42], none⟩])
 (.seq (.regd [⟨(some 43), (.load 15 true), [.t 5], none⟩,
  ⟨(some 44), .mv, [.t 4], none⟩,
  ⟨(some 45), .mv, [.t 6], none⟩,
  ⟨(some 46), (.app 10 104), [.t 44, .t 45], none⟩,
  ⟨none, (.store 15), [.t 2, .t 43], none⟩,
  ⟨(some 3), .mv, [.t 46], none⟩] [0, 0, 0, 6, 9, 31])
 .ret)) .skip))
 (.seq (.reg [⟨(some 47), (.load 15 true), [.t 1], none⟩,
  ⟨(some 48), .mv, [.t 4], none⟩,
  ⟨none, (.store 15), [.t 2, .t 47], none⟩,
  ⟨(some 3), .mv, [.t 48], none⟩])
 .ret))
def c79_31 : C := (.seq (.reg [⟨(some 31), (.load 15 true), [.t 1], none⟩,
  ⟨(some 32), (.call 38), [.t 31], none⟩,
  ⟨(some 30), .mv, [.t 32], none⟩,
  ⟨(some 33), (.ext 0), [.t 30], none⟩,
  ⟨(some 34), (.ext 1), [.t 30], none⟩,
  ⟨none, (.store 15), [.t 1, .t 33], none⟩,
  ⟨(some 4), .mv, [.t 34], none⟩])
 (.cut c79_35))
def c79 : C := (.seq (.reg [⟨(some 1), .box, [.t 0], none⟩,
  ⟨(some 2), (.alloc [.int .i64 0, .int .i64 0, .int .i64 0, .int .i64 0, .int .i64 0, .int .i64 0, .str ⟨#[]⟩, .sl tEntry [] true, .int .i64 0, .int .i64 0, .int .i64 0, .sl .bool [] true, .sl tI [] true, .sl tI [] true, .int .i64 0]), [], none⟩,
  ⟨(some 3), .mv, [.c (.sl tMsg [] true)], none⟩])
 (.seq (.reg [⟨(some 7), (.fld 14), [.t 1], none⟩,
  ⟨(some 8), (.load 1 false), [.t 7], none⟩,
  ⟨(some 9), (.bin .add), [.t 8, .c (.int .i64 1)], none⟩,
  ⟨(some 10), (.fld 14), [.t 1], none⟩,
  ⟨none, (.store 1), [.t 10, .t 9], none⟩])
 (.seq (.seq (.reg [⟨(some 11), (.fld 8), [.t 1], none⟩,
  ⟨(some 12), (.load 1 false), [.t 11], none⟩,
  ⟨(some 13), (.bin .eql), [.t 12, .c (.int .i64 2)], none⟩])
 (.cond (.t 13) (.seq (.seq (.reg [⟨(some 14), (.fld 14), [.t 1], none⟩,
  ⟨(some 15), (.load 1 false), [.t 14], none⟩,
  ⟨(some 16), (.bin .lss), [.t 15, .c (.int .i64 3)], none⟩])
 (.cond (.t 16) (.seq (.reg [⟨(some 17), (.load 15 true), [.t 1], none⟩,
  ⟨none, (.store 15), [.t 2, .t 17], none⟩,
  ⟨(some 3), .mv, [.c (.sl tMsg [] true)], none⟩])
 .ret) .skip))
 (.seq (.reg [⟨(some 18), (.fld 14), [.t 1], none⟩,
  ⟨none, (.store 1), [.t 18, .c (.int .i64 0)], none⟩])
 (.seq (.regd [⟨(some 19), (.load 15 true), [.t 1], none⟩,
  ⟨(some 20), (.load 15 true), [.t 1], none⟩,
  ⟨(some 21), (.call 118), [.t 20], none⟩,
  ⟨none, (.store 15), [.t 2, .t 19], none⟩,
  ⟨(some 3), .mv, [.t 21], none⟩] [0, 0, 2, 5, 15])
 .ret))) .skip))
 (.seq (.seq (.reg [⟨(some 22), (.fld 14), [.t 1], none⟩,
  ⟨(some 23), (.load 1 false), [.t 22], none⟩,
  ⟨(some 24), (.fld 0), [.t 1], none⟩,
  ⟨(some 25), (.load 1 false), [.t 24], none⟩,
  ⟨(some 26), (.bin .mul), [.c (.int .i64 5), .t 25], none⟩,
  ⟨(some 27), (.bin .add), [.c (.int .i64 10), .t 26], none⟩,
  ⟨(some 28), (.bin .lss), [.t 23, .t 27], none⟩])
 (.cond (.t 28) (.seq (.reg [⟨(some 29), (.load 15 true), [.t 1], none⟩,
  ⟨none, (.store 15), [.t 2, .t 29], none⟩,
  ⟨(some 3), .mv, [.c (.sl tMsg [] true)], none⟩])
 .ret) .skip))
 (.cut c79_31)))))
theorem comp79 : compC Go.Proofs.Try.prog ttL 49 [] (match Go.Proofs.Try.f79.body with | some b => b | none => .skip) = some (erase c79) := by kernel_rfl
def c83_19 : C := (.seq (.reg [⟨(some 19), (.load 15 true), [.t 2], none⟩,
  ⟨(some 20), .mv, [.t 1], none⟩,
  ⟨(some 21), (.call 112), [.t 19, .t 20], none⟩,
  ⟨(some 18), .mv, [.t 21], none⟩,
  ⟨(some 22), (.ext 0), [.t 18], none⟩,
  ⟨(some 23), (.ext 1), [.t 18], none⟩,
  ⟨(some 7), (.alloc [.int .i64 0, .int .i64 0, .int .i64 0, .int .i64 0, .int .i64 0, .int .i64 0, .str ⟨#[]⟩, .sl tEntry [] true, .int .i64 0, .int .i64 0, .int .i64 0, .sl .bool [] true, .sl tI [] true, .sl tI [] true, .int .i64 0]), [], none⟩,
  ⟨none, (.store 15), [.t 7, .t 22], none⟩,
  ⟨(some 8), .mv, [.t 23], none⟩])
 (.seq (.reg [⟨(some 24), (.load 15 true), [.t 7], none⟩,
  ⟨(some 25), .mv, [.t 8], none⟩,
  ⟨none, (.store 15), [.t 4, .t 24], none⟩,
  ⟨(some 5), .mv, [.t 25], none⟩,
  ⟨(some 6), .mv, [.c (.int .i64 0)], none⟩])
 .ret))
def c83 : C := (.seq (.reg [⟨(some 2), .box, [.t 0], none⟩,
  ⟨(some 4), (.alloc [.int .i64 0, .int .i64 0, .int .i64 0, .int .i64 0, .int .i64 0, .int .i64 0, .str ⟨#[]⟩, .sl tEntry [] true, .int .i64 0, .int .i64 0, .int .i64 0, .sl .bool [] true, .sl tI [] true, .sl tI [] true, .int .i64 0]), [], none⟩,
  ⟨(some 5), .mv, [.c (.sl tMsg [] true)], none⟩,
  ⟨(some 6), .mv, [.c (.int .i64 0)], none⟩])
 (.seq (.seq (.reg [⟨(some 9), (.fld 8), [.t 2], none⟩,
  ⟨(some 10), (.load 1 false), [.t 9], none⟩,
  ⟨(some 11), (.bin .neq), [.t 10, .c (.int .i64 2)], none⟩])
 (.cond (.t 11) (.seq (.reg [⟨(some 12), (.load 15 true), [.t 2], none⟩,
  ⟨none, (.store 15), [.t 4, .t 12], none⟩,
  ⟨(some 5), .mv, [.c (.sl tMsg [] true)], none⟩,
  ⟨(some 6), .mv, [.c (.int .i64 13)], none⟩])
 .ret) .skip))
 (.seq (.seq (.reg [⟨(some 13), (.fld 7), [.t 2], none⟩,
  ⟨(some 14), (.load 1 false), [.t 13], none⟩,
  ⟨(some 15), .len, [.t 14], none⟩,
  ⟨(some 16), (.bin .geq), [.t 15, .c (.int .i64 200)], none⟩])
 (.cond (.t 16) (.seq (.reg [⟨(some 17), (.load 15 true), [.t 2], none⟩,
  ⟨none, (.store 15), [.t 4, .t 17], none⟩,
  ⟨(some 5), .mv, [.c (.sl tMsg [] true)], none⟩,
  ⟨(some 6), .mv, [.c (.int .i64 7)], none⟩])
 .ret) .skip))
 (.cut c83_19))))
theorem comp83 : compC Go.Proofs.Try.prog ttL 26 [] (match Go.Proofs.Try.f83.body with | some b => b | none => .skip) = some (erase c83) := by kernel_rfl
def c119 : C := (.seq (.reg [⟨(some 2), .box, [.t 0], none⟩,
  ⟨(some 3), .box, [.t 1], none⟩,
  ⟨(some 4), (.alloc [.int .i64 0, .int .i64 0, .int .i64 0, .int .i64 0, .int .i64 0, .int .i64 0, .str ⟨#[]⟩, .sl tEntry [] true, .int .i64 0, .int .i64 0, .int .i64 0, .sl .bool [] true, .sl tI [] true, .sl tI [] true, .int .i64 0]), [], none⟩,
  ⟨(some 5), .mv, [.c (.sl tMsg [] true)], none⟩])
 (.seq (.reg [⟨(some 8), (.load 15 true), [.t 2], none⟩,
  ⟨(some 9), (.load 10 true), [.t 3], none⟩,
  ⟨(some 10), (.call 40), [.t 8, .t 9], none⟩,
  ⟨(some 7), .mv, [.t 10], none⟩,
  ⟨(some 11), (.ext 0), [.t 7], none⟩,
  ⟨(some 12), (.ext 1), [.t 7], none⟩,
  ⟨none, (.store 15), [.t 2, .t 11], none⟩,
  ⟨(some 6), .mv, [.t 12], none⟩])
 (.seq (.seq (.reg [⟨(some 13), .mv, [.t 6], none⟩,
  ⟨(some 14), .not, [.t 13], none⟩,
  ⟨(some 15), .mv, [.t 14], none⟩,
  ⟨(some 16), (.fld 8), [.t 2], (some (15, false))⟩,
  ⟨(some 17), (.load 1 false), [.t 16], (some (15, false))⟩,
  ⟨(some 18), (.bin .neq), [.t 17, .c (.int .i64 1)], (some (15, false))⟩,
  ⟨(some 19), .pick, [.t 15, .c (.bool true), .t 18], none⟩])
 (.cond (.t 19) (.seq (.reg [⟨(some 20), (.load 15 true), [.t 2], none⟩,
  ⟨none, (.store 15), [.t 4, .t 20], none⟩,
  ⟨(some 5), .mv, [.c (.sl tMsg [] true)], none⟩])
 .ret) .skip))
 (.seq (.reg [⟨(some 21), (.load 15 true), [.t 2], none⟩,
  ⟨(some 22), (.call 67), [.t 21], none⟩,
  ⟨(some 23), (.ext 0), [.t 22], none⟩,
  ⟨(some 24), (.ext 1), [.t 22], none⟩,
  ⟨none, (.store 15), [.t 4, .t 23], none⟩,
  ⟨(some 5), .mv, [.t 24], none⟩])
 .ret))))
theorem comp119 : compC Go.Proofs.Try.prog ttL 25 [] (match Go.Proofs.Try.f119.body with | some b => b | none => .skip) = some (c119) := by kernel_rfl
end Go.AM
