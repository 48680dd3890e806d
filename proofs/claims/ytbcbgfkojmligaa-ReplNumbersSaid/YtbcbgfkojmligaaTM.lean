import Derived.Test.YtbcbgfkojmligaaAA
import Derived.KernelRfl
import Derived.Test.YtbcbgfkojmligaaProg
/- Functions of the program as code of the abstract machine, each with the proof that it is that code; no condition. -/
set_option maxRecDepth 100000
namespace Go.AM
def c13_104 : C := (.seq (.seq (.reg [⟨(some 104), .mv, [.t 20], none⟩,
  ⟨(some 105), .len, [.t 104], none⟩,
  ⟨(some 106), (.bin .neq), [.t 105, .c (.int .i64 1)], none⟩,
  ⟨(some 107), .mv, [.t 106], none⟩,
  ⟨(some 108), (.fld 10), [.t 19], (some (107, false))⟩,
  ⟨(some 109), (.load 1 false), [.t 108], (some (107, false))⟩,
  ⟨(some 110), .mv, [.t 10], (some (107, false))⟩,
  ⟨(some 111), (.bin .lss), [.t 109, .t 110], (some (107, false))⟩,
  ⟨(some 112), .pick, [.t 107, .c (.bool true), .t 111], none⟩,
  ⟨(some 113), .mv, [.t 112], none⟩,
  ⟨(some 114), (.fld 4), [.t 19], (some (113, false))⟩,
  ⟨(some 115), (.load 1 false), [.t 114], (some (113, false))⟩,
  ⟨(some 116), .mv, [.t 11], (some (113, false))⟩,
  ⟨(some 117), (.bin .neq), [.t 115, .t 116], (some (113, false))⟩,
  ⟨(some 118), .pick, [.t 113, .c (.bool true), .t 117], none⟩,
  ⟨(some 119), .mv, [.t 118], none⟩,
  ⟨(some 120), (.fld 7), [.t 19], (some (119, false))⟩,
  ⟨(some 121), (.load 1 false), [.t 120], (some (119, false))⟩,
  ⟨(some 122), .len, [.t 121], (some (119, false))⟩,
  ⟨(some 123), .mv, [.t 9], (some (119, false))⟩,
  ⟨(some 124), .len, [.t 123], (some (119, false))⟩,
  ⟨(some 125), (.bin .lss), [.t 122, .t 124], (some (119, false))⟩,
  ⟨(some 126), .pick, [.t 119, .c (.bool true), .t 125], none⟩,
  ⟨(some 127), .mv, [.t 126], none⟩,
  ⟨(some 128), (.fld 7), [.t 19], (some (127, false))⟩,
  ⟨(some 129), (.load 1 false), [.t 128], (some (127, false))⟩,
  ⟨(some 130), .mv, [.t 9], (some (127, false))⟩,
  ⟨(some 131), .len, [.t 130], (some (127, false))⟩,
  ⟨(some 132), (.slc 2 false true false), [.t 129, .t 131], (some (127, false))⟩,
  ⟨(some 133), .mv, [.t 9], (some (127, false))⟩,
  ⟨(some 134), (.call 37), [.t 132, .t 133], (some (127, false))⟩,
  ⟨(some 135), .not, [.t 134], (some (127, false))⟩,
  ⟨(some 136), .pick, [.t 127, .c (.bool true), .t 135], none⟩])
 (.cond (.t 136) (.seq (.reg [⟨(some 6), .mv, [.c (.bool false)], none⟩])
 .ret) .skip))
 (.reg [⟨(some 137), (.load 15 true), [.t 19], none⟩,
  ⟨none, (.store 15), [.t 7, .t 137], none⟩]))
def c13_82 : C := (.seq (.reg [⟨(some 82), .mv, [.t 14], none⟩,
  ⟨(some 83), .mv, [.t 15], none⟩,
  ⟨(some 84), (.slc 2 true false false), [.t 82, .t 83], none⟩,
  ⟨(some 17), .mv, [.t 84], none⟩])
 (.seq (.reg [⟨(some 85), .mv, [.t 12], none⟩,
  ⟨(some 86), .mv, [.t 11], none⟩,
  ⟨(some 87), .mv, [.t 15], none⟩,
  ⟨(some 88), (.bin .add), [.t 86, .t 87], none⟩,
  ⟨(some 89), .mv, [.t 16], none⟩,
  ⟨(some 90), .mv, [.t 10], none⟩,
  ⟨(some 91), (.bin .add), [.t 90, .c (.int .i64 1)], none⟩,
  ⟨(some 92), .mv, [.t 17], none⟩,
  ⟨(some 93), .mv, [.t 17], none⟩,
  ⟨(some 94), .len, [.t 93], none⟩,
  ⟨(some 95), .mn, [.t 94, .c (.int .i64 20)], none⟩,
  ⟨(some 96), (.slc 2 false true false), [.t 92, .t 95], none⟩,
  ⟨(some 97), (.build [.int .i64 0, .int .i64 0, .int .i64 0, .int .i64 0, .int .i64 0, .int .i64 0, .bool false, .int .i64 0, .sl tEntry [] true, .str ⟨#[]⟩] [(0, 1), (1, 1), (2, 1), (3, 1), (4, 1), (5, 1), (7, 1), (8, 1)]), [.c (.int .i64 3), .c (.int .i64 1), .c (.int .i64 0), .t 85, .t 88, .t 89, .t 91, .t 96], none⟩,
  ⟨(some 18), (.alloc [.int .i64 0, .int .i64 0, .int .i64 0, .int .i64 0, .int .i64 0, .int .i64 0, .bool false, .int .i64 0, .sl tEntry [] true, .str ⟨#[]⟩]), [], none⟩,
  ⟨none, (.store 10), [.t 18, .t 97], none⟩])
 (.seq (.reg [⟨(some 99), (.load 15 true), [.t 7], none⟩,
  ⟨(some 100), (.load 10 true), [.t 18], none⟩,
  ⟨(some 101), (.call 65), [.t 99, .t 100], none⟩,
  ⟨(some 98), .mv, [.t 101], none⟩,
  ⟨(some 102), (.ext 0), [.t 98], none⟩,
  ⟨(some 103), (.ext 1), [.t 98], none⟩,
  ⟨(some 19), (.alloc [.int .i64 0, .int .i64 0, .int .i64 0, .int .i64 0, .int .i64 0, .int .i64 0, .str ⟨#[]⟩, .sl tEntry [] true, .int .i64 0, .int .i64 0, .int .i64 0, .sl .bool [] true, .sl tI [] true, .sl tI [] true, .int .i64 0]), [], none⟩,
  ⟨none, (.store 15), [.t 19, .t 102], none⟩,
  ⟨(some 20), .mv, [.t 103], none⟩])
 (.cut c13_104))))
def c13_60 : C := (.seq (.seq (.reg [⟨(some 60), .mv, [.t 8], none⟩,
  ⟨(some 61), .mv, [.t 2], none⟩,
  ⟨(some 62), .len, [.t 61], none⟩,
  ⟨(some 63), (.bin .lss), [.t 60, .t 62], none⟩])
 (.cond (.t 63) (.reg [⟨(some 64), .mv, [.t 2], none⟩,
  ⟨(some 65), .mv, [.t 8], none⟩,
  ⟨(some 66), (.idx 1), [.t 64, .t 65], none⟩,
  ⟨(some 67), (.load 1 false), [.t 66], none⟩,
  ⟨(some 68), .mv, [.t 14], none⟩,
  ⟨(some 69), .len, [.t 68], none⟩,
  ⟨(some 70), (.bin .add), [.t 69, .c (.int .i64 1)], none⟩,
  ⟨(some 71), (.call 23), [.t 67, .t 70], none⟩,
  ⟨(some 15), .mv, [.t 71], none⟩]) .skip))
 (.seq (.reg [⟨(some 72), (.fld 5), [.t 7], none⟩,
  ⟨(some 73), (.load 1 false), [.t 72], none⟩,
  ⟨(some 16), .mv, [.t 73], none⟩])
 (.seq (.seq (.reg [⟨(some 74), .mv, [.t 15], none⟩,
  ⟨(some 75), (.bin .gtr), [.t 74, .c (.int .i64 0)], none⟩])
 (.cond (.t 75) (.reg [⟨(some 76), .mv, [.t 14], none⟩,
  ⟨(some 77), .mv, [.t 15], none⟩,
  ⟨(some 78), (.bin .sub), [.t 77, .c (.int .i64 1)], none⟩,
  ⟨(some 79), (.idx 2), [.t 76, .t 78], none⟩,
  ⟨(some 80), (.fld 0), [.t 79], none⟩,
  ⟨(some 81), (.load 1 false), [.t 80], none⟩,
  ⟨(some 16), .mv, [.t 81], none⟩]) .skip))
 (.cut c13_82))))
def c13 : C := (.seq (.reg [⟨(some 6), .mv, [.c (.bool false)], none⟩])
 (.seq (.reg [⟨(some 21), .mv, [.t 0], none⟩,
  ⟨(some 22), (.call 22), [.t 21, .c (.int .i64 0), .c (.int .i64 3)], none⟩,
  ⟨(some 7), (.alloc [.int .i64 0, .int .i64 0, .int .i64 0, .int .i64 0, .int .i64 0, .int .i64 0, .str ⟨#[]⟩, .sl tEntry [] true, .int .i64 0, .int .i64 0, .int .i64 0, .sl .bool [] true, .sl tI [] true, .sl tI [] true, .int .i64 0]), [], none⟩,
  ⟨none, (.store 15), [.t 7, .t 22], none⟩])
 (.seq (.reg [⟨(some 23), (.fld 8), [.t 7], none⟩,
  ⟨none, (.store 1), [.t 23, .c (.int .i64 0)], none⟩])
 (.seq (.seq (.reg [⟨(some 8), .mv, [.c (.int .i64 0)], none⟩])
 (.block 0 (.loop (.seq (.seq (.reg [⟨(some 24), .mv, [.t 8], none⟩,
  ⟨(some 25), .mv, [.t 1], none⟩,
  ⟨(some 26), .len, [.t 25], none⟩,
  ⟨(some 27), (.bin .lss), [.t 24, .t 26], none⟩,
  ⟨(some 28), .mv, [.t 27], none⟩,
  ⟨(some 29), .mv, [.t 8], (some (28, true))⟩,
  ⟨(some 30), (.bin .lss), [.t 29, .c (.int .i64 10)], (some (28, true))⟩,
  ⟨(some 31), .pick, [.t 28, .t 30, .c (.bool false)], none⟩])
 (.cond (.t 31) .skip (.exit 0)))
 (.seq (.block 1 (.seq (.reg [⟨(some 34), (.fld 7), [.t 7], none⟩,
  ⟨(some 35), (.load 1 false), [.t 34], none⟩,
  ⟨(some 36), (.fld 10), [.t 7], none⟩,
  ⟨(some 37), (.load 1 false), [.t 36], none⟩,
  ⟨(some 38), (.fld 4), [.t 7], none⟩,
  ⟨(some 39), (.load 1 false), [.t 38], none⟩,
  ⟨(some 40), (.bin .sub), [.t 37, .t 39], none⟩,
  ⟨(some 41), (.slc 2 false true false), [.t 35, .t 40], none⟩,
  ⟨(some 42), (.app 2 24), [.c (.sl tEntry [] true), .t 41], none⟩,
  ⟨(some 9), .mv, [.t 42], none⟩])
 (.seq (.regd [⟨(some 43), (.fld 10), [.t 7], none⟩,
  ⟨(some 44), (.load 1 false), [.t 43], none⟩,
  ⟨(some 45), (.fld 4), [.t 7], none⟩,
  ⟨(some 46), (.load 1 false), [.t 45], none⟩,
  ⟨(some 10), .mv, [.t 44], none⟩,
  ⟨(some 11), .mv, [.t 46], none⟩] [0, 1, 0, 4, 3, 31])
 (.seq (.reg [⟨(some 47), (.fld 2), [.t 7], none⟩,
  ⟨(some 48), (.load 1 false), [.t 47], none⟩,
  ⟨(some 49), (.bin .add), [.t 48, .c (.int .i64 1)], none⟩,
  ⟨(some 12), .mv, [.t 49], none⟩])
 (.seq (.reg [⟨(some 50), .mv, [.t 1], none⟩,
  ⟨(some 51), .mv, [.t 8], none⟩,
  ⟨(some 52), (.idx 1), [.t 50, .t 51], none⟩,
  ⟨(some 53), (.load 1 false), [.t 52], none⟩,
  ⟨(some 54), .mv, [.t 12], none⟩,
  ⟨(some 55), (.call 35), [.t 53, .t 54], none⟩,
  ⟨(some 13), .mv, [.t 55], none⟩])
 (.seq (.reg [⟨(some 56), .mv, [.t 9], none⟩,
  ⟨(some 57), (.app 2 24), [.c (.sl tEntry [] true), .t 56], none⟩,
  ⟨(some 58), .mv, [.t 13], none⟩,
  ⟨(some 59), (.app 2 24), [.t 57, .t 58], none⟩,
  ⟨(some 14), .mv, [.t 59], none⟩])
 (.seq (.reg [⟨(some 15), .mv, [.c (.int .i64 0)], none⟩])
 (.cut c13_60))))))))
 (.reg [⟨(some 32), .mv, [.t 8], none⟩,
  ⟨(some 33), (.bin .add), [.t 32, .c (.int .i64 1)], none⟩,
  ⟨(some 8), .mv, [.t 33], none⟩]))))))
 (.seq (.reg [⟨(some 138), (.call 57), [], none⟩,
  ⟨(some 6), .mv, [.t 138], none⟩])
 .ret)))))
theorem comp13 : compC Go.Proofs.Try.prog ttL 139 [] (match Go.Proofs.Try.f13.body with | some b => b | none => .skip) = some (erase c13) := by kernel_rfl
end Go.AM
