import Derived.Test.YtbcbgfkojmligaaAA
import Derived.KernelRfl
import Derived.Test.YtbcbgfkojmligaaProg
/- Functions of the program as code of the abstract machine, each with the proof that it is that code; no condition. -/
set_option maxRecDepth 100000
namespace Go.AM
def c3 : C := (.seq (.reg [⟨(some 8), .mv, [.c (.bool false)], none⟩])
 (.seq (.reg [⟨(some 17), .mv, [.t 0], none⟩,
  ⟨(some 18), .mv, [.t 1], none⟩,
  ⟨(some 19), .mv, [.t 2], none⟩,
  ⟨(some 20), (.call 23), [.t 19, .c (.int .i64 6)], none⟩,
  ⟨(some 21), .mx, [.t 20, .c (.int .i64 2)], none⟩,
  ⟨(some 22), (.call 22), [.t 17, .t 18, .t 21], none⟩,
  ⟨(some 9), (.alloc [.int .i64 0, .int .i64 0, .int .i64 0, .int .i64 0, .int .i64 0, .int .i64 0, .str ⟨#[]⟩, .sl tEntry [] true, .int .i64 0, .int .i64 0, .int .i64 0, .sl .bool [] true, .sl tI [] true, .sl tI [] true, .int .i64 0]), [], none⟩,
  ⟨none, (.store 15), [.t 9, .t 22], none⟩])
 (.seq (.reg [⟨(some 10), (.allocA tI 200), [], none⟩])
 (.seq (.seq (.reg [⟨(some 11), .mv, [.c (.int .i64 0)], none⟩])
 (.block 0 (.loop (.seq (.seq (.reg [⟨(some 23), .mv, [.t 11], none⟩,
  ⟨(some 24), .mv, [.t 3], none⟩,
  ⟨(some 25), .len, [.t 24], none⟩,
  ⟨(some 26), (.bin .lss), [.t 23, .t 25], none⟩,
  ⟨(some 27), .mv, [.t 26], none⟩,
  ⟨(some 28), .mv, [.t 11], (some (27, true))⟩,
  ⟨(some 29), (.bin .lss), [.t 28, .c (.int .i64 60)], (some (27, true))⟩,
  ⟨(some 30), .pick, [.t 27, .t 29, .c (.bool false)], none⟩])
 (.cond (.t 30) .skip (.exit 0)))
 (.seq (.block 1 (.seq (.reg [⟨(some 33), .mv, [.t 3], none⟩,
  ⟨(some 34), .mv, [.t 11], none⟩,
  ⟨(some 35), (.idx 1), [.t 33, .t 34], none⟩,
  ⟨(some 36), (.load 1 false), [.t 35], none⟩,
  ⟨(some 37), (.call 23), [.t 36, .c (.int .i64 1073741824)], none⟩,
  ⟨(some 12), .mv, [.t 37], none⟩])
 (.seq (.reg [⟨(some 38), .mv, [.t 12], none⟩,
  ⟨(some 39), (.bin .quo), [.t 38, .c (.int .i64 5)], none⟩,
  ⟨(some 40), (.bin .mul), [.c (.int .i64 5), .t 39], none⟩,
  ⟨(some 41), .mv, [.t 12], none⟩,
  ⟨(some 42), (.bin .quo), [.t 41, .c (.int .i64 7)], none⟩,
  ⟨(some 43), (.load 15 true), [.t 9], none⟩,
  ⟨(some 44), (.call 24), [.t 40, .t 42, .t 43, .c (.sl tI [] true)], none⟩,
  ⟨(some 13), (.alloc [.int .i64 0, .int .i64 0, .int .i64 0, .int .i64 0, .int .i64 0, .int .i64 0, .bool false, .int .i64 0, .sl tEntry [] true, .str ⟨#[]⟩]), [], none⟩,
  ⟨none, (.store 10), [.t 13, .t 44], none⟩])
 (.seq (.reg [⟨(some 45), (.fld 0), [.t 13], none⟩,
  ⟨none, (.store 1), [.t 45, .c (.int .i64 1)], none⟩])
 (.seq (.reg [⟨(some 46), (.fld 2), [.t 9], none⟩,
  ⟨(some 47), (.load 1 false), [.t 46], none⟩,
  ⟨(some 14), .mv, [.t 47], none⟩])
 (.seq (.reg [⟨(some 49), (.load 15 true), [.t 9], none⟩,
  ⟨(some 50), (.load 10 true), [.t 13], none⟩,
  ⟨(some 51), (.call 25), [.t 49, .t 50], none⟩,
  ⟨(some 48), .mv, [.t 51], none⟩,
  ⟨(some 52), (.ext 0), [.t 48], none⟩,
  ⟨(some 53), (.ext 1), [.t 48], none⟩,
  ⟨(some 15), (.alloc [.int .i64 0, .int .i64 0, .int .i64 0, .int .i64 0, .int .i64 0, .int .i64 0, .str ⟨#[]⟩, .sl tEntry [] true, .int .i64 0, .int .i64 0, .int .i64 0, .sl .bool [] true, .sl tI [] true, .sl tI [] true, .int .i64 0]), [], none⟩,
  ⟨none, (.store 15), [.t 15, .t 52], none⟩,
  ⟨(some 16), .mv, [.t 53], none⟩])
 (.seq (.seq (.regd [⟨(some 54), .mv, [.t 16], none⟩,
  ⟨(some 55), .len, [.t 54], none⟩,
  ⟨(some 56), (.bin .neq), [.t 55, .c (.int .i64 1)], none⟩,
  ⟨(some 57), .mv, [.t 56], none⟩,
  ⟨(some 58), (.fld 2), [.t 15], (some (57, false))⟩,
  ⟨(some 59), (.load 1 false), [.t 58], (some (57, false))⟩,
  ⟨(some 60), .mv, [.t 14], (some (57, false))⟩,
  ⟨(some 61), (.bin .lss), [.t 59, .t 60], (some (57, false))⟩,
  ⟨(some 62), .pick, [.t 57, .c (.bool true), .t 61], none⟩,
  ⟨(some 63), .mv, [.t 62], none⟩,
  ⟨(some 64), .mv, [.t 16], (some (63, false))⟩,
  ⟨(some 65), (.idx 10), [.t 64, .c (.int .i64 0)], (some (63, false))⟩,
  ⟨(some 66), (.fld 3), [.t 65], (some (63, false))⟩,
  ⟨(some 67), (.load 1 false), [.t 66], (some (63, false))⟩,
  ⟨(some 68), (.fld 2), [.t 15], (some (63, false))⟩,
  ⟨(some 69), (.load 1 false), [.t 68], (some (63, false))⟩,
  ⟨(some 70), (.bin .neq), [.t 67, .t 69], (some (63, false))⟩,
  ⟨(some 71), .pick, [.t 63, .c (.bool true), .t 70], none⟩,
  ⟨(some 72), .mv, [.t 71], none⟩,
  ⟨(some 73), .mv, [.t 16], (some (72, false))⟩,
  ⟨(some 74), (.idx 10), [.t 73, .c (.int .i64 0)], (some (72, false))⟩,
  ⟨(some 75), (.fld 2), [.t 74], (some (72, false))⟩,
  ⟨(some 76), (.load 1 false), [.t 75], (some (72, false))⟩,
  ⟨(some 77), (.fld 1), [.t 13], (some (72, false))⟩,
  ⟨(some 78), (.load 1 false), [.t 77], (some (72, false))⟩,
  ⟨(some 79), (.bin .neq), [.t 76, .t 78], (some (72, false))⟩,
  ⟨(some 80), .pick, [.t 72, .c (.bool true), .t 79], none⟩,
  ⟨(some 81), .mv, [.t 80], none⟩,
  ⟨(some 82), .mv, [.t 16], (some (81, false))⟩,
  ⟨(some 83), (.idx 10), [.t 82, .c (.int .i64 0)], (some (81, false))⟩,
  ⟨(some 84), (.fld 1), [.t 83], (some (81, false))⟩,
  ⟨(some 85), (.load 1 false), [.t 84], (some (81, false))⟩,
  ⟨(some 86), (.fld 0), [.t 9], (some (81, false))⟩,
  ⟨(some 87), (.load 1 false), [.t 86], (some (81, false))⟩,
  ⟨(some 88), (.bin .neq), [.t 85, .t 87], (some (81, false))⟩,
  ⟨(some 89), .pick, [.t 81, .c (.bool true), .t 88], none⟩] [0, 1, 2, 4, 8, 24, 8, 104, 136, 264, 512, 1536, 2560, 4608, 512, 16896, 41472, 66048, 131584, 262144, 786432, 1310720, 2359296, 262144, 8650752, 21233664, 33816576, 67371008, 134217728, 402653184, 671088640, 1207959552, 134217728, 4429185024, 10871635968, 17314086912])
 (.cond (.t 89) (.seq (.reg [⟨(some 8), .mv, [.c (.bool false)], none⟩])
 .ret) .skip))
 (.seq (.seq (.reg [⟨(some 90), .mv, [.t 16], none⟩,
  ⟨(some 91), (.idx 10), [.t 90, .c (.int .i64 0)], none⟩,
  ⟨(some 92), (.fld 6), [.t 91], none⟩,
  ⟨(some 93), (.load 1 false), [.t 92], none⟩])
 (.cond (.t 93) (.seq (.seq (.reg [⟨(some 94), (.fld 2), [.t 15], none⟩,
  ⟨(some 95), (.load 1 false), [.t 94], none⟩,
  ⟨(some 96), (.bin .lss), [.t 95, .c (.int .i64 0)], none⟩,
  ⟨(some 97), .mv, [.t 96], none⟩,
  ⟨(some 98), (.fld 2), [.t 15], (some (97, false))⟩,
  ⟨(some 99), (.load 1 false), [.t 98], (some (97, false))⟩,
  ⟨(some 100), (.bin .geq), [.t 99, .c (.int .i64 200)], (some (97, false))⟩,
  ⟨(some 101), .pick, [.t 97, .c (.bool true), .t 100], none⟩])
 (.cond (.t 101) (.seq (.reg [⟨(some 8), .mv, [.c (.bool false)], none⟩])
 .ret) .skip))
 (.seq (.seq (.regd [⟨(some 102), (.fld 2), [.t 15], none⟩,
  ⟨(some 103), (.load 1 false), [.t 102], none⟩,
  ⟨(some 104), (.aidx 1 200), [.t 10, .t 103], none⟩,
  ⟨(some 105), (.load 1 false), [.t 104], none⟩,
  ⟨(some 106), (.bin .neq), [.t 105, .c (.int .i64 0)], none⟩,
  ⟨(some 107), .mv, [.t 106], none⟩,
  ⟨(some 108), (.fld 2), [.t 15], (some (107, true))⟩,
  ⟨(some 109), (.load 1 false), [.t 108], (some (107, true))⟩,
  ⟨(some 110), (.aidx 1 200), [.t 10, .t 109], (some (107, true))⟩,
  ⟨(some 111), (.load 1 false), [.t 110], (some (107, true))⟩,
  ⟨(some 112), (.fld 1), [.t 13], (some (107, true))⟩,
  ⟨(some 113), (.load 1 false), [.t 112], (some (107, true))⟩,
  ⟨(some 114), (.bin .add), [.c (.int .i64 1), .t 113], (some (107, true))⟩,
  ⟨(some 115), (.bin .neq), [.t 111, .t 114], (some (107, true))⟩,
  ⟨(some 116), .pick, [.t 107, .t 115, .c (.bool false)], none⟩,
  ⟨(some 117), .mv, [.t 116], none⟩,
  ⟨(some 118), (.fld 3), [.t 15], (some (117, false))⟩,
  ⟨(some 119), (.load 1 false), [.t 118], (some (117, false))⟩,
  ⟨(some 120), (.fld 1), [.t 13], (some (117, false))⟩,
  ⟨(some 121), (.load 1 false), [.t 120], (some (117, false))⟩,
  ⟨(some 122), (.bin .neq), [.t 119, .t 121], (some (117, false))⟩,
  ⟨(some 123), .pick, [.t 117, .c (.bool true), .t 122], none⟩] [0, 1, 2, 4, 8, 16, 32, 96, 160, 288, 32, 1056, 2080, 4640, 8224, 16416, 32768, 98304, 32768, 294912, 688128, 1081344])
 (.cond (.t 123) (.seq (.reg [⟨(some 8), .mv, [.c (.bool false)], none⟩])
 .ret) .skip))
 (.reg [⟨(some 124), (.fld 2), [.t 15], none⟩,
  ⟨(some 125), (.load 1 false), [.t 124], none⟩,
  ⟨(some 126), (.fld 1), [.t 13], none⟩,
  ⟨(some 127), (.load 1 false), [.t 126], none⟩,
  ⟨(some 128), (.bin .add), [.c (.int .i64 1), .t 127], none⟩,
  ⟨(some 129), (.aidx 1 200), [.t 10, .t 125], none⟩,
  ⟨none, (.store 1), [.t 129, .t 128], none⟩]))) .skip))
 (.reg [⟨(some 130), (.load 15 true), [.t 15], none⟩,
  ⟨none, (.store 15), [.t 9, .t 130], none⟩])))))))))
 (.reg [⟨(some 31), .mv, [.t 11], none⟩,
  ⟨(some 32), (.bin .add), [.t 31, .c (.int .i64 1)], none⟩,
  ⟨(some 11), .mv, [.t 32], none⟩]))))))
 (.seq (.reg [⟨(some 131), (.call 26), [], none⟩,
  ⟨(some 8), .mv, [.t 131], none⟩])
 .ret)))))
theorem comp3 : compC Go.Proofs.Try.prog ttL 132 [10] (match Go.Proofs.Try.f3.body with | some b => b | none => .skip) = some (c3) := by kernel_rfl
def c22 : C := (.seq (.reg [⟨(some 6), (.alloc [.int .i64 0, .int .i64 0, .int .i64 0, .int .i64 0, .int .i64 0, .int .i64 0, .str ⟨#[]⟩, .sl tEntry [] true, .int .i64 0, .int .i64 0, .int .i64 0, .sl .bool [] true, .sl tI [] true, .sl tI [] true, .int .i64 0]), [], none⟩])
 (.seq (.reg [⟨(some 12), .mv, [.t 1], none⟩,
  ⟨(some 13), .mv, [.t 2], none⟩,
  ⟨(some 14), (.call 31), [.t 12, .t 13], none⟩,
  ⟨(some 7), (.alloc [.int .i64 0, .int .i64 0, .int .i64 0, .int .i64 0, .int .i64 0, .int .i64 0, .str ⟨#[]⟩, .sl tEntry [] true, .int .i64 0, .int .i64 0, .int .i64 0, .sl .bool [] true, .sl tI [] true, .sl tI [] true, .int .i64 0]), [], none⟩,
  ⟨none, (.store 15), [.t 7, .t 14], none⟩])
 (.seq (.seq (.reg [⟨(some 8), .mv, [.c (.int .i64 0)], none⟩])
 (.block 0 (.loop (.seq (.seq (.reg [⟨(some 15), .mv, [.t 8], none⟩,
  ⟨(some 16), .mv, [.t 0], none⟩,
  ⟨(some 17), .len, [.t 16], none⟩,
  ⟨(some 18), (.bin .lss), [.t 15, .t 17], none⟩,
  ⟨(some 19), .mv, [.t 18], none⟩,
  ⟨(some 20), .mv, [.t 8], (some (19, true))⟩,
  ⟨(some 21), (.bin .lss), [.t 20, .c (.int .i64 40)], (some (19, true))⟩,
  ⟨(some 22), .pick, [.t 19, .t 21, .c (.bool false)], none⟩])
 (.cond (.t 22) .skip (.exit 0)))
 (.seq (.block 1 (.seq (.reg [⟨(some 25), .mv, [.t 0], none⟩,
  ⟨(some 26), .mv, [.t 8], none⟩,
  ⟨(some 27), (.idx 1), [.t 25, .t 26], none⟩,
  ⟨(some 28), (.load 1 false), [.t 27], none⟩,
  ⟨(some 29), (.call 23), [.t 28, .c (.int .i64 1073741824)], none⟩,
  ⟨(some 9), .mv, [.t 29], none⟩])
 (.seq (.reg [⟨(some 30), (.load 15 true), [.t 7], none⟩,
  ⟨(some 31), (.call 30), [.t 30], none⟩,
  ⟨(some 10), .mv, [.t 31], none⟩])
 (.seq (.reg [⟨(some 32), .mv, [.t 9], none⟩,
  ⟨(some 33), (.bin .rem), [.t 32, .c (.int .i64 12)], none⟩])
 (.block 2 (.seq (.seq (.reg [⟨(some 48), (.bin .eql), [.t 33, .c (.int .i64 0)], none⟩,
  ⟨(some 47), .mv, [.t 48], none⟩])
 (.cond (.t 47) .skip (.reg [⟨(some 49), (.bin .eql), [.t 33, .c (.int .i64 1)], none⟩,
  ⟨(some 47), .mv, [.t 49], none⟩])))
 (.cond (.t 47) (.seq (.reg [⟨(some 50), (.fld 2), [.t 7], none⟩,
  ⟨(some 51), (.load 1 false), [.t 50], none⟩,
  ⟨(some 52), (.bin .add), [.t 51, .c (.int .i64 1)], none⟩,
  ⟨(some 53), (.fld 2), [.t 7], none⟩,
  ⟨none, (.store 1), [.t 53, .t 52], none⟩])
 (.reg [⟨(some 54), .mv, [.t 9], none⟩,
  ⟨(some 55), (.bin .quo), [.t 54, .c (.int .i64 12)], none⟩,
  ⟨(some 56), (.fld 1), [.t 7], none⟩,
  ⟨(some 57), (.load 1 false), [.t 56], none⟩,
  ⟨(some 58), (.bin .add), [.t 57, .c (.int .i64 1)], none⟩,
  ⟨(some 59), (.bin .rem), [.t 55, .t 58], none⟩,
  ⟨(some 60), (.bin .sub), [.t 59, .c (.int .i64 1)], none⟩,
  ⟨(some 61), (.fld 3), [.t 7], none⟩,
  ⟨none, (.store 1), [.t 61, .t 60], none⟩])) (.seq (.reg [⟨(some 63), (.bin .eql), [.t 33, .c (.int .i64 2)], none⟩,
  ⟨(some 62), .mv, [.t 63], none⟩])
 (.cond (.t 62) (.reg [⟨(some 64), (.fld 10), [.t 7], none⟩,
  ⟨(some 65), (.load 1 false), [.t 64], none⟩,
  ⟨(some 66), .mv, [.t 9], none⟩,
  ⟨(some 67), (.bin .quo), [.t 66, .c (.int .i64 12)], none⟩,
  ⟨(some 68), (.bin .rem), [.t 67, .c (.int .i64 5)], none⟩,
  ⟨(some 69), (.bin .add), [.t 65, .t 68], none⟩,
  ⟨(some 70), .mv, [.t 10], none⟩,
  ⟨(some 71), .mn, [.t 69, .t 70], none⟩,
  ⟨(some 72), (.fld 10), [.t 7], none⟩,
  ⟨none, (.store 1), [.t 72, .t 71], none⟩]) (.seq (.reg [⟨(some 74), (.bin .eql), [.t 33, .c (.int .i64 3)], none⟩,
  ⟨(some 73), .mv, [.t 74], none⟩])
 (.cond (.t 73) (.regd [⟨(some 75), (.load 15 true), [.t 7], none⟩,
  ⟨(some 76), (.fld 4), [.t 7], none⟩,
  ⟨(some 77), (.load 1 false), [.t 76], none⟩,
  ⟨(some 78), .mv, [.t 9], none⟩,
  ⟨(some 79), (.bin .quo), [.t 78, .c (.int .i64 12)], none⟩,
  ⟨(some 80), (.bin .rem), [.t 79, .c (.int .i64 4)], none⟩,
  ⟨(some 81), (.bin .add), [.t 77, .t 80], none⟩,
  ⟨(some 82), .mv, [.t 9], none⟩,
  ⟨(some 83), (.bin .quo), [.t 82, .c (.int .i64 12)], none⟩,
  ⟨(some 84), (.call 50), [.t 83], none⟩,
  ⟨(some 85), (.call 59), [.t 75, .t 81, .t 84], none⟩,
  ⟨none, (.store 15), [.t 7, .t 85], none⟩] [0, 0, 2, 0, 8, 16, 36, 0, 128, 256, 577, 2047]) (.seq (.reg [⟨(some 87), (.bin .eql), [.t 33, .c (.int .i64 4)], none⟩,
  ⟨(some 86), .mv, [.t 87], none⟩])
 (.cond (.t 86) (.seq (.regd [⟨(some 88), .mv, [.t 9], none⟩,
  ⟨(some 89), (.bin .quo), [.t 88, .c (.int .i64 12)], none⟩,
  ⟨(some 90), (.bin .rem), [.t 89, .c (.int .i64 3)], none⟩,
  ⟨(some 91), .mv, [.t 9], none⟩,
  ⟨(some 92), (.bin .quo), [.t 91, .c (.int .i64 36)], none⟩,
  ⟨(some 93), (.fld 1), [.t 7], none⟩,
  ⟨(some 94), (.load 1 false), [.t 93], none⟩,
  ⟨(some 95), (.bin .add), [.t 94, .c (.int .i64 1)], none⟩,
  ⟨(some 96), (.bin .rem), [.t 92, .t 95], none⟩,
  ⟨(some 97), (.bin .sub), [.t 96, .c (.int .i64 1)], none⟩,
  ⟨(some 98), (.fld 8), [.t 7], none⟩,
  ⟨none, (.store 1), [.t 98, .t 90], none⟩,
  ⟨(some 99), (.fld 9), [.t 7], none⟩,
  ⟨none, (.store 1), [.t 99, .t 97], none⟩] [0, 1, 2, 0, 8, 0, 32, 64, 144, 256, 103, 1127, 4095, 8191])
 (.seq (.reg [⟨(some 100), (.fld 11), [.t 7], none⟩,
  ⟨(some 101), (.load 1 false), [.t 100], none⟩,
  ⟨(some 102), (.app 1 1), [.c (.sl .bool [] true), .t 101], none⟩,
  ⟨(some 103), (.fld 11), [.t 7], none⟩,
  ⟨none, (.store 1), [.t 103, .t 102], none⟩])
 (.regd [⟨(some 104), (.fld 11), [.t 7], none⟩,
  ⟨(some 105), (.load 1 false), [.t 104], none⟩,
  ⟨(some 106), .mv, [.t 9], none⟩,
  ⟨(some 107), (.bin .quo), [.t 106, .c (.int .i64 200)], none⟩,
  ⟨(some 108), (.fld 1), [.t 7], none⟩,
  ⟨(some 109), (.load 1 false), [.t 108], none⟩,
  ⟨(some 110), (.bin .rem), [.t 107, .t 109], none⟩,
  ⟨(some 111), (.idx 1), [.t 105, .t 110], none⟩,
  ⟨none, (.store 1), [.t 111, .c (.bool true)], none⟩] [0, 1, 0, 4, 0, 16, 40, 127, 255]))) (.seq (.reg [⟨(some 113), (.bin .eql), [.t 33, .c (.int .i64 5)], none⟩,
  ⟨(some 112), .mv, [.t 113], none⟩])
 (.cond (.t 112) (.seq (.regd [⟨(some 114), (.fld 12), [.t 7], none⟩,
  ⟨(some 115), (.load 1 false), [.t 114], none⟩,
  ⟨(some 116), (.app 1 8), [.c (.sl tI [] true), .t 115], none⟩,
  ⟨(some 117), (.fld 13), [.t 7], none⟩,
  ⟨(some 118), (.load 1 false), [.t 117], none⟩,
  ⟨(some 119), (.app 1 8), [.c (.sl tI [] true), .t 118], none⟩,
  ⟨(some 120), (.fld 12), [.t 7], none⟩,
  ⟨none, (.store 1), [.t 120, .t 116], none⟩,
  ⟨(some 121), (.fld 13), [.t 7], none⟩,
  ⟨none, (.store 1), [.t 121, .t 119], none⟩] [0, 1, 2, 0, 8, 20, 31, 127, 255, 511])
 (.seq (.reg [⟨(some 122), .mv, [.t 9], none⟩,
  ⟨(some 123), (.bin .quo), [.t 122, .c (.int .i64 12)], none⟩,
  ⟨(some 124), (.fld 1), [.t 7], none⟩,
  ⟨(some 125), (.load 1 false), [.t 124], none⟩,
  ⟨(some 126), (.bin .rem), [.t 123, .t 125], none⟩,
  ⟨(some 11), .mv, [.t 126], none⟩])
 (.regd [⟨(some 127), (.fld 12), [.t 7], none⟩,
  ⟨(some 128), (.load 1 false), [.t 127], none⟩,
  ⟨(some 129), .mv, [.t 11], none⟩,
  ⟨(some 130), (.fld 13), [.t 7], none⟩,
  ⟨(some 131), (.load 1 false), [.t 130], none⟩,
  ⟨(some 132), .mv, [.t 11], none⟩,
  ⟨(some 133), .mv, [.t 9], none⟩,
  ⟨(some 134), (.bin .quo), [.t 133, .c (.int .i64 60)], none⟩,
  ⟨(some 135), .mv, [.t 10], none⟩,
  ⟨(some 136), (.bin .add), [.t 135, .c (.int .i64 2)], none⟩,
  ⟨(some 137), (.bin .rem), [.t 134, .t 136], none⟩,
  ⟨(some 138), (.bin .add), [.c (.int .i64 1), .t 137], none⟩,
  ⟨(some 139), .mv, [.t 9], none⟩,
  ⟨(some 140), (.bin .quo), [.t 139, .c (.int .i64 600)], none⟩,
  ⟨(some 141), .mv, [.t 10], none⟩,
  ⟨(some 142), (.bin .add), [.t 141, .c (.int .i64 1)], none⟩,
  ⟨(some 143), (.bin .rem), [.t 140, .t 142], none⟩,
  ⟨(some 144), (.idx 1), [.t 128, .t 129], none⟩,
  ⟨none, (.store 1), [.t 144, .t 138], none⟩,
  ⟨(some 145), (.idx 1), [.t 131, .t 132], none⟩,
  ⟨none, (.store 1), [.t 145, .t 143], none⟩] [0, 1, 0, 0, 8, 0, 0, 64, 0, 256, 640, 1024, 0, 4096, 0, 16384, 40960, 4039, 135111, 524287, 1048575]))) (.seq (.reg [⟨(some 147), (.bin .eql), [.t 33, .c (.int .i64 6)], none⟩,
  ⟨(some 146), .mv, [.t 147], none⟩])
 (.cond (.t 146) (.reg [⟨(some 148), .mv, [.t 9], none⟩,
  ⟨(some 149), (.bin .quo), [.t 148, .c (.int .i64 12)], none⟩,
  ⟨(some 150), (.bin .rem), [.t 149, .c (.int .i64 30)], none⟩,
  ⟨(some 151), (.fld 14), [.t 7], none⟩,
  ⟨none, (.store 1), [.t 151, .t 150], none⟩]) (.regd [⟨(some 34), (.fld 7), [.t 7], none⟩,
  ⟨(some 35), (.load 1 false), [.t 34], none⟩,
  ⟨(some 36), (.app 2 24), [.c (.sl tEntry [] true), .t 35], none⟩,
  ⟨(some 37), (.fld 2), [.t 7], none⟩,
  ⟨(some 38), (.load 1 false), [.t 37], none⟩,
  ⟨(some 39), .mv, [.t 9], none⟩,
  ⟨(some 40), (.bin .quo), [.t 39, .c (.int .i64 12)], none⟩,
  ⟨(some 41), (.bin .rem), [.t 40, .c (.int .i64 1000)], none⟩,
  ⟨(some 42), (.call 50), [.t 41], none⟩,
  ⟨(some 43), (.build [.int .i64 0, .str ⟨#[]⟩] [(0, 1), (1, 1)]), [.t 38, .t 42], none⟩,
  ⟨(some 44), (.bslice tEntry 1), [.t 43], none⟩,
  ⟨(some 45), (.app 2 24), [.t 36, .t 44], none⟩,
  ⟨(some 46), (.fld 7), [.t 7], none⟩,
  ⟨none, (.store 1), [.t 46, .t 45], none⟩] [0, 1, 2, 0, 8, 0, 32, 64, 132, 272, 512, 1284, 4095, 8191]))))))))))))))))))
 (.reg [⟨(some 23), .mv, [.t 8], none⟩,
  ⟨(some 24), (.bin .add), [.t 23, .c (.int .i64 1)], none⟩,
  ⟨(some 8), .mv, [.t 24], none⟩]))))))
 (.seq (.reg [⟨(some 152), (.load 15 true), [.t 7], none⟩,
  ⟨none, (.store 15), [.t 6, .t 152], none⟩])
 .ret))))
theorem comp22 : compC Go.Proofs.Try.prog ttL 153 [] (match Go.Proofs.Try.f22.body with | some b => b | none => .skip) = some (c22) := by kernel_rfl
def c23 : C := (.seq (.reg [⟨(some 4), .mv, [.c (.int .i64 0)], none⟩])
 (.seq (.reg [⟨(some 6), .mv, [.t 0], none⟩,
  ⟨(some 7), .mv, [.t 1], none⟩,
  ⟨(some 8), (.bin .rem), [.t 6, .t 7], none⟩,
  ⟨(some 5), .mv, [.t 8], none⟩])
 (.seq (.seq (.reg [⟨(some 9), .mv, [.t 5], none⟩,
  ⟨(some 10), (.bin .lss), [.t 9, .c (.int .i64 0)], none⟩])
 (.cond (.t 10) (.reg [⟨(some 11), .mv, [.t 5], none⟩,
  ⟨(some 12), .mv, [.t 1], none⟩,
  ⟨(some 13), (.bin .add), [.t 11, .t 12], none⟩,
  ⟨(some 5), .mv, [.t 13], none⟩]) .skip))
 (.seq (.reg [⟨(some 14), .mv, [.t 5], none⟩,
  ⟨(some 4), .mv, [.t 14], none⟩])
 .ret))))
theorem comp23 : compC Go.Proofs.Try.prog ttL 15 [] (match Go.Proofs.Try.f23.body with | some b => b | none => .skip) = some (c23) := by kernel_rfl
def c24 : C := (.seq (.reg [⟨(some 6), .box, [.t 2], none⟩,
  ⟨(some 8), (.alloc [.int .i64 0, .int .i64 0, .int .i64 0, .int .i64 0, .int .i64 0, .int .i64 0, .bool false, .int .i64 0, .sl tEntry [] true, .str ⟨#[]⟩]), [], none⟩])
 (.seq (.reg [⟨(some 15), .mv, [.t 0], none⟩,
  ⟨(some 16), (.call 23), [.t 15, .c (.int .i64 1073741824)], none⟩,
  ⟨(some 17), .mv, [.t 1], none⟩,
  ⟨(some 18), (.call 23), [.t 17, .c (.int .i64 1073741824)], none⟩,
  ⟨(some 9), .mv, [.t 16], none⟩,
  ⟨(some 10), .mv, [.t 18], none⟩])
 (.seq (.regd [⟨(some 19), .mv, [.t 9], none⟩,
  ⟨(some 20), (.bin .rem), [.t 19, .c (.int .i64 5)], none⟩,
  ⟨(some 21), (.bin .add), [.c (.int .i64 1), .t 20], none⟩,
  ⟨(some 22), (.fld 0), [.t 6], none⟩,
  ⟨(some 23), (.load 1 false), [.t 22], none⟩,
  ⟨(some 24), (.fld 0), [.t 6], none⟩,
  ⟨(some 25), (.load 1 false), [.t 24], none⟩,
  ⟨(some 26), (.bin .add), [.t 25, .c (.int .i64 1)], none⟩,
  ⟨(some 27), .mv, [.t 9], none⟩,
  ⟨(some 28), (.bin .quo), [.t 27, .c (.int .i64 5)], none⟩,
  ⟨(some 29), (.fld 1), [.t 6], none⟩,
  ⟨(some 30), (.load 1 false), [.t 29], none⟩,
  ⟨(some 31), (.bin .sub), [.t 30, .c (.int .i64 1)], none⟩,
  ⟨(some 32), .mx, [.t 31, .c (.int .i64 1)], none⟩,
  ⟨(some 33), (.bin .rem), [.t 28, .t 32], none⟩,
  ⟨(some 34), (.bin .add), [.t 26, .t 33], none⟩,
  ⟨(some 35), (.fld 1), [.t 6], none⟩,
  ⟨(some 36), (.load 1 false), [.t 35], none⟩,
  ⟨(some 37), (.bin .rem), [.t 34, .t 36], none⟩,
  ⟨(some 38), (.fld 2), [.t 6], none⟩,
  ⟨(some 39), (.load 1 false), [.t 38], none⟩,
  ⟨(some 40), (.bin .sub), [.t 39, .c (.int .i64 1)], none⟩,
  ⟨(some 41), .mv, [.t 9], none⟩,
  ⟨(some 42), (.bin .quo), [.t 41, .c (.int .i64 25)], none⟩,
  ⟨(some 43), (.bin .rem), [.t 42, .c (.int .i64 3)], none⟩,
  ⟨(some 44), (.bin .add), [.t 40, .t 43], none⟩,
  ⟨(some 45), .mx, [.t 44, .c (.int .i64 1)], none⟩,
  ⟨(some 46), (.build [.int .i64 0, .int .i64 0, .int .i64 0, .int .i64 0, .int .i64 0, .int .i64 0, .bool false, .int .i64 0, .sl tEntry [] true, .str ⟨#[]⟩] [(0, 1), (2, 1), (1, 1), (3, 1)]), [.t 21, .t 23, .t 37, .t 45], none⟩,
  ⟨(some 11), (.alloc [.int .i64 0, .int .i64 0, .int .i64 0, .int .i64 0, .int .i64 0, .int .i64 0, .bool false, .int .i64 0, .sl tEntry [] true, .str ⟨#[]⟩]), [], none⟩,
  ⟨none, (.store 10), [.t 11, .t 46], none⟩] [0, 1, 2, 0, 8, 0, 32, 64, 0, 256, 0, 1024, 2048, 4096, 8704, 16512, 0, 65536, 163840, 0, 524288, 1048576, 0, 4194304, 8388608, 18874368, 33554432, 67371028, 0, 536870911])
 (.seq (.reg [⟨(some 47), (.fld 4), [.t 6], none⟩,
  ⟨(some 48), (.load 1 false), [.t 47], none⟩,
  ⟨(some 49), (.fld 7), [.t 6], none⟩,
  ⟨(some 50), (.load 1 false), [.t 49], none⟩,
  ⟨(some 51), .len, [.t 50], none⟩,
  ⟨(some 52), (.bin .add), [.t 48, .t 51], none⟩,
  ⟨(some 12), .mv, [.t 52], none⟩])
 (.seq (.regd [⟨(some 53), .mv, [.t 12], none⟩,
  ⟨(some 54), (.bin .sub), [.t 53, .c (.int .i64 3)], none⟩,
  ⟨(some 55), .mv, [.t 10], none⟩,
  ⟨(some 56), (.bin .rem), [.t 55, .c (.int .i64 6)], none⟩,
  ⟨(some 57), (.bin .add), [.t 54, .t 56], none⟩,
  ⟨(some 58), .mx, [.t 57, .c (.int .i64 0)], none⟩,
  ⟨(some 59), (.fld 2), [.t 6], none⟩,
  ⟨(some 60), (.load 1 false), [.t 59], none⟩,
  ⟨(some 61), (.bin .sub), [.t 60, .c (.int .i64 1)], none⟩,
  ⟨(some 62), .mv, [.t 10], none⟩,
  ⟨(some 63), (.bin .quo), [.t 62, .c (.int .i64 6)], none⟩,
  ⟨(some 64), (.bin .rem), [.t 63, .c (.int .i64 3)], none⟩,
  ⟨(some 65), (.bin .add), [.t 61, .t 64], none⟩,
  ⟨(some 66), .mx, [.t 65, .c (.int .i64 0)], none⟩,
  ⟨(some 67), .mv, [.t 10], none⟩,
  ⟨(some 68), (.bin .quo), [.t 67, .c (.int .i64 18)], none⟩,
  ⟨(some 69), .mv, [.t 12], none⟩,
  ⟨(some 70), (.bin .add), [.t 69, .c (.int .i64 3)], none⟩,
  ⟨(some 71), (.bin .rem), [.t 68, .t 70], none⟩,
  ⟨(some 72), .mv, [.t 10], none⟩,
  ⟨(some 73), (.bin .quo), [.t 72, .c (.int .i64 900)], none⟩,
  ⟨(some 74), (.bin .rem), [.t 73, .c (.int .i64 3)], none⟩,
  ⟨(some 75), (.bin .gtr), [.t 74, .c (.int .i64 0)], none⟩,
  ⟨(some 76), (.fld 4), [.t 11], none⟩,
  ⟨none, (.store 1), [.t 76, .t 58], none⟩,
  ⟨(some 77), (.fld 5), [.t 11], none⟩,
  ⟨none, (.store 1), [.t 77, .t 66], none⟩,
  ⟨(some 78), (.fld 7), [.t 11], none⟩,
  ⟨none, (.store 1), [.t 78, .t 71], none⟩,
  ⟨(some 79), (.fld 6), [.t 11], none⟩,
  ⟨none, (.store 1), [.t 79, .t 75], none⟩] [0, 1, 0, 4, 10, 16, 0, 64, 128, 0, 512, 1024, 2304, 4096, 0, 16384, 0, 65536, 163840, 0, 524288, 1048576, 2097152, 63, 8388671, 25182207, 58736639, 126353407, 260571135, 536870911, 1073741823])
 (.seq (.seq (.reg [⟨(some 81), (.load 15 true), [.t 6], none⟩,
  ⟨(some 82), (.fld 4), [.t 11], none⟩,
  ⟨(some 83), (.load 1 false), [.t 82], none⟩,
  ⟨(some 84), (.call 29), [.t 81, .t 83], none⟩,
  ⟨(some 80), .mv, [.t 84], none⟩,
  ⟨(some 85), (.ext 0), [.t 80], none⟩,
  ⟨(some 86), (.ext 1), [.t 80], none⟩,
  ⟨(some 13), .mv, [.t 85], none⟩,
  ⟨(some 14), .mv, [.t 86], none⟩])
 (.seq (.reg [⟨(some 87), .mv, [.t 14], none⟩,
  ⟨(some 88), .mv, [.t 87], none⟩,
  ⟨(some 89), .mv, [.t 10], (some (88, true))⟩,
  ⟨(some 90), (.bin .quo), [.t 89, .c (.int .i64 2700)], (some (88, true))⟩,
  ⟨(some 91), (.bin .rem), [.t 90, .c (.int .i64 2)], (some (88, true))⟩,
  ⟨(some 92), (.bin .eql), [.t 91, .c (.int .i64 0)], (some (88, true))⟩,
  ⟨(some 93), .pick, [.t 88, .t 92, .c (.bool false)], none⟩])
 (.cond (.t 93) (.reg [⟨(some 94), .mv, [.t 13], none⟩,
  ⟨(some 95), (.fld 5), [.t 11], none⟩,
  ⟨none, (.store 1), [.t 95, .t 94], none⟩]) .skip)))
 (.seq (.seq (.reg [⟨(some 96), (.fld 0), [.t 11], none⟩,
  ⟨(some 97), (.load 1 false), [.t 96], none⟩,
  ⟨(some 98), (.bin .eql), [.t 97, .c (.int .i64 3)], none⟩])
 (.cond (.t 98) (.reg [⟨(some 99), .mv, [.t 3], none⟩,
  ⟨(some 100), (.fld 3), [.t 11], none⟩,
  ⟨(some 101), (.load 1 false), [.t 100], none⟩,
  ⟨(some 102), (.call 35), [.t 99, .t 101], none⟩,
  ⟨(some 103), (.fld 8), [.t 11], none⟩,
  ⟨none, (.store 1), [.t 103, .t 102], none⟩]) .skip))
 (.seq (.seq (.reg [⟨(some 104), (.fld 0), [.t 11], none⟩,
  ⟨(some 105), (.load 1 false), [.t 104], none⟩,
  ⟨(some 106), (.bin .eql), [.t 105, .c (.int .i64 5)], none⟩])
 (.cond (.t 106) (.reg [⟨(some 107), .mv, [.t 10], none⟩,
  ⟨(some 108), (.bin .rem), [.t 107, .c (.int .i64 100)], none⟩,
  ⟨(some 109), (.call 50), [.t 108], none⟩,
  ⟨(some 110), (.bin .add), [.c (.str ⟨#[115, 110, 97, 112]⟩), .t 109], none⟩,
  ⟨(some 111), (.fld 9), [.t 11], none⟩,
  ⟨none, (.store 1), [.t 111, .t 110], none⟩]) .skip))
 (.seq (.reg [⟨(some 112), (.load 10 true), [.t 11], none⟩,
  ⟨none, (.store 10), [.t 8, .t 112], none⟩])
 .ret)))))))))
theorem comp24 : compC Go.Proofs.Try.prog ttL 113 [] (match Go.Proofs.Try.f24.body with | some b => b | none => .skip) = some (c24) := by kernel_rfl
def c25 : C := (.seq (.reg [⟨(some 2), .box, [.t 0], none⟩,
  ⟨(some 3), .box, [.t 1], none⟩,
  ⟨(some 4), (.alloc [.int .i64 0, .int .i64 0, .int .i64 0, .int .i64 0, .int .i64 0, .int .i64 0, .str ⟨#[]⟩, .sl tEntry [] true, .int .i64 0, .int .i64 0, .int .i64 0, .sl .bool [] true, .sl tI [] true, .sl tI [] true, .int .i64 0]), [], none⟩,
  ⟨(some 5), .mv, [.c (.sl tMsg [] true)], none⟩])
 (.seq (.reg [⟨(some 11), (.load 15 true), [.t 2], none⟩,
  ⟨(some 12), (.fld 3), [.t 3], none⟩,
  ⟨(some 13), (.load 1 false), [.t 12], none⟩,
  ⟨(some 14), (.call 32), [.t 11, .t 13], none⟩,
  ⟨none, (.store 15), [.t 2, .t 14], none⟩])
 (.seq (.reg [⟨(some 15), (.load 15 true), [.t 2], none⟩,
  ⟨(some 16), (.call 52), [.t 15], none⟩,
  ⟨(some 6), .mv, [.t 16], none⟩])
 (.seq (.reg [⟨(some 18), (.load 15 true), [.t 2], none⟩,
  ⟨(some 19), .mv, [.t 6], none⟩,
  ⟨(some 20), (.call 48), [.t 18, .t 19], none⟩,
  ⟨(some 17), .mv, [.t 20], none⟩,
  ⟨(some 21), (.ext 0), [.t 17], none⟩,
  ⟨(some 22), (.ext 1), [.t 17], none⟩,
  ⟨(some 7), .mv, [.t 21], none⟩,
  ⟨(some 8), .mv, [.t 22], none⟩])
 (.seq (.reg [⟨(some 23), (.fld 5), [.t 3], none⟩,
  ⟨(some 24), (.load 1 false), [.t 23], none⟩,
  ⟨(some 25), .mv, [.t 7], none⟩,
  ⟨(some 26), (.bin .gtr), [.t 24, .t 25], none⟩,
  ⟨(some 27), .mv, [.t 26], none⟩,
  ⟨(some 28), (.fld 5), [.t 3], (some (27, false))⟩,
  ⟨(some 29), (.load 1 false), [.t 28], (some (27, false))⟩,
  ⟨(some 30), .mv, [.t 7], (some (27, false))⟩,
  ⟨(some 31), (.bin .eql), [.t 29, .t 30], (some (27, false))⟩,
  ⟨(some 32), .mv, [.t 31], (some (27, false))⟩,
  ⟨(some 33), (.fld 4), [.t 3], (some (32, true))⟩,
  ⟨(some 34), (.load 1 false), [.t 33], (some (32, true))⟩,
  ⟨(some 35), .mv, [.t 6], (some (32, true))⟩,
  ⟨(some 36), (.bin .geq), [.t 34, .t 35], (some (32, true))⟩,
  ⟨(some 37), .pick, [.t 32, .t 36, .c (.bool false)], (some (27, false))⟩,
  ⟨(some 38), .pick, [.t 27, .c (.bool true), .t 37], none⟩,
  ⟨(some 9), .mv, [.t 38], none⟩])
 (.seq (.reg [⟨(some 39), (.fld 3), [.t 3], none⟩,
  ⟨(some 40), (.load 1 false), [.t 39], none⟩,
  ⟨(some 41), (.fld 2), [.t 2], none⟩,
  ⟨(some 42), (.load 1 false), [.t 41], none⟩,
  ⟨(some 43), (.bin .eql), [.t 40, .t 42], none⟩,
  ⟨(some 44), .mv, [.t 43], none⟩,
  ⟨(some 45), (.fld 3), [.t 2], (some (44, true))⟩,
  ⟨(some 46), (.load 1 false), [.t 45], (some (44, true))⟩,
  ⟨(some 47), (.bin .eql), [.t 46, .c (.int .i64 (-1))], (some (44, true))⟩,
  ⟨(some 48), .mv, [.t 47], (some (44, true))⟩,
  ⟨(some 49), (.fld 3), [.t 2], (some (48, false))⟩,
  ⟨(some 50), (.load 1 false), [.t 49], (some (48, false))⟩,
  ⟨(some 51), (.fld 1), [.t 3], (some (48, false))⟩,
  ⟨(some 52), (.load 1 false), [.t 51], (some (48, false))⟩,
  ⟨(some 53), (.bin .eql), [.t 50, .t 52], (some (48, false))⟩,
  ⟨(some 54), .pick, [.t 48, .c (.bool true), .t 53], (some (44, true))⟩,
  ⟨(some 55), .pick, [.t 44, .t 54, .c (.bool false)], none⟩,
  ⟨(some 56), .mv, [.t 55], none⟩,
  ⟨(some 57), .mv, [.t 9], (some (56, true))⟩,
  ⟨(some 58), .pick, [.t 56, .t 57, .c (.bool false)], none⟩,
  ⟨(some 10), .mv, [.t 58], none⟩])
 (.seq (.seq (.reg [⟨(some 59), .mv, [.t 10], none⟩])
 (.cond (.t 59) (.reg [⟨(some 60), (.fld 1), [.t 3], none⟩,
  ⟨(some 61), (.load 1 false), [.t 60], none⟩,
  ⟨(some 62), (.fld 3), [.t 2], none⟩,
  ⟨none, (.store 1), [.t 62, .t 61], none⟩,
  ⟨(some 63), (.fld 14), [.t 2], none⟩,
  ⟨none, (.store 1), [.t 63, .c (.int .i64 0)], none⟩]) .skip))
 (.seq (.regd [⟨(some 64), (.load 15 true), [.t 2], none⟩,
  ⟨(some 65), (.fld 0), [.t 2], none⟩,
  ⟨(some 66), (.load 1 false), [.t 65], none⟩,
  ⟨(some 67), (.fld 1), [.t 3], none⟩,
  ⟨(some 68), (.load 1 false), [.t 67], none⟩,
  ⟨(some 69), (.fld 2), [.t 2], none⟩,
  ⟨(some 70), (.load 1 false), [.t 69], none⟩,
  ⟨(some 71), .mv, [.t 10], none⟩,
  ⟨(some 72), (.build [.int .i64 0, .int .i64 0, .int .i64 0, .int .i64 0, .int .i64 0, .int .i64 0, .bool false, .int .i64 0, .sl tEntry [] true, .str ⟨#[]⟩] [(0, 1), (1, 1), (2, 1), (3, 1), (6, 1)]), [.c (.int .i64 2), .t 66, .t 68, .t 70, .t 71], none⟩,
  ⟨(some 73), (.bslice tMsg 1), [.t 72], none⟩,
  ⟨none, (.store 15), [.t 4, .t 64], none⟩,
  ⟨(some 5), .mv, [.t 73], none⟩] [0, 0, 2, 0, 8, 0, 32, 0, 212, 256, 1, 2047])
 .ret))))))))
theorem comp25 : compC Go.Proofs.Try.prog ttL 74 [] (match Go.Proofs.Try.f25.body with | some b => b | none => .skip) = some (c25) := by kernel_rfl
def c26 : C := (.seq (.reg [⟨(some 0), .mv, [.c (.bool false)], none⟩])
 (.seq (.reg [⟨(some 6), (.call 31), [.c (.int .i64 0), .c (.int .i64 3)], none⟩,
  ⟨(some 7), (.call 27), [.t 6], none⟩,
  ⟨(some 5), .mv, [.t 7], none⟩,
  ⟨(some 8), (.ext 0), [.t 5], none⟩,
  ⟨(some 9), (.ext 1), [.t 5], none⟩,
  ⟨(some 1), (.alloc [.int .i64 0, .int .i64 0, .int .i64 0, .int .i64 0, .int .i64 0, .int .i64 0, .str ⟨#[]⟩, .sl tEntry [] true, .int .i64 0, .int .i64 0, .int .i64 0, .sl .bool [] true, .sl tI [] true, .sl tI [] true, .int .i64 0]), [], none⟩,
  ⟨none, (.store 15), [.t 1, .t 8], none⟩,
  ⟨(some 2), .mv, [.t 9], none⟩])
 (.seq (.reg [⟨(some 11), (.call 31), [.c (.int .i64 1), .c (.int .i64 3)], none⟩,
  ⟨(some 12), .mv, [.t 2], none⟩,
  ⟨(some 13), (.call 28), [.t 12], none⟩,
  ⟨(some 14), (.call 25), [.t 11, .t 13], none⟩,
  ⟨(some 10), .mv, [.t 14], none⟩,
  ⟨(some 15), (.ext 0), [.t 10], none⟩,
  ⟨(some 16), (.ext 1), [.t 10], none⟩,
  ⟨(some 3), (.alloc [.int .i64 0, .int .i64 0, .int .i64 0, .int .i64 0, .int .i64 0, .int .i64 0, .str ⟨#[]⟩, .sl tEntry [] true, .int .i64 0, .int .i64 0, .int .i64 0, .sl .bool [] true, .sl tI [] true, .sl tI [] true, .int .i64 0]), [], none⟩,
  ⟨none, (.store 15), [.t 3, .t 15], none⟩,
  ⟨(some 4), .mv, [.t 16], none⟩])
 (.seq (.reg [⟨(some 17), .mv, [.t 2], none⟩,
  ⟨(some 18), .len, [.t 17], none⟩,
  ⟨(some 19), (.bin .eql), [.t 18, .c (.int .i64 2)], none⟩,
  ⟨(some 20), .mv, [.t 19], none⟩,
  ⟨(some 21), (.fld 2), [.t 1], (some (20, true))⟩,
  ⟨(some 22), (.load 1 false), [.t 21], (some (20, true))⟩,
  ⟨(some 23), (.bin .eql), [.t 22, .c (.int .i64 1)], (some (20, true))⟩,
  ⟨(some 24), .pick, [.t 20, .t 23, .c (.bool false)], none⟩,
  ⟨(some 25), .mv, [.t 24], none⟩,
  ⟨(some 26), (.fld 3), [.t 1], (some (25, true))⟩,
  ⟨(some 27), (.load 1 false), [.t 26], (some (25, true))⟩,
  ⟨(some 28), (.bin .eql), [.t 27, .c (.int .i64 0)], (some (25, true))⟩,
  ⟨(some 29), .pick, [.t 25, .t 28, .c (.bool false)], none⟩,
  ⟨(some 30), .mv, [.t 29], none⟩,
  ⟨(some 31), (.fld 3), [.t 3], (some (30, true))⟩,
  ⟨(some 32), (.load 1 false), [.t 31], (some (30, true))⟩,
  ⟨(some 33), (.bin .eql), [.t 32, .c (.int .i64 0)], (some (30, true))⟩,
  ⟨(some 34), .pick, [.t 30, .t 33, .c (.bool false)], none⟩,
  ⟨(some 35), .mv, [.t 34], none⟩,
  ⟨(some 36), .mv, [.t 4], (some (35, true))⟩,
  ⟨(some 37), .len, [.t 36], (some (35, true))⟩,
  ⟨(some 38), (.bin .eql), [.t 37, .c (.int .i64 1)], (some (35, true))⟩,
  ⟨(some 39), .pick, [.t 35, .t 38, .c (.bool false)], none⟩,
  ⟨(some 40), .mv, [.t 39], none⟩,
  ⟨(some 41), .mv, [.t 4], (some (40, true))⟩,
  ⟨(some 42), (.idx 10), [.t 41, .c (.int .i64 0)], (some (40, true))⟩,
  ⟨(some 43), (.fld 6), [.t 42], (some (40, true))⟩,
  ⟨(some 44), (.load 1 false), [.t 43], (some (40, true))⟩,
  ⟨(some 45), .pick, [.t 40, .t 44, .c (.bool false)], none⟩,
  ⟨(some 46), .mv, [.t 45], none⟩,
  ⟨(some 47), (.load 15 true), [.t 1], (some (46, true))⟩,
  ⟨(some 48), (.call 44), [.t 47], (some (46, true))⟩,
  ⟨(some 49), (.bin .eql), [.t 48, .c (.int .i64 2)], (some (46, true))⟩,
  ⟨(some 50), .pick, [.t 46, .t 49, .c (.bool false)], none⟩,
  ⟨(some 0), .mv, [.t 50], none⟩])
 .ret))))
theorem comp26 : compC Go.Proofs.Try.prog ttL 51 [] (match Go.Proofs.Try.f26.body with | some b => b | none => .skip) = some (c26) := by kernel_rfl
def c27 : C := (.seq (.reg [⟨(some 1), .box, [.t 0], none⟩,
  ⟨(some 2), (.alloc [.int .i64 0, .int .i64 0, .int .i64 0, .int .i64 0, .int .i64 0, .int .i64 0, .str ⟨#[]⟩, .sl tEntry [] true, .int .i64 0, .int .i64 0, .int .i64 0, .sl .bool [] true, .sl tI [] true, .sl tI [] true, .int .i64 0]), [], none⟩,
  ⟨(some 3), .mv, [.c (.sl tMsg [] true)], none⟩])
 (.seq (.reg [⟨(some 9), (.fld 2), [.t 1], none⟩,
  ⟨(some 10), (.load 1 false), [.t 9], none⟩,
  ⟨(some 11), (.bin .add), [.t 10, .c (.int .i64 1)], none⟩,
  ⟨(some 12), (.fld 2), [.t 1], none⟩,
  ⟨none, (.store 1), [.t 12, .t 11], none⟩])
 (.seq (.reg [⟨(some 13), (.fld 0), [.t 1], none⟩,
  ⟨(some 14), (.load 1 false), [.t 13], none⟩,
  ⟨(some 15), (.fld 8), [.t 1], none⟩,
  ⟨none, (.store 1), [.t 15, .c (.int .i64 1)], none⟩,
  ⟨(some 16), (.fld 9), [.t 1], none⟩,
  ⟨none, (.store 1), [.t 16, .c (.int .i64 (-1))], none⟩,
  ⟨(some 17), (.fld 14), [.t 1], none⟩,
  ⟨none, (.store 1), [.t 17, .c (.int .i64 0)], none⟩,
  ⟨(some 18), (.fld 3), [.t 1], none⟩,
  ⟨none, (.store 1), [.t 18, .t 14], none⟩])
 (.seq (.reg [⟨(some 19), (.load 15 true), [.t 1], none⟩,
  ⟨(some 20), (.call 91), [.t 19], none⟩,
  ⟨none, (.store 15), [.t 1, .t 20], none⟩])
 (.seq (.reg [⟨(some 21), (.load 15 true), [.t 1], none⟩,
  ⟨(some 22), (.call 52), [.t 21], none⟩,
  ⟨(some 4), .mv, [.t 22], none⟩])
 (.seq (.reg [⟨(some 24), (.load 15 true), [.t 1], none⟩,
  ⟨(some 25), .mv, [.t 4], none⟩,
  ⟨(some 26), (.call 48), [.t 24, .t 25], none⟩,
  ⟨(some 23), .mv, [.t 26], none⟩,
  ⟨(some 27), (.ext 0), [.t 23], none⟩,
  ⟨(some 28), (.ext 1), [.t 23], none⟩,
  ⟨(some 5), .mv, [.t 27], none⟩,
  ⟨(some 6), .mv, [.t 28], none⟩])
 (.seq (.reg [⟨(some 7), .mv, [.c (.sl tMsg [] true)], none⟩])
 (.seq (.seq (.reg [⟨(some 29), (.fld 11), [.t 1], none⟩,
  ⟨(some 30), (.load 1 false), [.t 29], none⟩,
  ⟨(some 31), .len, [.t 30], none⟩,
  ⟨(some 32), .mv, [.c (.int .i64 0)], none⟩])
 (.block 0 (.loop (.seq (.reg [⟨(some 33), (.bin .lss), [.t 32, .t 31], none⟩])
 (.seq (.cond (.t 33) .skip (.exit 0))
 (.seq (.block 1 (.seq (.reg [⟨(some 34), .mv, [.t 32], none⟩,
  ⟨(some 8), .mv, [.t 34], none⟩])
 (.seq (.reg [⟨(some 35), .mv, [.t 8], none⟩,
  ⟨(some 36), (.fld 0), [.t 1], none⟩,
  ⟨(some 37), (.load 1 false), [.t 36], none⟩,
  ⟨(some 38), (.bin .neq), [.t 35, .t 37], none⟩])
 (.cond (.t 38) (.reg [⟨(some 39), .mv, [.t 7], none⟩,
  ⟨(some 40), (.fld 0), [.t 1], none⟩,
  ⟨(some 41), (.load 1 false), [.t 40], none⟩,
  ⟨(some 42), .mv, [.t 8], none⟩,
  ⟨(some 43), (.fld 2), [.t 1], none⟩,
  ⟨(some 44), (.load 1 false), [.t 43], none⟩,
  ⟨(some 45), .mv, [.t 4], none⟩,
  ⟨(some 46), .mv, [.t 5], none⟩,
  ⟨(some 47), (.build [.int .i64 0, .int .i64 0, .int .i64 0, .int .i64 0, .int .i64 0, .int .i64 0, .bool false, .int .i64 0, .sl tEntry [] true, .str ⟨#[]⟩] [(0, 1), (1, 1), (2, 1), (3, 1), (4, 1), (5, 1)]), [.c (.int .i64 1), .t 41, .t 42, .t 44, .t 45, .t 46], none⟩,
  ⟨(some 48), (.bslice tMsg 1), [.t 47], none⟩,
  ⟨(some 49), (.app 10 104), [.t 39, .t 48], none⟩,
  ⟨(some 7), .mv, [.t 49], none⟩]) .skip))))
 (.reg [⟨(some 50), (.bin .add), [.t 32, .c (.int .i64 1)], none⟩,
  ⟨(some 32), .mv, [.t 50], none⟩])))))))
 (.seq (.reg [⟨(some 51), (.load 15 true), [.t 1], none⟩,
  ⟨(some 52), .mv, [.t 7], none⟩,
  ⟨none, (.store 15), [.t 2, .t 51], none⟩,
  ⟨(some 3), .mv, [.t 52], none⟩])
 .ret)))))))))
theorem comp27 : compC Go.Proofs.Try.prog ttL 53 [] (match Go.Proofs.Try.f27.body with | some b => b | none => .skip) = some (c27) := by kernel_rfl
def c28 : C := (.seq (.reg [⟨(some 2), (.alloc [.int .i64 0, .int .i64 0, .int .i64 0, .int .i64 0, .int .i64 0, .int .i64 0, .bool false, .int .i64 0, .sl tEntry [] true, .str ⟨#[]⟩]), [], none⟩])
 (.seq (.seq (.reg [⟨(some 3), .mv, [.t 0], none⟩,
  ⟨(some 4), .len, [.t 3], none⟩,
  ⟨(some 5), (.bin .eql), [.t 4, .c (.int .i64 0)], none⟩])
 (.cond (.t 5) (.seq (.reg [⟨(some 6), (.build [.int .i64 0, .int .i64 0, .int .i64 0, .int .i64 0, .int .i64 0, .int .i64 0, .bool false, .int .i64 0, .sl tEntry [] true, .str ⟨#[]⟩] []), [], none⟩,
  ⟨none, (.store 10), [.t 2, .t 6], none⟩])
 .ret) .skip))
 (.seq (.reg [⟨(some 7), .mv, [.t 0], none⟩,
  ⟨(some 8), (.idx 10), [.t 7, .c (.int .i64 0)], none⟩,
  ⟨(some 9), (.load 10 true), [.t 8], none⟩,
  ⟨none, (.store 10), [.t 2, .t 9], none⟩])
 .ret)))
theorem comp28 : compC Go.Proofs.Try.prog ttL 10 [] (match Go.Proofs.Try.f28.body with | some b => b | none => .skip) = some (c28) := by kernel_rfl
def c29 : C := (.seq (.reg [⟨(some 2), .box, [.t 0], none⟩,
  ⟨(some 4), .mv, [.c (.int .i64 0)], none⟩,
  ⟨(some 5), .mv, [.c (.bool false)], none⟩])
 (.seq (.block 0 (.seq (.reg [⟨(some 7), .mv, [.t 1], none⟩,
  ⟨(some 8), (.fld 4), [.t 2], none⟩,
  ⟨(some 9), (.load 1 false), [.t 8], none⟩,
  ⟨(some 10), (.bin .eql), [.t 7, .t 9], none⟩,
  ⟨(some 6), .mv, [.t 10], none⟩])
 (.cond (.t 6) (.seq (.reg [⟨(some 11), (.fld 5), [.t 2], none⟩,
  ⟨(some 12), (.load 1 false), [.t 11], none⟩,
  ⟨(some 4), .mv, [.t 12], none⟩,
  ⟨(some 5), .mv, [.c (.bool true)], none⟩])
 .ret) (.seq (.reg [⟨(some 14), .mv, [.t 1], none⟩,
  ⟨(some 15), (.fld 4), [.t 2], none⟩,
  ⟨(some 16), (.load 1 false), [.t 15], none⟩,
  ⟨(some 17), (.bin .lss), [.t 14, .t 16], none⟩,
  ⟨(some 18), .mv, [.t 17], none⟩,
  ⟨(some 19), .mv, [.t 1], (some (18, false))⟩,
  ⟨(some 20), (.load 15 true), [.t 2], (some (18, false))⟩,
  ⟨(some 21), (.call 30), [.t 20], (some (18, false))⟩,
  ⟨(some 22), (.bin .gtr), [.t 19, .t 21], (some (18, false))⟩,
  ⟨(some 23), .pick, [.t 18, .c (.bool true), .t 22], none⟩,
  ⟨(some 13), .mv, [.t 23], none⟩])
 (.cond (.t 13) (.seq (.reg [⟨(some 4), .mv, [.c (.int .i64 0)], none⟩,
  ⟨(some 5), .mv, [.c (.bool false)], none⟩])
 .ret) .skip)))))
 (.seq (.reg [⟨(some 24), (.fld 7), [.t 2], none⟩,
  ⟨(some 25), (.load 1 false), [.t 24], none⟩,
  ⟨(some 26), .mv, [.t 1], none⟩,
  ⟨(some 27), (.fld 4), [.t 2], none⟩,
  ⟨(some 28), (.load 1 false), [.t 27], none⟩,
  ⟨(some 29), (.bin .sub), [.t 26, .t 28], none⟩,
  ⟨(some 30), (.bin .sub), [.t 29, .c (.int .i64 1)], none⟩,
  ⟨(some 31), (.idx 2), [.t 25, .t 30], none⟩,
  ⟨(some 32), (.fld 0), [.t 31], none⟩,
  ⟨(some 33), (.load 1 false), [.t 32], none⟩,
  ⟨(some 4), .mv, [.t 33], none⟩,
  ⟨(some 5), .mv, [.c (.bool true)], none⟩])
 .ret)))
theorem comp29 : compC Go.Proofs.Try.prog ttL 34 [] (match Go.Proofs.Try.f29.body with | some b => b | none => .skip) = some (c29) := by kernel_rfl
def c30 : C := (.seq (.reg [⟨(some 1), .box, [.t 0], none⟩,
  ⟨(some 2), .mv, [.c (.int .i64 0)], none⟩])
 (.seq (.reg [⟨(some 3), (.fld 4), [.t 1], none⟩,
  ⟨(some 4), (.load 1 false), [.t 3], none⟩,
  ⟨(some 5), (.fld 7), [.t 1], none⟩,
  ⟨(some 6), (.load 1 false), [.t 5], none⟩,
  ⟨(some 7), .len, [.t 6], none⟩,
  ⟨(some 8), (.bin .add), [.t 4, .t 7], none⟩,
  ⟨(some 2), .mv, [.t 8], none⟩])
 .ret))
theorem comp30 : compC Go.Proofs.Try.prog ttL 9 [] (match Go.Proofs.Try.f30.body with | some b => b | none => .skip) = some (c30) := by kernel_rfl
def c31 : C := (.seq (.reg [⟨(some 4), (.alloc [.int .i64 0, .int .i64 0, .int .i64 0, .int .i64 0, .int .i64 0, .int .i64 0, .str ⟨#[]⟩, .sl tEntry [] true, .int .i64 0, .int .i64 0, .int .i64 0, .sl .bool [] true, .sl tI [] true, .sl tI [] true, .int .i64 0]), [], none⟩])
 (.seq (.reg [⟨(some 8), .mv, [.t 1], none⟩,
  ⟨(some 9), .mx, [.t 8, .c (.int .i64 1)], none⟩,
  ⟨(some 10), .mn, [.t 9, .c (.int .i64 5)], none⟩,
  ⟨(some 5), .mv, [.t 10], none⟩])
 (.seq (.regd [⟨(some 11), .mv, [.t 0], none⟩,
  ⟨(some 12), .mx, [.t 11, .c (.int .i64 0)], none⟩,
  ⟨(some 13), .mv, [.t 5], none⟩,
  ⟨(some 14), (.bin .sub), [.t 13, .c (.int .i64 1)], none⟩,
  ⟨(some 15), .mn, [.t 12, .t 14], none⟩,
  ⟨(some 16), .mv, [.t 5], none⟩,
  ⟨(some 17), .mv, [.t 5], none⟩,
  ⟨(some 18), (.mks .bool 1), [.t 17, .t 17], none⟩,
  ⟨(some 19), .mv, [.t 5], none⟩,
  ⟨(some 20), (.mks tI 8), [.t 19, .t 19], none⟩,
  ⟨(some 21), .mv, [.t 5], none⟩,
  ⟨(some 22), (.mks tI 8), [.t 21, .t 21], none⟩,
  ⟨(some 23), (.build [.int .i64 0, .int .i64 0, .int .i64 0, .int .i64 0, .int .i64 0, .int .i64 0, .str ⟨#[]⟩, .sl tEntry [] true, .int .i64 0, .int .i64 0, .int .i64 0, .sl .bool [] true, .sl tI [] true, .sl tI [] true, .int .i64 0] [(0, 1), (1, 1), (3, 1), (9, 1), (11, 1), (12, 1), (13, 1)]), [.t 15, .t 16, .c (.int .i64 (-1)), .c (.int .i64 (-1)), .t 18, .t 20, .t 22], none⟩,
  ⟨(some 6), (.alloc [.int .i64 0, .int .i64 0, .int .i64 0, .int .i64 0, .int .i64 0, .int .i64 0, .str ⟨#[]⟩, .sl tEntry [] true, .int .i64 0, .int .i64 0, .int .i64 0, .sl .bool [] true, .sl tI [] true, .sl tI [] true, .int .i64 0]), [], none⟩,
  ⟨none, (.store 15), [.t 6, .t 23], none⟩] [0, 1, 0, 4, 10, 0, 0, 64, 0, 256, 0, 1024, 2736, 0, 16383])
 (.seq (.seq (.reg [⟨(some 7), .mv, [.c (.int .i64 0)], none⟩])
 (.block 0 (.loop (.seq (.seq (.reg [⟨(some 24), .mv, [.t 7], none⟩,
  ⟨(some 25), .mv, [.t 5], none⟩,
  ⟨(some 26), (.bin .lss), [.t 24, .t 25], none⟩])
 (.cond (.t 26) .skip (.exit 0)))
 (.seq (.block 1 (.reg [⟨(some 29), (.fld 12), [.t 6], none⟩,
  ⟨(some 30), (.load 1 false), [.t 29], none⟩,
  ⟨(some 31), .mv, [.t 7], none⟩,
  ⟨(some 32), (.idx 1), [.t 30, .t 31], none⟩,
  ⟨none, (.store 1), [.t 32, .c (.int .i64 1)], none⟩]))
 (.reg [⟨(some 27), .mv, [.t 7], none⟩,
  ⟨(some 28), (.bin .add), [.t 27, .c (.int .i64 1)], none⟩,
  ⟨(some 7), .mv, [.t 28], none⟩]))))))
 (.seq (.reg [⟨(some 33), (.load 15 true), [.t 6], none⟩,
  ⟨none, (.store 15), [.t 4, .t 33], none⟩])
 .ret)))))
theorem comp31 : compC Go.Proofs.Try.prog ttL 34 [] (match Go.Proofs.Try.f31.body with | some b => b | none => .skip) = some (c31) := by kernel_rfl
def c32 : C := (.seq (.reg [⟨(some 2), .box, [.t 0], none⟩,
  ⟨(some 4), (.alloc [.int .i64 0, .int .i64 0, .int .i64 0, .int .i64 0, .int .i64 0, .int .i64 0, .str ⟨#[]⟩, .sl tEntry [] true, .int .i64 0, .int .i64 0, .int .i64 0, .sl .bool [] true, .sl tI [] true, .sl tI [] true, .int .i64 0]), [], none⟩])
 (.seq (.seq (.reg [⟨(some 5), .mv, [.t 1], none⟩,
  ⟨(some 6), (.fld 2), [.t 2], none⟩,
  ⟨(some 7), (.load 1 false), [.t 6], none⟩,
  ⟨(some 8), (.bin .gtr), [.t 5, .t 7], none⟩])
 (.cond (.t 8) (.reg [⟨(some 9), .mv, [.t 1], none⟩,
  ⟨(some 10), (.load 15 true), [.t 2], none⟩,
  ⟨(some 11), (.call 92), [.t 10], none⟩,
  ⟨(some 12), (.fld 2), [.t 2], none⟩,
  ⟨none, (.store 1), [.t 12, .t 9], none⟩,
  ⟨(some 13), (.fld 3), [.t 2], none⟩,
  ⟨none, (.store 1), [.t 13, .c (.int .i64 (-1))], none⟩,
  ⟨(some 14), (.fld 9), [.t 2], none⟩,
  ⟨none, (.store 1), [.t 14, .c (.int .i64 (-1))], none⟩,
  ⟨(some 15), (.fld 8), [.t 2], none⟩,
  ⟨none, (.store 1), [.t 15, .c (.int .i64 0)], none⟩,
  ⟨(some 16), (.fld 11), [.t 2], none⟩,
  ⟨none, (.store 1), [.t 16, .t 11], none⟩]) .skip))
 (.seq (.reg [⟨(some 17), (.load 15 true), [.t 2], none⟩,
  ⟨none, (.store 15), [.t 4, .t 17], none⟩])
 .ret)))
theorem comp32 : compC Go.Proofs.Try.prog ttL 18 [] (match Go.Proofs.Try.f32.body with | some b => b | none => .skip) = some (c32) := by kernel_rfl
def c35 : C := (.seq (.reg [⟨(some 4), .mv, [.c (.sl tEntry [] true)], none⟩])
 (.seq (.reg [⟨(some 5), .mv, [.c (.sl tEntry [] true)], none⟩])
 (.seq (.seq (.reg [⟨(some 6), .mv, [.c (.int .i64 0)], none⟩])
 (.block 0 (.loop (.seq (.seq (.reg [⟨(some 8), .mv, [.t 6], none⟩,
  ⟨(some 9), .mv, [.t 0], none⟩,
  ⟨(some 10), .len, [.t 9], none⟩,
  ⟨(some 11), (.bin .lss), [.t 8, .t 10], none⟩,
  ⟨(some 12), .mv, [.t 11], none⟩,
  ⟨(some 13), .mv, [.t 6], (some (12, true))⟩,
  ⟨(some 14), (.bin .lss), [.t 13, .c (.int .i64 20)], (some (12, true))⟩,
  ⟨(some 15), .pick, [.t 12, .t 14, .c (.bool false)], none⟩])
 (.cond (.t 15) .skip (.exit 0)))
 (.seq (.block 1 (.seq (.reg [⟨(some 18), .mv, [.t 0], none⟩,
  ⟨(some 19), .mv, [.t 6], none⟩,
  ⟨(some 20), (.idx 1), [.t 18, .t 19], none⟩,
  ⟨(some 21), (.load 1 false), [.t 20], none⟩,
  ⟨(some 22), (.call 23), [.t 21, .c (.int .i64 1073741824)], none⟩,
  ⟨(some 7), .mv, [.t 22], none⟩])
 (.regd [⟨(some 23), .mv, [.t 5], none⟩,
  ⟨(some 24), .mv, [.t 7], none⟩,
  ⟨(some 25), .mv, [.t 1], none⟩,
  ⟨(some 26), (.bin .add), [.t 25, .c (.int .i64 1)], none⟩,
  ⟨(some 27), (.bin .rem), [.t 24, .t 26], none⟩,
  ⟨(some 28), .mv, [.t 7], none⟩,
  ⟨(some 29), (.bin .quo), [.t 28, .c (.int .i64 100)], none⟩,
  ⟨(some 30), (.bin .rem), [.t 29, .c (.int .i64 1000)], none⟩,
  ⟨(some 31), (.call 50), [.t 30], none⟩,
  ⟨(some 32), (.build [.int .i64 0, .str ⟨#[]⟩] [(0, 1), (1, 1)]), [.t 27, .t 31], none⟩,
  ⟨(some 33), (.bslice tEntry 1), [.t 32], none⟩,
  ⟨(some 34), (.app 2 24), [.t 23, .t 33], none⟩,
  ⟨(some 5), .mv, [.t 34], none⟩] [0, 0, 0, 4, 10, 0, 32, 64, 128, 272, 512, 1281, 4095])))
 (.reg [⟨(some 16), .mv, [.t 6], none⟩,
  ⟨(some 17), (.bin .add), [.t 16, .c (.int .i64 1)], none⟩,
  ⟨(some 6), .mv, [.t 17], none⟩]))))))
 (.seq (.reg [⟨(some 35), .mv, [.t 5], none⟩,
  ⟨(some 4), .mv, [.t 35], none⟩])
 .ret))))
theorem comp35 : compC Go.Proofs.Try.prog ttL 36 [] (match Go.Proofs.Try.f35.body with | some b => b | none => .skip) = some (c35) := by kernel_rfl
def c44 : C := (.seq (.reg [⟨(some 1), .box, [.t 0], none⟩,
  ⟨(some 2), .mv, [.c (.int .i64 0)], none⟩])
 (.seq (.reg [⟨(some 3), (.fld 1), [.t 1], none⟩,
  ⟨(some 4), (.load 1 false), [.t 3], none⟩,
  ⟨(some 5), (.bin .quo), [.t 4, .c (.int .i64 2)], none⟩,
  ⟨(some 6), (.bin .add), [.t 5, .c (.int .i64 1)], none⟩,
  ⟨(some 2), .mv, [.t 6], none⟩])
 .ret))
theorem comp44 : compC Go.Proofs.Try.prog ttL 7 [] (match Go.Proofs.Try.f44.body with | some b => b | none => .skip) = some (c44) := by kernel_rfl
def c45 : C := (.seq (.reg [⟨(some 1), .box, [.t 0], none⟩,
  ⟨(some 2), .mv, [.c (.int .i64 0)], none⟩])
 (.seq (.reg [⟨(some 3), (.fld 1), [.t 1], none⟩,
  ⟨(some 4), (.load 1 false), [.t 3], none⟩,
  ⟨(some 5), (.bin .quo), [.t 4, .c (.int .i64 2)], none⟩,
  ⟨(some 6), (.bin .add), [.t 5, .c (.int .i64 1)], none⟩,
  ⟨(some 2), .mv, [.t 6], none⟩])
 .ret))
theorem comp45 : compC Go.Proofs.Try.prog ttL 7 [] (match Go.Proofs.Try.f45.body with | some b => b | none => .skip) = some (c45) := by kernel_rfl
def c48 : C := (.seq (.reg [⟨(some 2), .box, [.t 0], none⟩,
  ⟨(some 4), .mv, [.c (.int .i64 0)], none⟩,
  ⟨(some 5), .mv, [.c (.bool false)], none⟩])
 (.seq (.block 0 (.seq (.reg [⟨(some 7), .mv, [.t 1], none⟩,
  ⟨(some 8), (.fld 4), [.t 2], none⟩,
  ⟨(some 9), (.load 1 false), [.t 8], none⟩,
  ⟨(some 10), (.bin .eql), [.t 7, .t 9], none⟩,
  ⟨(some 6), .mv, [.t 10], none⟩])
 (.cond (.t 6) (.seq (.reg [⟨(some 11), (.fld 5), [.t 2], none⟩,
  ⟨(some 12), (.load 1 false), [.t 11], none⟩,
  ⟨(some 4), .mv, [.t 12], none⟩,
  ⟨(some 5), .mv, [.c (.bool true)], none⟩])
 .ret) (.seq (.reg [⟨(some 14), .mv, [.t 1], none⟩,
  ⟨(some 15), (.fld 4), [.t 2], none⟩,
  ⟨(some 16), (.load 1 false), [.t 15], none⟩,
  ⟨(some 17), (.bin .lss), [.t 14, .t 16], none⟩,
  ⟨(some 18), .mv, [.t 17], none⟩,
  ⟨(some 19), .mv, [.t 1], (some (18, false))⟩,
  ⟨(some 20), (.load 15 true), [.t 2], (some (18, false))⟩,
  ⟨(some 21), (.call 52), [.t 20], (some (18, false))⟩,
  ⟨(some 22), (.bin .gtr), [.t 19, .t 21], (some (18, false))⟩,
  ⟨(some 23), .pick, [.t 18, .c (.bool true), .t 22], none⟩,
  ⟨(some 24), .mv, [.t 23], none⟩,
  ⟨(some 25), .mv, [.t 1], (some (24, false))⟩,
  ⟨(some 26), (.fld 4), [.t 2], (some (24, false))⟩,
  ⟨(some 27), (.load 1 false), [.t 26], (some (24, false))⟩,
  ⟨(some 28), (.bin .sub), [.t 25, .t 27], (some (24, false))⟩,
  ⟨(some 29), (.fld 7), [.t 2], (some (24, false))⟩,
  ⟨(some 30), (.load 1 false), [.t 29], (some (24, false))⟩,
  ⟨(some 31), .len, [.t 30], (some (24, false))⟩,
  ⟨(some 32), (.bin .gtr), [.t 28, .t 31], (some (24, false))⟩,
  ⟨(some 33), .pick, [.t 24, .c (.bool true), .t 32], none⟩,
  ⟨(some 34), .mv, [.t 33], none⟩,
  ⟨(some 35), .mv, [.t 1], (some (34, false))⟩,
  ⟨(some 36), (.fld 4), [.t 2], (some (34, false))⟩,
  ⟨(some 37), (.load 1 false), [.t 36], (some (34, false))⟩,
  ⟨(some 38), (.bin .sub), [.t 35, .t 37], (some (34, false))⟩,
  ⟨(some 39), (.bin .lss), [.t 38, .c (.int .i64 1)], (some (34, false))⟩,
  ⟨(some 40), .pick, [.t 34, .c (.bool true), .t 39], none⟩,
  ⟨(some 13), .mv, [.t 40], none⟩])
 (.cond (.t 13) (.seq (.reg [⟨(some 4), .mv, [.c (.int .i64 0)], none⟩,
  ⟨(some 5), .mv, [.c (.bool false)], none⟩])
 .ret) .skip)))))
 (.seq (.reg [⟨(some 41), (.fld 7), [.t 2], none⟩,
  ⟨(some 42), (.load 1 false), [.t 41], none⟩,
  ⟨(some 43), .mv, [.t 1], none⟩,
  ⟨(some 44), (.fld 4), [.t 2], none⟩,
  ⟨(some 45), (.load 1 false), [.t 44], none⟩,
  ⟨(some 46), (.bin .sub), [.t 43, .t 45], none⟩,
  ⟨(some 47), (.bin .sub), [.t 46, .c (.int .i64 1)], none⟩,
  ⟨(some 48), (.idx 2), [.t 42, .t 47], none⟩,
  ⟨(some 49), (.fld 0), [.t 48], none⟩,
  ⟨(some 50), (.load 1 false), [.t 49], none⟩,
  ⟨(some 4), .mv, [.t 50], none⟩,
  ⟨(some 5), .mv, [.c (.bool true)], none⟩])
 .ret)))
theorem comp48 : compC Go.Proofs.Try.prog ttL 51 [] (match Go.Proofs.Try.f48.body with | some b => b | none => .skip) = some (c48) := by kernel_rfl
def c50 : C := (.seq (.reg [⟨(some 2), .mv, [.c (.str ⟨#[]⟩)], none⟩])
 (.seq (.block 0 (.seq (.reg [⟨(some 5), .mv, [.t 0], none⟩,
  ⟨(some 6), (.bin .leq), [.t 5, .c (.int .i64 (-10))], none⟩,
  ⟨(some 4), .mv, [.t 6], none⟩])
 (.cond (.t 4) (.seq (.reg [⟨(some 7), .mv, [.t 0], none⟩,
  ⟨(some 8), (.bin .rem), [.t 7, .c (.int .i64 10)], none⟩,
  ⟨(some 9), .neg, [.t 8], none⟩,
  ⟨(some 3), .mv, [.t 9], none⟩])
 (.seq (.regd [⟨(some 10), .mv, [.t 0], none⟩,
  ⟨(some 11), (.bin .quo), [.t 10, .c (.int .i64 10)], none⟩,
  ⟨(some 12), (.call 50), [.t 11], none⟩,
  ⟨(some 13), .mv, [.t 3], none⟩,
  ⟨(some 14), .mv, [.t 3], none⟩,
  ⟨(some 15), (.bin .add), [.t 14, .c (.int .i64 1)], none⟩,
  ⟨(some 16), (.slcs true true), [.c (.str ⟨#[48, 49, 50, 51, 52, 53, 54, 55, 56, 57]⟩), .t 13, .t 15], none⟩,
  ⟨(some 17), (.bin .add), [.t 12, .t 16], none⟩,
  ⟨(some 2), .mv, [.t 17], none⟩] [0, 1, 2, 0, 0, 16, 40, 68, 255])
 .ret)) (.seq (.reg [⟨(some 19), .mv, [.t 0], none⟩,
  ⟨(some 20), (.bin .lss), [.t 19, .c (.int .i64 0)], none⟩,
  ⟨(some 18), .mv, [.t 20], none⟩])
 (.cond (.t 18) (.seq (.reg [⟨(some 21), .mv, [.t 0], none⟩,
  ⟨(some 22), .neg, [.t 21], none⟩,
  ⟨(some 23), .mv, [.t 0], none⟩,
  ⟨(some 24), .neg, [.t 23], none⟩,
  ⟨(some 25), (.bin .add), [.t 24, .c (.int .i64 1)], none⟩,
  ⟨(some 26), (.slcs true true), [.c (.str ⟨#[48, 49, 50, 51, 52, 53, 54, 55, 56, 57]⟩), .t 22, .t 25], none⟩,
  ⟨(some 27), (.bin .add), [.c (.str ⟨#[45]⟩), .t 26], none⟩,
  ⟨(some 2), .mv, [.t 27], none⟩])
 .ret) (.seq (.reg [⟨(some 29), .mv, [.t 0], none⟩,
  ⟨(some 30), (.bin .lss), [.t 29, .c (.int .i64 10)], none⟩,
  ⟨(some 28), .mv, [.t 30], none⟩])
 (.cond (.t 28) (.seq (.reg [⟨(some 31), .mv, [.t 0], none⟩,
  ⟨(some 32), .mv, [.t 0], none⟩,
  ⟨(some 33), (.bin .add), [.t 32, .c (.int .i64 1)], none⟩,
  ⟨(some 34), (.slcs true true), [.c (.str ⟨#[48, 49, 50, 51, 52, 53, 54, 55, 56, 57]⟩), .t 31, .t 33], none⟩,
  ⟨(some 2), .mv, [.t 34], none⟩])
 .ret) .skip)))))))
 (.seq (.regd [⟨(some 35), .mv, [.t 0], none⟩,
  ⟨(some 36), (.bin .quo), [.t 35, .c (.int .i64 10)], none⟩,
  ⟨(some 37), (.call 50), [.t 36], none⟩,
  ⟨(some 38), .mv, [.t 0], none⟩,
  ⟨(some 39), (.bin .rem), [.t 38, .c (.int .i64 10)], none⟩,
  ⟨(some 40), .mv, [.t 0], none⟩,
  ⟨(some 41), (.bin .rem), [.t 40, .c (.int .i64 10)], none⟩,
  ⟨(some 42), (.bin .add), [.t 41, .c (.int .i64 1)], none⟩,
  ⟨(some 43), (.slcs true true), [.c (.str ⟨#[48, 49, 50, 51, 52, 53, 54, 55, 56, 57]⟩), .t 39, .t 42], none⟩,
  ⟨(some 44), (.bin .add), [.t 37, .t 43], none⟩,
  ⟨(some 2), .mv, [.t 44], none⟩] [0, 1, 2, 0, 8, 0, 32, 64, 144, 260, 1023])
 .ret)))
theorem comp50 : compC Go.Proofs.Try.prog ttL 45 [] (match Go.Proofs.Try.f50.body with | some b => b | none => .skip) = some (c50) := by kernel_rfl
def c52 : C := (.seq (.reg [⟨(some 1), .box, [.t 0], none⟩,
  ⟨(some 2), .mv, [.c (.int .i64 0)], none⟩])
 (.seq (.reg [⟨(some 3), (.fld 4), [.t 1], none⟩,
  ⟨(some 4), (.load 1 false), [.t 3], none⟩,
  ⟨(some 5), (.fld 7), [.t 1], none⟩,
  ⟨(some 6), (.load 1 false), [.t 5], none⟩,
  ⟨(some 7), .len, [.t 6], none⟩,
  ⟨(some 8), (.bin .add), [.t 4, .t 7], none⟩,
  ⟨(some 2), .mv, [.t 8], none⟩])
 .ret))
theorem comp52 : compC Go.Proofs.Try.prog ttL 9 [] (match Go.Proofs.Try.f52.body with | some b => b | none => .skip) = some (c52) := by kernel_rfl
def c53 : C := (.seq (.reg [⟨(some 2), .box, [.t 0], none⟩,
  ⟨(some 4), .mv, [.c (.sl tEntry [] true)], none⟩])
 (.seq (.reg [⟨(some 5), .mv, [.c (.int .i64 0)], none⟩])
 (.seq (.seq (.reg [⟨(some 6), .mv, [.t 1], none⟩,
  ⟨(some 7), (.fld 4), [.t 2], none⟩,
  ⟨(some 8), (.load 1 false), [.t 7], none⟩,
  ⟨(some 9), (.bin .gtr), [.t 6, .t 8], none⟩])
 (.cond (.t 9) (.reg [⟨(some 10), .mv, [.t 1], none⟩,
  ⟨(some 11), (.fld 4), [.t 2], none⟩,
  ⟨(some 12), (.load 1 false), [.t 11], none⟩,
  ⟨(some 13), (.bin .sub), [.t 10, .t 12], none⟩,
  ⟨(some 5), .mv, [.t 13], none⟩]) .skip))
 (.seq (.seq (.reg [⟨(some 14), .mv, [.t 5], none⟩,
  ⟨(some 15), (.bin .lss), [.t 14, .c (.int .i64 0)], none⟩,
  ⟨(some 16), .mv, [.t 15], none⟩,
  ⟨(some 17), .mv, [.t 5], (some (16, false))⟩,
  ⟨(some 18), (.fld 7), [.t 2], (some (16, false))⟩,
  ⟨(some 19), (.load 1 false), [.t 18], (some (16, false))⟩,
  ⟨(some 20), .len, [.t 19], (some (16, false))⟩,
  ⟨(some 21), (.bin .gtr), [.t 17, .t 20], (some (16, false))⟩,
  ⟨(some 22), .pick, [.t 16, .c (.bool true), .t 21], none⟩])
 (.cond (.t 22) (.reg [⟨(some 23), (.fld 7), [.t 2], none⟩,
  ⟨(some 24), (.load 1 false), [.t 23], none⟩,
  ⟨(some 25), .len, [.t 24], none⟩,
  ⟨(some 5), .mv, [.t 25], none⟩]) .skip))
 (.seq (.reg [⟨(some 26), (.fld 7), [.t 2], none⟩,
  ⟨(some 27), (.load 1 false), [.t 26], none⟩,
  ⟨(some 28), .mv, [.t 5], none⟩,
  ⟨(some 29), (.fld 7), [.t 2], none⟩,
  ⟨(some 30), (.load 1 false), [.t 29], none⟩,
  ⟨(some 31), .len, [.t 30], none⟩,
  ⟨(some 32), (.fld 7), [.t 2], none⟩,
  ⟨(some 33), (.load 1 false), [.t 32], none⟩,
  ⟨(some 34), .len, [.t 33], none⟩,
  ⟨(some 35), (.slc 2 true true true), [.t 27, .t 28, .t 31, .t 34], none⟩,
  ⟨(some 4), .mv, [.t 35], none⟩])
 .ret)))))
theorem comp53 : compC Go.Proofs.Try.prog ttL 36 [] (match Go.Proofs.Try.f53.body with | some b => b | none => .skip) = some (c53) := by kernel_rfl
def c59 : C := (.seq (.reg [⟨(some 3), .box, [.t 0], none⟩,
  ⟨(some 6), (.alloc [.int .i64 0, .int .i64 0, .int .i64 0, .int .i64 0, .int .i64 0, .int .i64 0, .str ⟨#[]⟩, .sl tEntry [] true, .int .i64 0, .int .i64 0, .int .i64 0, .sl .bool [] true, .sl tI [] true, .sl tI [] true, .int .i64 0]), [], none⟩])
 (.seq (.seq (.reg [⟨(some 9), .mv, [.t 1], none⟩,
  ⟨(some 10), (.fld 4), [.t 3], none⟩,
  ⟨(some 11), (.load 1 false), [.t 10], none⟩,
  ⟨(some 12), (.bin .leq), [.t 9, .t 11], none⟩,
  ⟨(some 13), .mv, [.t 12], none⟩,
  ⟨(some 14), .mv, [.t 1], (some (13, false))⟩,
  ⟨(some 15), (.fld 10), [.t 3], (some (13, false))⟩,
  ⟨(some 16), (.load 1 false), [.t 15], (some (13, false))⟩,
  ⟨(some 17), (.bin .gtr), [.t 14, .t 16], (some (13, false))⟩,
  ⟨(some 18), .pick, [.t 13, .c (.bool true), .t 17], none⟩,
  ⟨(some 19), .mv, [.t 18], none⟩,
  ⟨(some 20), .mv, [.t 1], (some (19, false))⟩,
  ⟨(some 21), (.load 15 true), [.t 3], (some (19, false))⟩,
  ⟨(some 22), (.call 30), [.t 21], (some (19, false))⟩,
  ⟨(some 23), (.bin .gtr), [.t 20, .t 22], (some (19, false))⟩,
  ⟨(some 24), .pick, [.t 19, .c (.bool true), .t 23], none⟩])
 (.cond (.t 24) (.seq (.reg [⟨(some 25), (.load 15 true), [.t 3], none⟩,
  ⟨none, (.store 15), [.t 6, .t 25], none⟩])
 .ret) .skip))
 (.seq (.reg [⟨(some 27), (.load 15 true), [.t 3], none⟩,
  ⟨(some 28), .mv, [.t 1], none⟩,
  ⟨(some 29), (.call 29), [.t 27, .t 28], none⟩,
  ⟨(some 26), .mv, [.t 29], none⟩,
  ⟨(some 30), (.ext 0), [.t 26], none⟩,
  ⟨(some 31), (.ext 1), [.t 26], none⟩,
  ⟨(some 7), .mv, [.t 30], none⟩,
  ⟨(some 8), .mv, [.t 31], none⟩])
 (.seq (.reg [⟨(some 32), (.load 15 true), [.t 3], none⟩,
  ⟨(some 33), .mv, [.t 1], none⟩,
  ⟨(some 34), (.call 60), [.t 32, .t 33], none⟩,
  ⟨(some 35), (.fld 7), [.t 3], none⟩,
  ⟨none, (.store 1), [.t 35, .t 34], none⟩])
 (.seq (.reg [⟨(some 36), .mv, [.t 1], none⟩,
  ⟨(some 37), .mv, [.t 7], none⟩,
  ⟨(some 38), .mv, [.t 2], none⟩,
  ⟨(some 39), (.fld 4), [.t 3], none⟩,
  ⟨none, (.store 1), [.t 39, .t 36], none⟩,
  ⟨(some 40), (.fld 5), [.t 3], none⟩,
  ⟨none, (.store 1), [.t 40, .t 37], none⟩,
  ⟨(some 41), (.fld 6), [.t 3], none⟩,
  ⟨none, (.store 1), [.t 41, .t 38], none⟩])
 (.seq (.reg [⟨(some 42), (.load 15 true), [.t 3], none⟩,
  ⟨none, (.store 15), [.t 6, .t 42], none⟩])
 .ret))))))
theorem comp59 : compC Go.Proofs.Try.prog ttL 43 [] (match Go.Proofs.Try.f59.body with | some b => b | none => .skip) = some (c59) := by kernel_rfl
def c60 : C := (.seq (.reg [⟨(some 2), .box, [.t 0], none⟩,
  ⟨(some 4), .mv, [.c (.sl tEntry [] true)], none⟩])
 (.seq (.seq (.reg [⟨(some 5), .mv, [.t 1], none⟩,
  ⟨(some 6), (.load 15 true), [.t 2], none⟩,
  ⟨(some 7), (.call 30), [.t 6], none⟩,
  ⟨(some 8), (.bin .gtr), [.t 5, .t 7], none⟩])
 (.cond (.t 8) (.seq (.reg [⟨(some 4), .mv, [.c (.sl tEntry [] true)], none⟩])
 .ret) .skip))
 (.seq (.reg [⟨(some 9), (.fld 7), [.t 2], none⟩,
  ⟨(some 10), (.load 1 false), [.t 9], none⟩,
  ⟨(some 11), .mv, [.t 1], none⟩,
  ⟨(some 12), (.fld 4), [.t 2], none⟩,
  ⟨(some 13), (.load 1 false), [.t 12], none⟩,
  ⟨(some 14), (.bin .sub), [.t 11, .t 13], none⟩,
  ⟨(some 15), .mx, [.t 14, .c (.int .i64 0)], none⟩,
  ⟨(some 16), (.slc 2 true false false), [.t 10, .t 15], none⟩,
  ⟨(some 17), (.app 2 24), [.c (.sl tEntry [] true), .t 16], none⟩,
  ⟨(some 4), .mv, [.t 17], none⟩])
 .ret)))
theorem comp60 : compC Go.Proofs.Try.prog ttL 18 [] (match Go.Proofs.Try.f60.body with | some b => b | none => .skip) = some (c60) := by kernel_rfl
def c62 : C := (.seq (.reg [⟨(some 1), .box, [.t 0], none⟩,
  ⟨(some 2), (.alloc [.int .i64 0, .int .i64 0, .int .i64 0, .int .i64 0, .str ⟨#[]⟩, .sl tEntry [] true]), [], none⟩])
 (.seq (.reg [⟨(some 3), (.fld 2), [.t 1], none⟩,
  ⟨(some 4), (.load 1 false), [.t 3], none⟩,
  ⟨(some 5), (.fld 3), [.t 1], none⟩,
  ⟨(some 6), (.load 1 false), [.t 5], none⟩,
  ⟨(some 7), (.fld 4), [.t 1], none⟩,
  ⟨(some 8), (.load 1 false), [.t 7], none⟩,
  ⟨(some 9), (.fld 5), [.t 1], none⟩,
  ⟨(some 10), (.load 1 false), [.t 9], none⟩,
  ⟨(some 11), (.fld 6), [.t 1], none⟩,
  ⟨(some 12), (.load 1 false), [.t 11], none⟩,
  ⟨(some 13), (.fld 7), [.t 1], none⟩,
  ⟨(some 14), (.load 1 false), [.t 13], none⟩,
  ⟨(some 15), (.build [.int .i64 0, .int .i64 0, .int .i64 0, .int .i64 0, .str ⟨#[]⟩, .sl tEntry [] true] [(0, 1), (1, 1), (2, 1), (3, 1), (4, 1), (5, 1)]), [.t 4, .t 6, .t 8, .t 10, .t 12, .t 14], none⟩,
  ⟨none, (.store 6), [.t 2, .t 15], none⟩])
 .ret))
theorem comp62 : compC Go.Proofs.Try.prog ttL 16 [] (match Go.Proofs.Try.f62.body with | some b => b | none => .skip) = some (c62) := by kernel_rfl
def c91 : C := (.seq (.reg [⟨(some 1), .box, [.t 0], none⟩,
  ⟨(some 2), (.alloc [.int .i64 0, .int .i64 0, .int .i64 0, .int .i64 0, .int .i64 0, .int .i64 0, .str ⟨#[]⟩, .sl tEntry [] true, .int .i64 0, .int .i64 0, .int .i64 0, .sl .bool [] true, .sl tI [] true, .sl tI [] true, .int .i64 0]), [], none⟩])
 (.seq (.reg [⟨(some 3), (.load 15 true), [.t 1], none⟩,
  ⟨(some 4), (.call 92), [.t 3], none⟩,
  ⟨(some 5), (.fld 11), [.t 1], none⟩,
  ⟨none, (.store 1), [.t 5, .t 4], none⟩])
 (.seq (.seq (.reg [⟨(some 6), (.fld 0), [.t 1], none⟩,
  ⟨(some 7), (.load 1 false), [.t 6], none⟩,
  ⟨(some 8), (.bin .geq), [.t 7, .c (.int .i64 0)], none⟩,
  ⟨(some 9), .mv, [.t 8], none⟩,
  ⟨(some 10), (.fld 0), [.t 1], (some (9, true))⟩,
  ⟨(some 11), (.load 1 false), [.t 10], (some (9, true))⟩,
  ⟨(some 12), (.fld 11), [.t 1], (some (9, true))⟩,
  ⟨(some 13), (.load 1 false), [.t 12], (some (9, true))⟩,
  ⟨(some 14), .len, [.t 13], (some (9, true))⟩,
  ⟨(some 15), (.bin .lss), [.t 11, .t 14], (some (9, true))⟩,
  ⟨(some 16), .pick, [.t 9, .t 15, .c (.bool false)], none⟩])
 (.cond (.t 16) (.reg [⟨(some 17), (.fld 11), [.t 1], none⟩,
  ⟨(some 18), (.load 1 false), [.t 17], none⟩,
  ⟨(some 19), (.fld 0), [.t 1], none⟩,
  ⟨(some 20), (.load 1 false), [.t 19], none⟩,
  ⟨(some 21), (.idx 1), [.t 18, .t 20], none⟩,
  ⟨none, (.store 1), [.t 21, .c (.bool true)], none⟩]) .skip))
 (.seq (.reg [⟨(some 22), (.load 15 true), [.t 1], none⟩,
  ⟨none, (.store 15), [.t 2, .t 22], none⟩])
 .ret))))
theorem comp91 : compC Go.Proofs.Try.prog ttL 23 [] (match Go.Proofs.Try.f91.body with | some b => b | none => .skip) = some (c91) := by kernel_rfl
def c92 : C := (.seq (.reg [⟨(some 1), .box, [.t 0], none⟩,
  ⟨(some 2), .mv, [.c (.sl .bool [] true)], none⟩])
 (.seq (.reg [⟨(some 3), (.fld 1), [.t 1], none⟩,
  ⟨(some 4), (.load 1 false), [.t 3], none⟩,
  ⟨(some 5), .mn, [.t 4, .c (.int .i64 5)], none⟩,
  ⟨(some 6), .mx, [.c (.int .i64 0), .t 5], none⟩,
  ⟨(some 7), (.mks .bool 1), [.t 6, .t 6], none⟩,
  ⟨(some 2), .mv, [.t 7], none⟩])
 .ret))
theorem comp92 : compC Go.Proofs.Try.prog ttL 8 [] (match Go.Proofs.Try.f92.body with | some b => b | none => .skip) = some (c92) := by kernel_rfl
end Go.AM
