import Derived.Test.YtbcbgfkojmligaaAJ
import Derived.KernelRfl
import Derived.Test.YtbcbgfkojmligaaProg
/- What functions of the program answer, each under the conditions that its contract names. -/
set_option linter.unusedVariables false
set_option linter.unusedSimpArgs false
set_option maxRecDepth 100000
namespace Go.AM
def c3 : C := (.seq (.reg [⟨(some 8), .mv, [.c (.bool false)], none⟩])
 (.seq (.reg [⟨(some 17), .mv, [.t 0], none⟩,
  ⟨(some 18), .mv, [.t 1], none⟩,
  ⟨(some 19), .mv, [.t 2], none⟩,
  ⟨(some 20), (.call 23), [.t 19, .c (.int .i64 6)], none⟩,
  ⟨(some 21), .mx, [.t 20, .c (.int .i64 2)], none⟩,
  ⟨(some 22), (.call 22), [.t 17, .t 18, .t 21], none⟩,
  ⟨(some 9), (.alloc [.int .i64 0, .int .i64 0, .int .i64 0, .int .i64 0, .int .i64 0, .int .i64 0, .str ⟨#[]⟩, .sl tEntry [] true, .int .i64 0, .int .i64 0, .int .i64 0, .sl .bool [] true, .sl tI [] true, .sl tI [] true, .int .i64 0]), [], none⟩,
  ⟨none, (.store 15), [.t 9, .t 22], none⟩])
 (.seq (.reg [⟨(some 10), (.allocA tI 200), [], none⟩])
 (.seq (.seq (.reg [⟨(some 11), .mv, [.c (.int .i64 0)], none⟩])
 (.block 0 (.loop (.seq (.seq (.reg [⟨(some 23), .mv, [.t 11], none⟩,
  ⟨(some 24), .mv, [.t 3], none⟩,
  ⟨(some 25), .len, [.t 24], none⟩,
  ⟨(some 26), (.bin .lss), [.t 23, .t 25], none⟩,
  ⟨(some 27), .mv, [.t 26], none⟩,
  ⟨(some 28), .mv, [.t 11], (some (27, true))⟩,
  ⟨(some 29), (.bin .lss), [.t 28, .c (.int .i64 60)], (some (27, true))⟩,
  ⟨(some 30), .pick, [.t 27, .t 29, .c (.bool false)], none⟩])
 (.cond (.t 30) .skip (.exit 0)))
 (.seq (.block 1 (.seq (.reg [⟨(some 33), .mv, [.t 3], none⟩,
  ⟨(some 34), .mv, [.t 11], none⟩,
  ⟨(some 35), (.idx 1), [.t 33, .t 34], none⟩,
  ⟨(some 36), (.load 1 false), [.t 35], none⟩,
  ⟨(some 37), (.call 23), [.t 36, .c (.int .i64 1073741824)], none⟩,
  ⟨(some 12), .mv, [.t 37], none⟩])
 (.seq (.reg [⟨(some 38), .mv, [.t 12], none⟩,
  ⟨(some 39), (.bin .quo), [.t 38, .c (.int .i64 5)], none⟩,
  ⟨(some 40), (.bin .mul), [.c (.int .i64 5), .t 39], none⟩,
  ⟨(some 41), .mv, [.t 12], none⟩,
  ⟨(some 42), (.bin .quo), [.t 41, .c (.int .i64 7)], none⟩,
  ⟨(some 43), (.load 15 true), [.t 9], none⟩,
  ⟨(some 44), (.call 24), [.t 40, .t 42, .t 43, .c (.sl tI [] true)], none⟩,
  ⟨(some 13), (.alloc [.int .i64 0, .int .i64 0, .int .i64 0, .int .i64 0, .int .i64 0, .int .i64 0, .bool false, .int .i64 0, .sl tEntry [] true, .str ⟨#[]⟩]), [], none⟩,
  ⟨none, (.store 10), [.t 13, .t 44], none⟩])
 (.seq (.reg [⟨(some 45), (.fld 0), [.t 13], none⟩,
  ⟨none, (.store 1), [.t 45, .c (.int .i64 1)], none⟩])
 (.seq (.reg [⟨(some 46), (.fld 2), [.t 9], none⟩,
  ⟨(some 47), (.load 1 false), [.t 46], none⟩,
  ⟨(some 14), .mv, [.t 47], none⟩])
 (.seq (.reg [⟨(some 49), (.load 15 true), [.t 9], none⟩,
  ⟨(some 50), (.load 10 true), [.t 13], none⟩,
  ⟨(some 51), (.call 25), [.t 49, .t 50], none⟩,
  ⟨(some 48), .mv, [.t 51], none⟩,
  ⟨(some 52), (.ext 0), [.t 48], none⟩,
  ⟨(some 53), (.ext 1), [.t 48], none⟩,
  ⟨(some 15), (.alloc [.int .i64 0, .int .i64 0, .int .i64 0, .int .i64 0, .int .i64 0, .int .i64 0, .str ⟨#[]⟩, .sl tEntry [] true, .int .i64 0, .int .i64 0, .int .i64 0, .sl .bool [] true, .sl tI [] true, .sl tI [] true, .int .i64 0]), [], none⟩,
  ⟨none, (.store 15), [.t 15, .t 52], none⟩,
  ⟨(some 16), .mv, [.t 53], none⟩])
 (.seq (.seq (.regd [⟨(some 54), .mv, [.t 16], none⟩,
  ⟨(some 55), .len, [.t 54], none⟩,
  ⟨(some 56), (.bin .neq), [.t 55, .c (.int .i64 1)], none⟩,
  ⟨(some 57), .mv, [.t 56], none⟩,
  ⟨(some 58), (.fld 2), [.t 15], (some (57, false))⟩,
  ⟨(some 59), (.load 1 false), [.t 58], (some (57, false))⟩,
  ⟨(some 60), .mv, [.t 14], (some (57, false))⟩,
  ⟨(some 61), (.bin .lss), [.t 59, .t 60], (some (57, false))⟩,
  ⟨(some 62), .pick, [.t 57, .c (.bool true), .t 61], none⟩,
  ⟨(some 63), .mv, [.t 62], none⟩,
  ⟨(some 64), .mv, [.t 16], (some (63, false))⟩,
  ⟨(some 65), (.idx 10), [.t 64, .c (.int .i64 0)], (some (63, false))⟩,
  ⟨(some 66), (.fld 3), [.t 65], (some (63, false))⟩,
  ⟨(some 67), (.load 1 false), [.t 66], (some (63, false))⟩,
  ⟨(some 68), (.fld 2), [.t 15], (some (63, false))⟩,
  ⟨(some 69), (.load 1 false), [.t 68], (some (63, false))⟩,
  ⟨(some 70), (.bin .neq), [.t 67, .t 69], (some (63, false))⟩,
  ⟨(some 71), .pick, [.t 63, .c (.bool true), .t 70], none⟩,
  ⟨(some 72), .mv, [.t 71], none⟩,
  ⟨(some 73), .mv, [.t 16], (some (72, false))⟩,
  ⟨(some 74), (.idx 10), [.t 73, .c (.int .i64 0)], (some (72, false))⟩,
  ⟨(some 75), (.fld 2), [.t 74], (some (72, false))⟩,
  ⟨(some 76), (.load 1 false), [.t 75], (some (72, false))⟩,
  ⟨(some 77), (.fld 1), [.t 13], (some (72, false))⟩,
  ⟨(some 78), (.load 1 false), [.t 77], (some (72, false))⟩,
  ⟨(some 79), (.bin .neq), [.t 76, .t 78], (some (72, false))⟩,
  ⟨(some 80), .pick, [.t 72, .c (.bool true), .t 79], none⟩,
  ⟨(some 81), .mv, [.t 80], none⟩,
  ⟨(some 82), .mv, [.t 16], (some (81, false))⟩,
  ⟨(some 83), (.idx 10), [.t 82, .c (.int .i64 0)], (some (81, false))⟩,
  ⟨(some 84), (.fld 1), [.t 83], (some (81, false))⟩,
  ⟨(some 85), (.load 1 false), [.t 84], (some (81, false))⟩,
  ⟨(some 86), (.fld 0), [.t 9], (some (81, false))⟩,
  ⟨(some 87), (.load 1 false), [.t 86], (some (81, false))⟩,
  ⟨(some 88), (.bin .neq), [.t 85, .t 87], (some (81, false))⟩,
  ⟨(some 89), .pick, [.t 81, .c (.bool true), .t 88], none⟩] [0, 1, 2, 4, 8, 24, 8, 104, 136, 264, 512, 1536, 2560, 4608, 512, 16896, 41472, 66048, 131584, 262144, 786432, 1310720, 2359296, 262144, 8650752, 21233664, 33816576, 67371008, 134217728, 402653184, 671088640, 1207959552, 134217728, 4429185024, 10871635968, 17314086912])
 (.cond (.t 89) (.seq (.reg [⟨(some 8), .mv, [.c (.bool false)], none⟩])
 .ret) .skip))
 (.seq (.seq (.reg [⟨(some 90), .mv, [.t 16], none⟩,
  ⟨(some 91), (.idx 10), [.t 90, .c (.int .i64 0)], none⟩,
  ⟨(some 92), (.fld 6), [.t 91], none⟩,
  ⟨(some 93), (.load 1 false), [.t 92], none⟩])
 (.cond (.t 93) (.seq (.seq (.reg [⟨(some 94), (.fld 2), [.t 15], none⟩,
  ⟨(some 95), (.load 1 false), [.t 94], none⟩,
  ⟨(some 96), (.bin .lss), [.t 95, .c (.int .i64 0)], none⟩,
  ⟨(some 97), .mv, [.t 96], none⟩,
  ⟨(some 98), (.fld 2), [.t 15], (some (97, false))⟩,
  ⟨(some 99), (.load 1 false), [.t 98], (some (97, false))⟩,
  ⟨(some 100), (.bin .geq), [.t 99, .c (.int .i64 200)], (some (97, false))⟩,
  ⟨(some 101), .pick, [.t 97, .c (.bool true), .t 100], none⟩])
 (.cond (.t 101) (.seq (.reg [⟨(some 8), .mv, [.c (.bool false)], none⟩])
 .ret) .skip))
 (.seq (.seq (.regd [⟨(some 102), (.fld 2), [.t 15], none⟩,
  ⟨(some 103), (.load 1 false), [.t 102], none⟩,
  ⟨(some 104), (.aidx 1 200), [.t 10, .t 103], none⟩,
  ⟨(some 105), (.load 1 false), [.t 104], none⟩,
  ⟨(some 106), (.bin .neq), [.t 105, .c (.int .i64 0)], none⟩,
  ⟨(some 107), .mv, [.t 106], none⟩,
  ⟨(some 108), (.fld 2), [.t 15], (some (107, true))⟩,
  ⟨(some 109), (.load 1 false), [.t 108], (some (107, true))⟩,
  ⟨(some 110), (.aidx 1 200), [.t 10, .t 109], (some (107, true))⟩,
  ⟨(some 111), (.load 1 false), [.t 110], (some (107, true))⟩,
  ⟨(some 112), (.fld 1), [.t 13], (some (107, true))⟩,
  ⟨(some 113), (.load 1 false), [.t 112], (some (107, true))⟩,
  ⟨(some 114), (.bin .add), [.c (.int .i64 1), .t 113], (some (107, true))⟩,
  ⟨(some 115), (.bin .neq), [.t 111, .t 114], (some (107, true))⟩,
  ⟨(some 116), .pick, [.t 107, .t 115, .c (.bool false)], none⟩,
  ⟨(some 117), .mv, [.t 116], none⟩,
  ⟨(some 118), (.fld 3), [.t 15], (some (117, false))⟩,
  ⟨(some 119), (.load 1 false), [.t 118], (some (117, false))⟩,
  ⟨(some 120), (.fld 1), [.t 13], (some (117, false))⟩,
  ⟨(some 121), (.load 1 false), [.t 120], (some (117, false))⟩,
  ⟨(some 122), (.bin .neq), [.t 119, .t 121], (some (117, false))⟩,
  ⟨(some 123), .pick, [.t 117, .c (.bool true), .t 122], none⟩] [0, 1, 2, 4, 8, 16, 32, 96, 160, 288, 32, 1056, 2080, 4640, 8224, 16416, 32768, 98304, 32768, 294912, 688128, 1081344])
 (.cond (.t 123) (.seq (.reg [⟨(some 8), .mv, [.c (.bool false)], none⟩])
 .ret) .skip))
 (.reg [⟨(some 124), (.fld 2), [.t 15], none⟩,
  ⟨(some 125), (.load 1 false), [.t 124], none⟩,
  ⟨(some 126), (.fld 1), [.t 13], none⟩,
  ⟨(some 127), (.load 1 false), [.t 126], none⟩,
  ⟨(some 128), (.bin .add), [.c (.int .i64 1), .t 127], none⟩,
  ⟨(some 129), (.aidx 1 200), [.t 10, .t 125], none⟩,
  ⟨none, (.store 1), [.t 129, .t 128], none⟩]))) .skip))
 (.reg [⟨(some 130), (.load 15 true), [.t 15], none⟩,
  ⟨none, (.store 15), [.t 9, .t 130], none⟩])))))))))
 (.reg [⟨(some 31), .mv, [.t 11], none⟩,
  ⟨(some 32), (.bin .add), [.t 31, .c (.int .i64 1)], none⟩,
  ⟨(some 11), .mv, [.t 32], none⟩]))))))
 (.seq (.reg [⟨(some 131), (.call 26), [], none⟩,
  ⟨(some 8), .mv, [.t 131], none⟩])
 .ret)))))
theorem comp3 : compC Go.Proofs.Try.prog ttL 132 [10] (match Go.Proofs.Try.f3.body with | some b => b | none => .skip) = some (c3) := by kernel_rfl
def c22 : C := (.seq (.reg [⟨(some 6), (.alloc [.int .i64 0, .int .i64 0, .int .i64 0, .int .i64 0, .int .i64 0, .int .i64 0, .str ⟨#[]⟩, .sl tEntry [] true, .int .i64 0, .int .i64 0, .int .i64 0, .sl .bool [] true, .sl tI [] true, .sl tI [] true, .int .i64 0]), [], none⟩])
 (.seq (.reg [⟨(some 12), .mv, [.t 1], none⟩,
  ⟨(some 13), .mv, [.t 2], none⟩,
  ⟨(some 14), (.call 31), [.t 12, .t 13], none⟩,
  ⟨(some 7), (.alloc [.int .i64 0, .int .i64 0, .int .i64 0, .int .i64 0, .int .i64 0, .int .i64 0, .str ⟨#[]⟩, .sl tEntry [] true, .int .i64 0, .int .i64 0, .int .i64 0, .sl .bool [] true, .sl tI [] true, .sl tI [] true, .int .i64 0]), [], none⟩,
  ⟨none, (.store 15), [.t 7, .t 14], none⟩])
 (.seq (.seq (.reg [⟨(some 8), .mv, [.c (.int .i64 0)], none⟩])
 (.block 0 (.loop (.seq (.seq (.reg [⟨(some 15), .mv, [.t 8], none⟩,
  ⟨(some 16), .mv, [.t 0], none⟩,
  ⟨(some 17), .len, [.t 16], none⟩,
  ⟨(some 18), (.bin .lss), [.t 15, .t 17], none⟩,
  ⟨(some 19), .mv, [.t 18], none⟩,
  ⟨(some 20), .mv, [.t 8], (some (19, true))⟩,
  ⟨(some 21), (.bin .lss), [.t 20, .c (.int .i64 40)], (some (19, true))⟩,
  ⟨(some 22), .pick, [.t 19, .t 21, .c (.bool false)], none⟩])
 (.cond (.t 22) .skip (.exit 0)))
 (.seq (.block 1 (.seq (.reg [⟨(some 25), .mv, [.t 0], none⟩,
  ⟨(some 26), .mv, [.t 8], none⟩,
  ⟨(some 27), (.idx 1), [.t 25, .t 26], none⟩,
  ⟨(some 28), (.load 1 false), [.t 27], none⟩,
  ⟨(some 29), (.call 23), [.t 28, .c (.int .i64 1073741824)], none⟩,
  ⟨(some 9), .mv, [.t 29], none⟩])
 (.seq (.reg [⟨(some 30), (.load 15 true), [.t 7], none⟩,
  ⟨(some 31), (.call 30), [.t 30], none⟩,
  ⟨(some 10), .mv, [.t 31], none⟩])
 (.seq (.reg [⟨(some 32), .mv, [.t 9], none⟩,
  ⟨(some 33), (.bin .rem), [.t 32, .c (.int .i64 12)], none⟩])
 (.block 2 (.seq (.seq (.reg [⟨(some 48), (.bin .eql), [.t 33, .c (.int .i64 0)], none⟩,
  ⟨(some 47), .mv, [.t 48], none⟩])
 (.cond (.t 47) .skip (.reg [⟨(some 49), (.bin .eql), [.t 33, .c (.int .i64 1)], none⟩,
  ⟨(some 47), .mv, [.t 49], none⟩])))
 (.cond (.t 47) (.seq (.reg [⟨(some 50), (.fld 2), [.t 7], none⟩,
  ⟨(some 51), (.load 1 false), [.t 50], none⟩,
  ⟨(some 52), (.bin .add), [.t 51, .c (.int .i64 1)], none⟩,
  ⟨(some 53), (.fld 2), [.t 7], none⟩,
  ⟨none, (.store 1), [.t 53, .t 52], none⟩])
 (.reg [⟨(some 54), .mv, [.t 9], none⟩,
  ⟨(some 55), (.bin .quo), [.t 54, .c (.int .i64 12)], none⟩,
  ⟨(some 56), (.fld 1), [.t 7], none⟩,
  ⟨(some 57), (.load 1 false), [.t 56], none⟩,
  ⟨(some 58), (.bin .add), [.t 57, .c (.int .i64 1)], none⟩,
  ⟨(some 59), (.bin .rem), [.t 55, .t 58], none⟩,
  ⟨(some 60), (.bin .sub), [.t 59, .c (.int .i64 1)], none⟩,
  ⟨(some 61), (.fld 3), [.t 7], none⟩,
  ⟨none, (.store 1), [.t 61, .t 60], none⟩])) (.seq (.reg [⟨(some 63), (.bin .eql), [.t 33, .c (.int .i64 2)], none⟩,
  ⟨(some 62), .mv, [.t 63], none⟩])
 (.cond (.t 62) (.reg [⟨(some 64), (.fld 10), [.t 7], none⟩,
  ⟨(some 65), (.load 1 false), [.t 64], none⟩,
  ⟨(some 66), .mv, [.t 9], none⟩,
  ⟨(some 67), (.bin .quo), [.t 66, .c (.int .i64 12)], none⟩,
  ⟨(some 68), (.bin .rem), [.t 67, .c (.int .i64 5)], none⟩,
  ⟨(some 69), (.bin .add), [.t 65, .t 68], none⟩,
  ⟨(some 70), .mv, [.t 10], none⟩,
  ⟨(some 71), .mn, [.t 69, .t 70], none⟩,
  ⟨(some 72), (.fld 10), [.t 7], none⟩,
  ⟨none, (.store 1), [.t 72, .t 71], none⟩]) (.seq (.reg [⟨(some 74), (.bin .eql), [.t 33, .c (.int .i64 3)], none⟩,
  ⟨(some 73), .mv, [.t 74], none⟩])
 (.cond (.t 73) (.regd [⟨(some 75), (.load 15 true), [.t 7], none⟩,
  ⟨(some 76), (.fld 4), [.t 7], none⟩,
  ⟨(some 77), (.load 1 false), [.t 76], none⟩,
  ⟨(some 78), .mv, [.t 9], none⟩,
  ⟨(some 79), (.bin .quo), [.t 78, .c (.int .i64 12)], none⟩,
  ⟨(some 80), (.bin .rem), [.t 79, .c (.int .i64 4)], none⟩,
  ⟨(some 81), (.bin .add), [.t 77, .t 80], none⟩,
  ⟨(some 82), .mv, [.t 9], none⟩,
  ⟨(some 83), (.bin .quo), [.t 82, .c (.int .i64 12)], none⟩,
  ⟨(some 84), (.call 50), [.t 83], none⟩,
  ⟨(some 85), (.call 59), [.t 75, .t 81, .t 84], none⟩,
  ⟨none, (.store 15), [.t 7, .t 85], none⟩] [0, 0, 2, 0, 8, 16, 36, 0, 128, 256, 577, 2047]) (.seq (.reg [⟨(some 87), (.bin .eql), [.t 33, .c (.int .i64 4)], none⟩,
  ⟨(some 86), .mv, [.t 87], none⟩])
 (.cond (.t 86) (.seq (.regd [⟨(some 88), .mv, [.t 9], none⟩,
  ⟨(some 89), (.bin .quo), [.t 88, .c (.int .i64 12)], none⟩,
  ⟨(some 90), (.bin .rem), [.t 89, .c (.int .i64 3)], none⟩,
  ⟨(some 91), .mv, [.t 9], none⟩,
  ⟨(some 92), (.bin .quo), [.t 91, .c (.int .i64 36)], none⟩,
  ⟨(some 93), (.fld 1), [.t 7], none⟩,
  ⟨(some 94), (.load 1 false), [.t 93], none⟩,
  ⟨(some 95), (.bin .add), [.t 94, .c (.int .i64 1)], none⟩,
  ⟨(some 96), (.bin .rem), [.t 92, .t 95], none⟩,
  ⟨(some 97), (.bin .sub), [.t 96, .c (.int .i64 1)], none⟩,
  ⟨(some 98), (.fld 8), [.t 7], none⟩,
  ⟨none, (.store 1), [.t 98, .t 90], none⟩,
  ⟨(some 99), (.fld 9), [.t 7], none⟩,
  ⟨none, (.store 1), [.t 99, .t 97], none⟩] [0, 1, 2, 0, 8, 0, 32, 64, 144, 256, 103, 1127, 4095, 8191])
 (.seq (.reg [⟨(some 100), (.fld 11), [.t 7], none⟩,
  ⟨(some 101), (.load 1 false), [.t 100], none⟩,
  ⟨(some 102), (.app 1 1), [.c (.sl .bool [] true), .t 101], none⟩,
  ⟨(some 103), (.fld 11), [.t 7], none⟩,
  ⟨none, (.store 1), [.t 103, .t 102], none⟩])
 (.regd [⟨(some 104), (.fld 11), [.t 7], none⟩,
  ⟨(some 105), (.load 1 false), [.t 104], none⟩,
  ⟨(some 106), .mv, [.t 9], none⟩,
  ⟨(some 107), (.bin .quo), [.t 106, .c (.int .i64 200)], none⟩,
  ⟨(some 108), (.fld 1), [.t 7], none⟩,
  ⟨(some 109), (.load 1 false), [.t 108], none⟩,
  ⟨(some 110), (.bin .rem), [.t 107, .t 109], none⟩,
  ⟨(some 111), (.idx 1), [.t 105, .t 110], none⟩,
  ⟨none, (.store 1), [.t 111, .c (.bool true)], none⟩] [0, 1, 0, 4, 0, 16, 40, 127, 255]))) (.seq (.reg [⟨(some 113), (.bin .eql), [.t 33, .c (.int .i64 5)], none⟩,
  ⟨(some 112), .mv, [.t 113], none⟩])
 (.cond (.t 112) (.seq (.regd [⟨(some 114), (.fld 12), [.t 7], none⟩,
  ⟨(some 115), (.load 1 false), [.t 114], none⟩,
  ⟨(some 116), (.app 1 8), [.c (.sl tI [] true), .t 115], none⟩,
  ⟨(some 117), (.fld 13), [.t 7], none⟩,
  ⟨(some 118), (.load 1 false), [.t 117], none⟩,
  ⟨(some 119), (.app 1 8), [.c (.sl tI [] true), .t 118], none⟩,
  ⟨(some 120), (.fld 12), [.t 7], none⟩,
  ⟨none, (.store 1), [.t 120, .t 116], none⟩,
  ⟨(some 121), (.fld 13), [.t 7], none⟩,
  ⟨none, (.store 1), [.t 121, .t 119], none⟩] [0, 1, 2, 0, 8, 20, 31, 127, 255, 511])
 (.seq (.reg [⟨(some 122), .mv, [.t 9], none⟩,
  ⟨(some 123), (.bin .quo), [.t 122, .c (.int .i64 12)], none⟩,
  ⟨(some 124), (.fld 1), [.t 7], none⟩,
  ⟨(some 125), (.load 1 false), [.t 124], none⟩,
  ⟨(some 126), (.bin .rem), [.t 123, .t 125], none⟩,
  ⟨(some 11), .mv, [.t 126], none⟩])
 (.regd [⟨(some 127), (.fld 12), [.t 7], none⟩,
  ⟨(some 128), (.load 1 false), [.t 127], none⟩,
  ⟨(some 129), .mv, [.t 11], none⟩,
  ⟨(some 130), (.fld 13), [.t 7], none⟩,
  ⟨(some 131), (.load 1 false), [.t 130], none⟩,
  ⟨(some 132), .mv, [.t 11], none⟩,
  ⟨(some 133), .mv, [.t 9], none⟩,
  ⟨(some 134), (.bin .quo), [.t 133, .c (.int .i64 60)], none⟩,
  ⟨(some 135), .mv, [.t 10], none⟩,
  ⟨(some 136), (.bin .add), [.t 135, .c (.int .i64 2)], none⟩,
  ⟨(some 137), (.bin .rem), [.t 134, .t 136], none⟩,
  ⟨(some 138), (.bin .add), [.c (.int .i64 1), .t 137], none⟩,
  ⟨(some 139), .mv, [.t 9], none⟩,
  ⟨(some 140), (.bin .quo), [.t 139, .c (.int .i64 600)], none⟩,
  ⟨(some 141), .mv, [.t 10], none⟩,
  ⟨(some 142), (.bin .add), [.t 141, .c (.int .i64 1)], none⟩,
  ⟨(some 143), (.bin .rem), [.t 140, .t 142], none⟩,
  ⟨(some 144), (.idx 1), [.t 128, .t 129], none⟩,
  ⟨none, (.store 1), [.t 144, .t 138], none⟩,
  ⟨(some 145), (.idx 1), [.t 131, .t 132], none⟩,
  ⟨none, (.store 1), [.t 145, .t 143], none⟩] [0, 1, 0, 0, 8, 0, 0, 64, 0, 256, 640, 1024, 0, 4096, 0, 16384, 40960, 4039, 135111, 524287, 1048575]))) (.seq (.reg [⟨(some 147), (.bin .eql), [.t 33, .c (.int .i64 6)], none⟩,
  ⟨(some 146), .mv, [.t 147], none⟩])
 (.cond (.t 146) (.reg [⟨(some 148), .mv, [.t 9], none⟩,
  ⟨(some 149), (.bin .quo), [.t 148, .c (.int .i64 12)], none⟩,
  ⟨(some 150), (.bin .rem), [.t 149, .c (.int .i64 30)], none⟩,
  ⟨(some 151), (.fld 14), [.t 7], none⟩,
  ⟨none, (.store 1), [.t 151, .t 150], none⟩]) (.regd [⟨(some 34), (.fld 7), [.t 7], none⟩,
  ⟨(some 35), (.load 1 false), [.t 34], none⟩,
  ⟨(some 36), (.app 2 24), [.c (.sl tEntry [] true), .t 35], none⟩,
  ⟨(some 37), (.fld 2), [.t 7], none⟩,
  ⟨(some 38), (.load 1 false), [.t 37], none⟩,
  ⟨(some 39), .mv, [.t 9], none⟩,
  ⟨(some 40), (.bin .quo), [.t 39, .c (.int .i64 12)], none⟩,
  ⟨(some 41), (.bin .rem), [.t 40, .c (.int .i64 1000)], none⟩,
  ⟨(some 42), (.call 50), [.t 41], none⟩,
  ⟨(some 43), (.build [.int .i64 0, .str ⟨#[]⟩] [(0, 1), (1, 1)]), [.t 38, .t 42], none⟩,
  ⟨(some 44), (.bslice tEntry 1), [.t 43], none⟩,
  ⟨(some 45), (.app 2 24), [.t 36, .t 44], none⟩,
  ⟨(some 46), (.fld 7), [.t 7], none⟩,
  ⟨none, (.store 1), [.t 46, .t 45], none⟩] [0, 1, 2, 0, 8, 0, 32, 64, 132, 272, 512, 1284, 4095, 8191]))))))))))))))))))
 (.reg [⟨(some 23), .mv, [.t 8], none⟩,
  ⟨(some 24), (.bin .add), [.t 23, .c (.int .i64 1)], none⟩,
  ⟨(some 8), .mv, [.t 24], none⟩]))))))
 (.seq (.reg [⟨(some 152), (.load 15 true), [.t 7], none⟩,
  ⟨none, (.store 15), [.t 6, .t 152], none⟩])
 .ret))))
theorem comp22 : compC Go.Proofs.Try.prog ttL 153 [] (match Go.Proofs.Try.f22.body with | some b => b | none => .skip) = some (c22) := by kernel_rfl
def c23 : C := (.seq (.reg [⟨(some 4), .mv, [.c (.int .i64 0)], none⟩])
 (.seq (.reg [⟨(some 6), .mv, [.t 0], none⟩,
  ⟨(some 7), .mv, [.t 1], none⟩,
  ⟨(some 8), (.bin .rem), [.t 6, .t 7], none⟩,
  ⟨(some 5), .mv, [.t 8], none⟩])
 (.seq (.seq (.reg [⟨(some 9), .mv, [.t 5], none⟩,
  ⟨(some 10), (.bin .lss), [.t 9, .c (.int .i64 0)], none⟩])
 (.cond (.t 10) (.reg [⟨(some 11), .mv, [.t 5], none⟩,
  ⟨(some 12), .mv, [.t 1], none⟩,
  ⟨(some 13), (.bin .add), [.t 11, .t 12], none⟩,
  ⟨(some 5), .mv, [.t 13], none⟩]) .skip))
 (.seq (.reg [⟨(some 14), .mv, [.t 5], none⟩,
  ⟨(some 4), .mv, [.t 14], none⟩])
 .ret))))
theorem comp23 : compC Go.Proofs.Try.prog ttL 15 [] (match Go.Proofs.Try.f23.body with | some b => b | none => .skip) = some (c23) := by kernel_rfl
def c24 : C := (.seq (.reg [⟨(some 6), .box, [.t 2], none⟩,
  ⟨(some 8), (.alloc [.int .i64 0, .int .i64 0, .int .i64 0, .int .i64 0, .int .i64 0, .int .i64 0, .bool false, .int .i64 0, .sl tEntry [] true, .str ⟨#[]⟩]), [], none⟩])
 (.seq (.reg [⟨(some 15), .mv, [.t 0], none⟩,
  ⟨(some 16), (.call 23), [.t 15, .c (.int .i64 1073741824)], none⟩,
  ⟨(some 17), .mv, [.t 1], none⟩,
  ⟨(some 18), (.call 23), [.t 17, .c (.int .i64 1073741824)], none⟩,
  ⟨(some 9), .mv, [.t 16], none⟩,
  ⟨(some 10), .mv, [.t 18], none⟩])
 (.seq (.regd [⟨(some 19), .mv, [.t 9], none⟩,
  ⟨(some 20), (.bin .rem), [.t 19, .c (.int .i64 5)], none⟩,
  ⟨(some 21), (.bin .add), [.c (.int .i64 1), .t 20], none⟩,
  ⟨(some 22), (.fld 0), [.t 6], none⟩,
  ⟨(some 23), (.load 1 false), [.t 22], none⟩,
  ⟨(some 24), (.fld 0), [.t 6], none⟩,
  ⟨(some 25), (.load 1 false), [.t 24], none⟩,
  ⟨(some 26), (.bin .add), [.t 25, .c (.int .i64 1)], none⟩,
  ⟨(some 27), .mv, [.t 9], none⟩,
  ⟨(some 28), (.bin .quo), [.t 27, .c (.int .i64 5)], none⟩,
  ⟨(some 29), (.fld 1), [.t 6], none⟩,
  ⟨(some 30), (.load 1 false), [.t 29], none⟩,
  ⟨(some 31), (.bin .sub), [.t 30, .c (.int .i64 1)], none⟩,
  ⟨(some 32), .mx, [.t 31, .c (.int .i64 1)], none⟩,
  ⟨(some 33), (.bin .rem), [.t 28, .t 32], none⟩,
  ⟨(some 34), (.bin .add), [.t 26, .t 33], none⟩,
  ⟨(some 35), (.fld 1), [.t 6], none⟩,
  ⟨(some 36), (.load 1 false), [.t 35], none⟩,
  ⟨(some 37), (.bin .rem), [.t 34, .t 36], none⟩,
  ⟨(some 38), (.fld 2), [.t 6], none⟩,
  ⟨(some 39), (.load 1 false), [.t 38], none⟩,
  ⟨(some 40), (.bin .sub), [.t 39, .c (.int .i64 1)], none⟩,
  ⟨(some 41), .mv, [.t 9], none⟩,
  ⟨(some 42), (.bin .quo), [.t 41, .c (.int .i64 25)], none⟩,
  ⟨(some 43), (.bin .rem), [.t 42, .c (.int .i64 3)], none⟩,
  ⟨(some 44), (.bin .add), [.t 40, .t 43], none⟩,
  ⟨(some 45), .mx, [.t 44, .c (.int .i64 1)], none⟩,
  ⟨(some 46), (.build [.int .i64 0, .int .i64 0, .int .i64 0, .int .i64 0, .int .i64 0, .int .i64 0, .bool false, .int .i64 0, .sl tEntry [] true, .str ⟨#[]⟩] [(0, 1), (2, 1), (1, 1), (3, 1)]), [.t 21, .t 23, .t 37, .t 45], none⟩,
  ⟨(some 11), (.alloc [.int .i64 0, .int .i64 0, .int .i64 0, .int .i64 0, .int .i64 0, .int .i64 0, .bool false, .int .i64 0, .sl tEntry [] true, .str ⟨#[]⟩]), [], none⟩,
  ⟨none, (.store 10), [.t 11, .t 46], none⟩] [0, 1, 2, 0, 8, 0, 32, 64, 0, 256, 0, 1024, 2048, 4096, 8704, 16512, 0, 65536, 163840, 0, 524288, 1048576, 0, 4194304, 8388608, 18874368, 33554432, 67371028, 0, 536870911])
 (.seq (.reg [⟨(some 47), (.fld 4), [.t 6], none⟩,
  ⟨(some 48), (.load 1 false), [.t 47], none⟩,
  ⟨(some 49), (.fld 7), [.t 6], none⟩,
  ⟨(some 50), (.load 1 false), [.t 49], none⟩,
  ⟨(some 51), .len, [.t 50], none⟩,
  ⟨(some 52), (.bin .add), [.t 48, .t 51], none⟩,
  ⟨(some 12), .mv, [.t 52], none⟩])
 (.seq (.regd [⟨(some 53), .mv, [.t 12], none⟩,
  ⟨(some 54), (.bin .sub), [.t 53, .c (.int .i64 3)], none⟩,
  ⟨(some 55), .mv, [.t 10], none⟩,
  ⟨(some 56), (.bin .rem), [.t 55, .c (.int .i64 6)], none⟩,
  ⟨(some 57), (.bin .add), [.t 54, .t 56], none⟩,
  ⟨(some 58), .mx, [.t 57, .c (.int .i64 0)], none⟩,
  ⟨(some 59), (.fld 2), [.t 6], none⟩,
  ⟨(some 60), (.load 1 false), [.t 59], none⟩,
  ⟨(some 61), (.bin .sub), [.t 60, .c (.int .i64 1)], none⟩,
  ⟨(some 62), .mv, [.t 10], none⟩,
  ⟨(some 63), (.bin .quo), [.t 62, .c (.int .i64 6)], none⟩,
  ⟨(some 64), (.bin .rem), [.t 63, .c (.int .i64 3)], none⟩,
  ⟨(some 65), (.bin .add), [.t 61, .t 64], none⟩,
  ⟨(some 66), .mx, [.t 65, .c (.int .i64 0)], none⟩,
  ⟨(some 67), .mv, [.t 10], none⟩,
  ⟨(some 68), (.bin .quo), [.t 67, .c (.int .i64 18)], none⟩,
  ⟨(some 69), .mv, [.t 12], none⟩,
  ⟨(some 70), (.bin .add), [.t 69, .c (.int .i64 3)], none⟩,
  ⟨(some 71), (.bin .rem), [.t 68, .t 70], none⟩,
  ⟨(some 72), .mv, [.t 10], none⟩,
  ⟨(some 73), (.bin .quo), [.t 72, .c (.int .i64 900)], none⟩,
  ⟨(some 74), (.bin .rem), [.t 73, .c (.int .i64 3)], none⟩,
  ⟨(some 75), (.bin .gtr), [.t 74, .c (.int .i64 0)], none⟩,
  ⟨(some 76), (.fld 4), [.t 11], none⟩,
  ⟨none, (.store 1), [.t 76, .t 58], none⟩,
  ⟨(some 77), (.fld 5), [.t 11], none⟩,
  ⟨none, (.store 1), [.t 77, .t 66], none⟩,
  ⟨(some 78), (.fld 7), [.t 11], none⟩,
  ⟨none, (.store 1), [.t 78, .t 71], none⟩,
  ⟨(some 79), (.fld 6), [.t 11], none⟩,
  ⟨none, (.store 1), [.t 79, .t 75], none⟩] [0, 1, 0, 4, 10, 16, 0, 64, 128, 0, 512, 1024, 2304, 4096, 0, 16384, 0, 65536, 163840, 0, 524288, 1048576, 2097152, 63, 8388671, 25182207, 58736639, 126353407, 260571135, 536870911, 1073741823])
 (.seq (.seq (.reg [⟨(some 81), (.load 15 true), [.t 6], none⟩,
  ⟨(some 82), (.fld 4), [.t 11], none⟩,
  ⟨(some 83), (.load 1 false), [.t 82], none⟩,
  ⟨(some 84), (.call 29), [.t 81, .t 83], none⟩,
  ⟨(some 80), .mv, [.t 84], none⟩,
  ⟨(some 85), (.ext 0), [.t 80], none⟩,
  ⟨(some 86), (.ext 1), [.t 80], none⟩,
  ⟨(some 13), .mv, [.t 85], none⟩,
  ⟨(some 14), .mv, [.t 86], none⟩])
 (.seq (.reg [⟨(some 87), .mv, [.t 14], none⟩,
  ⟨(some 88), .mv, [.t 87], none⟩,
  ⟨(some 89), .mv, [.t 10], (some (88, true))⟩,
  ⟨(some 90), (.bin .quo), [.t 89, .c (.int .i64 2700)], (some (88, true))⟩,
  ⟨(some 91), (.bin .rem), [.t 90, .c (.int .i64 2)], (some (88, true))⟩,
  ⟨(some 92), (.bin .eql), [.t 91, .c (.int .i64 0)], (some (88, true))⟩,
  ⟨(some 93), .pick, [.t 88, .t 92, .c (.bool false)], none⟩])
 (.cond (.t 93) (.reg [⟨(some 94), .mv, [.t 13], none⟩,
  ⟨(some 95), (.fld 5), [.t 11], none⟩,
  ⟨none, (.store 1), [.t 95, .t 94], none⟩]) .skip)))
 (.seq (.seq (.reg [⟨(some 96), (.fld 0), [.t 11], none⟩,
  ⟨(some 97), (.load 1 false), [.t 96], none⟩,
  ⟨(some 98), (.bin .eql), [.t 97, .c (.int .i64 3)], none⟩])
 (.cond (.t 98) (.reg [⟨(some 99), .mv, [.t 3], none⟩,
  ⟨(some 100), (.fld 3), [.t 11], none⟩,
  ⟨(some 101), (.load 1 false), [.t 100], none⟩,
  ⟨(some 102), (.call 35), [.t 99, .t 101], none⟩,
  ⟨(some 103), (.fld 8), [.t 11], none⟩,
  ⟨none, (.store 1), [.t 103, .t 102], none⟩]) .skip))
 (.seq (.seq (.reg [⟨(some 104), (.fld 0), [.t 11], none⟩,
  ⟨(some 105), (.load 1 false), [.t 104], none⟩,
  ⟨(some 106), (.bin .eql), [.t 105, .c (.int .i64 5)], none⟩])
 (.cond (.t 106) (.reg [⟨(some 107), .mv, [.t 10], none⟩,
  ⟨(some 108), (.bin .rem), [.t 107, .c (.int .i64 100)], none⟩,
  ⟨(some 109), (.call 50), [.t 108], none⟩,
  ⟨(some 110), (.bin .add), [.c (.str ⟨#[115, 110, 97, 112]⟩), .t 109], none⟩,
  ⟨(some 111), (.fld 9), [.t 11], none⟩,
  ⟨none, (.store 1), [.t 111, .t 110], none⟩]) .skip))
 (.seq (.reg [⟨(some 112), (.load 10 true), [.t 11], none⟩,
  ⟨none, (.store 10), [.t 8, .t 112], none⟩])
 .ret)))))))))
theorem comp24 : compC Go.Proofs.Try.prog ttL 113 [] (match Go.Proofs.Try.f24.body with | some b => b | none => .skip) = some (c24) := by kernel_rfl
def c25 : C := (.seq (.reg [⟨(some 2), .box, [.t 0], none⟩,
  ⟨(some 3), .box, [.t 1], none⟩,
  ⟨(some 4), (.alloc [.int .i64 0, .int .i64 0, .int .i64 0, .int .i64 0, .int .i64 0, .int .i64 0, .str ⟨#[]⟩, .sl tEntry [] true, .int .i64 0, .int .i64 0, .int .i64 0, .sl .bool [] true, .sl tI [] true, .sl tI [] true, .int .i64 0]), [], none⟩,
  ⟨(some 5), .mv, [.c (.sl tMsg [] true)], none⟩])
 (.seq (.reg [⟨(some 11), (.load 15 true), [.t 2], none⟩,
  ⟨(some 12), (.fld 3), [.t 3], none⟩,
  ⟨(some 13), (.load 1 false), [.t 12], none⟩,
  ⟨(some 14), (.call 32), [.t 11, .t 13], none⟩,
  ⟨none, (.store 15), [.t 2, .t 14], none⟩])
 (.seq (.reg [⟨(some 15), (.load 15 true), [.t 2], none⟩,
  ⟨(some 16), (.call 52), [.t 15], none⟩,
  ⟨(some 6), .mv, [.t 16], none⟩])
 (.seq (.reg [⟨(some 18), (.load 15 true), [.t 2], none⟩,
  ⟨(some 19), .mv, [.t 6], none⟩,
  ⟨(some 20), (.call 48), [.t 18, .t 19], none⟩,
  ⟨(some 17), .mv, [.t 20], none⟩,
  ⟨(some 21), (.ext 0), [.t 17], none⟩,
  ⟨(some 22), (.ext 1), [.t 17], none⟩,
  ⟨(some 7), .mv, [.t 21], none⟩,
  ⟨(some 8), .mv, [.t 22], none⟩])
 (.seq (.reg [⟨(some 23), (.fld 5), [.t 3], none⟩,
  ⟨(some 24), (.load 1 false), [.t 23], none⟩,
  ⟨(some 25), .mv, [.t 7], none⟩,
  ⟨(some 26), (.bin .gtr), [.t 24, .t 25], none⟩,
  ⟨(some 27), .mv, [.t 26], none⟩,
  ⟨(some 28), (.fld 5), [.t 3], (some (27, false))⟩,
  ⟨(some 29), (.load 1 false), [.t 28], (some (27, false))⟩,
  ⟨(some 30), .mv, [.t 7], (some (27, false))⟩,
  ⟨(some 31), (.bin .eql), [.t 29, .t 30], (some (27, false))⟩,
  ⟨(some 32), .mv, [.t 31], (some (27, false))⟩,
  ⟨(some 33), (.fld 4), [.t 3], (some (32, true))⟩,
  ⟨(some 34), (.load 1 false), [.t 33], (some (32, true))⟩,
  ⟨(some 35), .mv, [.t 6], (some (32, true))⟩,
  ⟨(some 36), (.bin .geq), [.t 34, .t 35], (some (32, true))⟩,
  ⟨(some 37), .pick, [.t 32, .t 36, .c (.bool false)], (some (27, false))⟩,
  ⟨(some 38), .pick, [.t 27, .c (.bool true), .t 37], none⟩,
  ⟨(some 9), .mv, [.t 38], none⟩])
 (.seq (.reg [⟨(some 39), (.fld 3), [.t 3], none⟩,
  ⟨(some 40), (.load 1 false), [.t 39], none⟩,
  ⟨(some 41), (.fld 2), [.t 2], none⟩,
  ⟨(some 42), (.load 1 false), [.t 41], none⟩,
  ⟨(some 43), (.bin .eql), [.t 40, .t 42], none⟩,
  ⟨(some 44), .mv, [.t 43], none⟩,
  ⟨(some 45), (.fld 3), [.t 2], (some (44, true))⟩,
  ⟨(some 46), (.load 1 false), [.t 45], (some (44, true))⟩,
  ⟨(some 47), (.bin .eql), [.t 46, .c (.int .i64 (-1))], (some (44, true))⟩,
  ⟨(some 48), .mv, [.t 47], (some (44, true))⟩,
  ⟨(some 49), (.fld 3), [.t 2], (some (48, false))⟩,
  ⟨(some 50), (.load 1 false), [.t 49], (some (48, false))⟩,
  ⟨(some 51), (.fld 1), [.t 3], (some (48, false))⟩,
  ⟨(some 52), (.load 1 false), [.t 51], (some (48, false))⟩,
  ⟨(some 53), (.bin .eql), [.t 50, .t 52], (some (48, false))⟩,
  ⟨(some 54), .pick, [.t 48, .c (.bool true), .t 53], (some (44, true))⟩,
  ⟨(some 55), .pick, [.t 44, .t 54, .c (.bool false)], none⟩,
  ⟨(some 56), .mv, [.t 55], none⟩,
  ⟨(some 57), .mv, [.t 9], (some (56, true))⟩,
  ⟨(some 58), .pick, [.t 56, .t 57, .c (.bool false)], none⟩,
  ⟨(some 10), .mv, [.t 58], none⟩])
 (.seq (.seq (.reg [⟨(some 59), .mv, [.t 10], none⟩])
 (.cond (.t 59) (.reg [⟨(some 60), (.fld 1), [.t 3], none⟩,
  ⟨(some 61), (.load 1 false), [.t 60], none⟩,
  ⟨(some 62), (.fld 3), [.t 2], none⟩,
  ⟨none, (.store 1), [.t 62, .t 61], none⟩,
  ⟨(some 63), (.fld 14), [.t 2], none⟩,
  ⟨none, (.store 1), [.t 63, .c (.int .i64 0)], none⟩]) .skip))
 (.seq (.regd [⟨(some 64), (.load 15 true), [.t 2], none⟩,
  ⟨(some 65), (.fld 0), [.t 2], none⟩,
  ⟨(some 66), (.load 1 false), [.t 65], none⟩,
  ⟨(some 67), (.fld 1), [.t 3], none⟩,
  ⟨(some 68), (.load 1 false), [.t 67], none⟩,
  ⟨(some 69), (.fld 2), [.t 2], none⟩,
  ⟨(some 70), (.load 1 false), [.t 69], none⟩,
  ⟨(some 71), .mv, [.t 10], none⟩,
  ⟨(some 72), (.build [.int .i64 0, .int .i64 0, .int .i64 0, .int .i64 0, .int .i64 0, .int .i64 0, .bool false, .int .i64 0, .sl tEntry [] true, .str ⟨#[]⟩] [(0, 1), (1, 1), (2, 1), (3, 1), (6, 1)]), [.c (.int .i64 2), .t 66, .t 68, .t 70, .t 71], none⟩,
  ⟨(some 73), (.bslice tMsg 1), [.t 72], none⟩,
  ⟨none, (.store 15), [.t 4, .t 64], none⟩,
  ⟨(some 5), .mv, [.t 73], none⟩] [0, 0, 2, 0, 8, 0, 32, 0, 212, 256, 1, 2047])
 .ret))))))))
theorem comp25 : compC Go.Proofs.Try.prog ttL 74 [] (match Go.Proofs.Try.f25.body with | some b => b | none => .skip) = some (c25) := by kernel_rfl
def c26 : C := (.seq (.reg [⟨(some 0), .mv, [.c (.bool false)], none⟩])
 (.seq (.reg [⟨(some 6), (.call 31), [.c (.int .i64 0), .c (.int .i64 3)], none⟩,
  ⟨(some 7), (.call 27), [.t 6], none⟩,
  ⟨(some 5), .mv, [.t 7], none⟩,
  ⟨(some 8), (.ext 0), [.t 5], none⟩,
  ⟨(some 9), (.ext 1), [.t 5], none⟩,
  ⟨(some 1), (.alloc [.int .i64 0, .int .i64 0, .int .i64 0, .int .i64 0, .int .i64 0, .int .i64 0, .str ⟨#[]⟩, .sl tEntry [] true, .int .i64 0, .int .i64 0, .int .i64 0, .sl .bool [] true, .sl tI [] true, .sl tI [] true, .int .i64 0]), [], none⟩,
  ⟨none, (.store 15), [.t 1, .t 8], none⟩,
  ⟨(some 2), .mv, [.t 9], none⟩])
 (.seq (.reg [⟨(some 11), (.call 31), [.c (.int .i64 1), .c (.int .i64 3)], none⟩,
  ⟨(some 12), .mv, [.t 2], none⟩,
  ⟨(some 13), (.call 28), [.t 12], none⟩,
  ⟨(some 14), (.call 25), [.t 11, .t 13], none⟩,
  ⟨(some 10), .mv, [.t 14], none⟩,
  ⟨(some 15), (.ext 0), [.t 10], none⟩,
  ⟨(some 16), (.ext 1), [.t 10], none⟩,
  ⟨(some 3), (.alloc [.int .i64 0, .int .i64 0, .int .i64 0, .int .i64 0, .int .i64 0, .int .i64 0, .str ⟨#[]⟩, .sl tEntry [] true, .int .i64 0, .int .i64 0, .int .i64 0, .sl .bool [] true, .sl tI [] true, .sl tI [] true, .int .i64 0]), [], none⟩,
  ⟨none, (.store 15), [.t 3, .t 15], none⟩,
  ⟨(some 4), .mv, [.t 16], none⟩])
 (.seq (.reg [⟨(some 17), .mv, [.t 2], none⟩,
  ⟨(some 18), .len, [.t 17], none⟩,
  ⟨(some 19), (.bin .eql), [.t 18, .c (.int .i64 2)], none⟩,
  ⟨(some 20), .mv, [.t 19], none⟩,
  ⟨(some 21), (.fld 2), [.t 1], (some (20, true))⟩,
  ⟨(some 22), (.load 1 false), [.t 21], (some (20, true))⟩,
  ⟨(some 23), (.bin .eql), [.t 22, .c (.int .i64 1)], (some (20, true))⟩,
  ⟨(some 24), .pick, [.t 20, .t 23, .c (.bool false)], none⟩,
  ⟨(some 25), .mv, [.t 24], none⟩,
  ⟨(some 26), (.fld 3), [.t 1], (some (25, true))⟩,
  ⟨(some 27), (.load 1 false), [.t 26], (some (25, true))⟩,
  ⟨(some 28), (.bin .eql), [.t 27, .c (.int .i64 0)], (some (25, true))⟩,
  ⟨(some 29), .pick, [.t 25, .t 28, .c (.bool false)], none⟩,
  ⟨(some 30), .mv, [.t 29], none⟩,
  ⟨(some 31), (.fld 3), [.t 3], (some (30, true))⟩,
  ⟨(some 32), (.load 1 false), [.t 31], (some (30, true))⟩,
  ⟨(some 33), (.bin .eql), [.t 32, .c (.int .i64 0)], (some (30, true))⟩,
  ⟨(some 34), .pick, [.t 30, .t 33, .c (.bool false)], none⟩,
  ⟨(some 35), .mv, [.t 34], none⟩,
  ⟨(some 36), .mv, [.t 4], (some (35, true))⟩,
  ⟨(some 37), .len, [.t 36], (some (35, true))⟩,
  ⟨(some 38), (.bin .eql), [.t 37, .c (.int .i64 1)], (some (35, true))⟩,
  ⟨(some 39), .pick, [.t 35, .t 38, .c (.bool false)], none⟩,
  ⟨(some 40), .mv, [.t 39], none⟩,
  ⟨(some 41), .mv, [.t 4], (some (40, true))⟩,
  ⟨(some 42), (.idx 10), [.t 41, .c (.int .i64 0)], (some (40, true))⟩,
  ⟨(some 43), (.fld 6), [.t 42], (some (40, true))⟩,
  ⟨(some 44), (.load 1 false), [.t 43], (some (40, true))⟩,
  ⟨(some 45), .pick, [.t 40, .t 44, .c (.bool false)], none⟩,
  ⟨(some 46), .mv, [.t 45], none⟩,
  ⟨(some 47), (.load 15 true), [.t 1], (some (46, true))⟩,
  ⟨(some 48), (.call 44), [.t 47], (some (46, true))⟩,
  ⟨(some 49), (.bin .eql), [.t 48, .c (.int .i64 2)], (some (46, true))⟩,
  ⟨(some 50), .pick, [.t 46, .t 49, .c (.bool false)], none⟩,
  ⟨(some 0), .mv, [.t 50], none⟩])
 .ret))))
theorem comp26 : compC Go.Proofs.Try.prog ttL 51 [] (match Go.Proofs.Try.f26.body with | some b => b | none => .skip) = some (c26) := by kernel_rfl
def c27 : C := (.seq (.reg [⟨(some 1), .box, [.t 0], none⟩,
  ⟨(some 2), (.alloc [.int .i64 0, .int .i64 0, .int .i64 0, .int .i64 0, .int .i64 0, .int .i64 0, .str ⟨#[]⟩, .sl tEntry [] true, .int .i64 0, .int .i64 0, .int .i64 0, .sl .bool [] true, .sl tI [] true, .sl tI [] true, .int .i64 0]), [], none⟩,
  ⟨(some 3), .mv, [.c (.sl tMsg [] true)], none⟩])
 (.seq (.reg [⟨(some 9), (.fld 2), [.t 1], none⟩,
  ⟨(some 10), (.load 1 false), [.t 9], none⟩,
  ⟨(some 11), (.bin .add), [.t 10, .c (.int .i64 1)], none⟩,
  ⟨(some 12), (.fld 2), [.t 1], none⟩,
  ⟨none, (.store 1), [.t 12, .t 11], none⟩])
 (.seq (.reg [⟨(some 13), (.fld 0), [.t 1], none⟩,
  ⟨(some 14), (.load 1 false), [.t 13], none⟩,
  ⟨(some 15), (.fld 8), [.t 1], none⟩,
  ⟨none, (.store 1), [.t 15, .c (.int .i64 1)], none⟩,
  ⟨(some 16), (.fld 9), [.t 1], none⟩,
  ⟨none, (.store 1), [.t 16, .c (.int .i64 (-1))], none⟩,
  ⟨(some 17), (.fld 14), [.t 1], none⟩,
  ⟨none, (.store 1), [.t 17, .c (.int .i64 0)], none⟩,
  ⟨(some 18), (.fld 3), [.t 1], none⟩,
  ⟨none, (.store 1), [.t 18, .t 14], none⟩])
 (.seq (.reg [⟨(some 19), (.load 15 true), [.t 1], none⟩,
  ⟨(some 20), (.call 91), [.t 19], none⟩,
  ⟨none, (.store 15), [.t 1, .t 20], none⟩])
 (.seq (.reg [⟨(some 21), (.load 15 true), [.t 1], none⟩,
  ⟨(some 22), (.call 52), [.t 21], none⟩,
  ⟨(some 4), .mv, [.t 22], none⟩])
 (.seq (.reg [⟨(some 24), (.load 15 true), [.t 1], none⟩,
  ⟨(some 25), .mv, [.t 4], none⟩,
  ⟨(some 26), (.call 48), [.t 24, .t 25], none⟩,
  ⟨(some 23), .mv, [.t 26], none⟩,
  ⟨(some 27), (.ext 0), [.t 23], none⟩,
  ⟨(some 28), (.ext 1), [.t 23], none⟩,
  ⟨(some 5), .mv, [.t 27], none⟩,
  ⟨(some 6), .mv, [.t 28], none⟩])
 (.seq (.reg [⟨(some 7), .mv, [.c (.sl tMsg [] true)], none⟩])
 (.seq (.seq (.reg [⟨(some 29), (.fld 11), [.t 1], none⟩,
  ⟨(some 30), (.load 1 false), [.t 29], none⟩,
  ⟨(some 31), .len, [.t 30], none⟩,
  ⟨(some 32), .mv, [.c (.int .i64 0)], none⟩])
 (.block 0 (.loop (.seq (.reg [⟨(some 33), (.bin .lss), [.t 32, .t 31], none⟩])
 (.seq (.cond (.t 33) .skip (.exit 0))
 (.seq (.block 1 (.seq (.reg [⟨(some 34), .mv, [.t 32], none⟩,
  ⟨(some 8), .mv, [.t 34], none⟩])
 (.seq (.reg [⟨(some 35), .mv, [.t 8], none⟩,
  ⟨(some 36), (.fld 0), [.t 1], none⟩,
  ⟨(some 37), (.load 1 false), [.t 36], none⟩,
  ⟨(some 38), (.bin .neq), [.t 35, .t 37], none⟩])
 (.cond (.t 38) (.reg [⟨(some 39), .mv, [.t 7], none⟩,
  ⟨(some 40), (.fld 0), [.t 1], none⟩,
  ⟨(some 41), (.load 1 false), [.t 40], none⟩,
  ⟨(some 42), .mv, [.t 8], none⟩,
  ⟨(some 43), (.fld 2), [.t 1], none⟩,
  ⟨(some 44), (.load 1 false), [.t 43], none⟩,
  ⟨(some 45), .mv, [.t 4], none⟩,
  ⟨(some 46), .mv, [.t 5], none⟩,
  ⟨(some 47), (.build [.int .i64 0, .int .i64 0, .int .i64 0, .int .i64 0, .int .i64 0, .int .i64 0, .bool false, .int .i64 0, .sl tEntry [] true, .str ⟨#[]⟩] [(0, 1), (1, 1), (2, 1), (3, 1), (4, 1), (5, 1)]), [.c (.int .i64 1), .t 41, .t 42, .t 44, .t 45, .t 46], none⟩,
  ⟨(some 48), (.bslice tMsg 1), [.t 47], none⟩,
  ⟨(some 49), (.app 10 104), [.t 39, .t 48], none⟩,
  ⟨(some 7), .mv, [.t 49], none⟩]) .skip))))
 (.reg [⟨(some 50), (.bin .add), [.t 32, .c (.int .i64 1)], none⟩,
  ⟨(some 32), .mv, [.t 50], none⟩])))))))
 (.seq (.reg [⟨(some 51), (.load 15 true), [.t 1], none⟩,
  ⟨(some 52), .mv, [.t 7], none⟩,
  ⟨none, (.store 15), [.t 2, .t 51], none⟩,
  ⟨(some 3), .mv, [.t 52], none⟩])
 .ret)))))))))
theorem comp27 : compC Go.Proofs.Try.prog ttL 53 [] (match Go.Proofs.Try.f27.body with | some b => b | none => .skip) = some (c27) := by kernel_rfl
def c28 : C := (.seq (.reg [⟨(some 2), (.alloc [.int .i64 0, .int .i64 0, .int .i64 0, .int .i64 0, .int .i64 0, .int .i64 0, .bool false, .int .i64 0, .sl tEntry [] true, .str ⟨#[]⟩]), [], none⟩])
 (.seq (.seq (.reg [⟨(some 3), .mv, [.t 0], none⟩,
  ⟨(some 4), .len, [.t 3], none⟩,
  ⟨(some 5), (.bin .eql), [.t 4, .c (.int .i64 0)], none⟩])
 (.cond (.t 5) (.seq (.reg [⟨(some 6), (.build [.int .i64 0, .int .i64 0, .int .i64 0, .int .i64 0, .int .i64 0, .int .i64 0, .bool false, .int .i64 0, .sl tEntry [] true, .str ⟨#[]⟩] []), [], none⟩,
  ⟨none, (.store 10), [.t 2, .t 6], none⟩])
 .ret) .skip))
 (.seq (.reg [⟨(some 7), .mv, [.t 0], none⟩,
  ⟨(some 8), (.idx 10), [.t 7, .c (.int .i64 0)], none⟩,
  ⟨(some 9), (.load 10 true), [.t 8], none⟩,
  ⟨none, (.store 10), [.t 2, .t 9], none⟩])
 .ret)))
theorem comp28 : compC Go.Proofs.Try.prog ttL 10 [] (match Go.Proofs.Try.f28.body with | some b => b | none => .skip) = some (c28) := by kernel_rfl
def c29 : C := (.seq (.reg [⟨(some 2), .box, [.t 0], none⟩,
  ⟨(some 4), .mv, [.c (.int .i64 0)], none⟩,
  ⟨(some 5), .mv, [.c (.bool false)], none⟩])
 (.seq (.block 0 (.seq (.reg [⟨(some 7), .mv, [.t 1], none⟩,
  ⟨(some 8), (.fld 4), [.t 2], none⟩,
  ⟨(some 9), (.load 1 false), [.t 8], none⟩,
  ⟨(some 10), (.bin .eql), [.t 7, .t 9], none⟩,
  ⟨(some 6), .mv, [.t 10], none⟩])
 (.cond (.t 6) (.seq (.reg [⟨(some 11), (.fld 5), [.t 2], none⟩,
  ⟨(some 12), (.load 1 false), [.t 11], none⟩,
  ⟨(some 4), .mv, [.t 12], none⟩,
  ⟨(some 5), .mv, [.c (.bool true)], none⟩])
 .ret) (.seq (.reg [⟨(some 14), .mv, [.t 1], none⟩,
  ⟨(some 15), (.fld 4), [.t 2], none⟩,
  ⟨(some 16), (.load 1 false), [.t 15], none⟩,
  ⟨(some 17), (.bin .lss), [.t 14, .t 16], none⟩,
  ⟨(some 18), .mv, [.t 17], none⟩,
  ⟨(some 19), .mv, [.t 1], (some (18, false))⟩,
  ⟨(some 20), (.load 15 true), [.t 2], (some (18, false))⟩,
  ⟨(some 21), (.call 30), [.t 20], (some (18, false))⟩,
  ⟨(some 22), (.bin .gtr), [.t 19, .t 21], (some (18, false))⟩,
  ⟨(some 23), .pick, [.t 18, .c (.bool true), .t 22], none⟩,
  ⟨(some 13), .mv, [.t 23], none⟩])
 (.cond (.t 13) (.seq (.reg [⟨(some 4), .mv, [.c (.int .i64 0)], none⟩,
  ⟨(some 5), .mv, [.c (.bool false)], none⟩])
 .ret) .skip)))))
 (.seq (.reg [⟨(some 24), (.fld 7), [.t 2], none⟩,
  ⟨(some 25), (.load 1 false), [.t 24], none⟩,
  ⟨(some 26), .mv, [.t 1], none⟩,
  ⟨(some 27), (.fld 4), [.t 2], none⟩,
  ⟨(some 28), (.load 1 false), [.t 27], none⟩,
  ⟨(some 29), (.bin .sub), [.t 26, .t 28], none⟩,
  ⟨(some 30), (.bin .sub), [.t 29, .c (.int .i64 1)], none⟩,
  ⟨(some 31), (.idx 2), [.t 25, .t 30], none⟩,
  ⟨(some 32), (.fld 0), [.t 31], none⟩,
  ⟨(some 33), (.load 1 false), [.t 32], none⟩,
  ⟨(some 4), .mv, [.t 33], none⟩,
  ⟨(some 5), .mv, [.c (.bool true)], none⟩])
 .ret)))
theorem comp29 : compC Go.Proofs.Try.prog ttL 34 [] (match Go.Proofs.Try.f29.body with | some b => b | none => .skip) = some (c29) := by kernel_rfl
def c30 : C := (.seq (.reg [⟨(some 1), .box, [.t 0], none⟩,
  ⟨(some 2), .mv, [.c (.int .i64 0)], none⟩])
 (.seq (.reg [⟨(some 3), (.fld 4), [.t 1], none⟩,
  ⟨(some 4), (.load 1 false), [.t 3], none⟩,
  ⟨(some 5), (.fld 7), [.t 1], none⟩,
  ⟨(some 6), (.load 1 false), [.t 5], none⟩,
  ⟨(some 7), .len, [.t 6], none⟩,
  ⟨(some 8), (.bin .add), [.t 4, .t 7], none⟩,
  ⟨(some 2), .mv, [.t 8], none⟩])
 .ret))
theorem comp30 : compC Go.Proofs.Try.prog ttL 9 [] (match Go.Proofs.Try.f30.body with | some b => b | none => .skip) = some (c30) := by kernel_rfl
def c31 : C := (.seq (.reg [⟨(some 4), (.alloc [.int .i64 0, .int .i64 0, .int .i64 0, .int .i64 0, .int .i64 0, .int .i64 0, .str ⟨#[]⟩, .sl tEntry [] true, .int .i64 0, .int .i64 0, .int .i64 0, .sl .bool [] true, .sl tI [] true, .sl tI [] true, .int .i64 0]), [], none⟩])
 (.seq (.reg [⟨(some 8), .mv, [.t 1], none⟩,
  ⟨(some 9), .mx, [.t 8, .c (.int .i64 1)], none⟩,
  ⟨(some 10), .mn, [.t 9, .c (.int .i64 5)], none⟩,
  ⟨(some 5), .mv, [.t 10], none⟩])
 (.seq (.regd [⟨(some 11), .mv, [.t 0], none⟩,
  ⟨(some 12), .mx, [.t 11, .c (.int .i64 0)], none⟩,
  ⟨(some 13), .mv, [.t 5], none⟩,
  ⟨(some 14), (.bin .sub), [.t 13, .c (.int .i64 1)], none⟩,
  ⟨(some 15), .mn, [.t 12, .t 14], none⟩,
  ⟨(some 16), .mv, [.t 5], none⟩,
  ⟨(some 17), .mv, [.t 5], none⟩,
  ⟨(some 18), (.mks .bool 1), [.t 17, .t 17], none⟩,
  ⟨(some 19), .mv, [.t 5], none⟩,
  ⟨(some 20), (.mks tI 8), [.t 19, .t 19], none⟩,
  ⟨(some 21), .mv, [.t 5], none⟩,
  ⟨(some 22), (.mks tI 8), [.t 21, .t 21], none⟩,
  ⟨(some 23), (.build [.int .i64 0, .int .i64 0, .int .i64 0, .int .i64 0, .int .i64 0, .int .i64 0, .str ⟨#[]⟩, .sl tEntry [] true, .int .i64 0, .int .i64 0, .int .i64 0, .sl .bool [] true, .sl tI [] true, .sl tI [] true, .int .i64 0] [(0, 1), (1, 1), (3, 1), (9, 1), (11, 1), (12, 1), (13, 1)]), [.t 15, .t 16, .c (.int .i64 (-1)), .c (.int .i64 (-1)), .t 18, .t 20, .t 22], none⟩,
  ⟨(some 6), (.alloc [.int .i64 0, .int .i64 0, .int .i64 0, .int .i64 0, .int .i64 0, .int .i64 0, .str ⟨#[]⟩, .sl tEntry [] true, .int .i64 0, .int .i64 0, .int .i64 0, .sl .bool [] true, .sl tI [] true, .sl tI [] true, .int .i64 0]), [], none⟩,
  ⟨none, (.store 15), [.t 6, .t 23], none⟩] [0, 1, 0, 4, 10, 0, 0, 64, 0, 256, 0, 1024, 2736, 0, 16383])
 (.seq (.seq (.reg [⟨(some 7), .mv, [.c (.int .i64 0)], none⟩])
 (.block 0 (.loop (.seq (.seq (.reg [⟨(some 24), .mv, [.t 7], none⟩,
  ⟨(some 25), .mv, [.t 5], none⟩,
  ⟨(some 26), (.bin .lss), [.t 24, .t 25], none⟩])
 (.cond (.t 26) .skip (.exit 0)))
 (.seq (.block 1 (.reg [⟨(some 29), (.fld 12), [.t 6], none⟩,
  ⟨(some 30), (.load 1 false), [.t 29], none⟩,
  ⟨(some 31), .mv, [.t 7], none⟩,
  ⟨(some 32), (.idx 1), [.t 30, .t 31], none⟩,
  ⟨none, (.store 1), [.t 32, .c (.int .i64 1)], none⟩]))
 (.reg [⟨(some 27), .mv, [.t 7], none⟩,
  ⟨(some 28), (.bin .add), [.t 27, .c (.int .i64 1)], none⟩,
  ⟨(some 7), .mv, [.t 28], none⟩]))))))
 (.seq (.reg [⟨(some 33), (.load 15 true), [.t 6], none⟩,
  ⟨none, (.store 15), [.t 4, .t 33], none⟩])
 .ret)))))
theorem comp31 : compC Go.Proofs.Try.prog ttL 34 [] (match Go.Proofs.Try.f31.body with | some b => b | none => .skip) = some (c31) := by kernel_rfl
def c32 : C := (.seq (.reg [⟨(some 2), .box, [.t 0], none⟩,
  ⟨(some 4), (.alloc [.int .i64 0, .int .i64 0, .int .i64 0, .int .i64 0, .int .i64 0, .int .i64 0, .str ⟨#[]⟩, .sl tEntry [] true, .int .i64 0, .int .i64 0, .int .i64 0, .sl .bool [] true, .sl tI [] true, .sl tI [] true, .int .i64 0]), [], none⟩])
 (.seq (.seq (.reg [⟨(some 5), .mv, [.t 1], none⟩,
  ⟨(some 6), (.fld 2), [.t 2], none⟩,
  ⟨(some 7), (.load 1 false), [.t 6], none⟩,
  ⟨(some 8), (.bin .gtr), [.t 5, .t 7], none⟩])
 (.cond (.t 8) (.reg [⟨(some 9), .mv, [.t 1], none⟩,
  ⟨(some 10), (.load 15 true), [.t 2], none⟩,
  ⟨(some 11), (.call 92), [.t 10], none⟩,
  ⟨(some 12), (.fld 2), [.t 2], none⟩,
  ⟨none, (.store 1), [.t 12, .t 9], none⟩,
  ⟨(some 13), (.fld 3), [.t 2], none⟩,
  ⟨none, (.store 1), [.t 13, .c (.int .i64 (-1))], none⟩,
  ⟨(some 14), (.fld 9), [.t 2], none⟩,
  ⟨none, (.store 1), [.t 14, .c (.int .i64 (-1))], none⟩,
  ⟨(some 15), (.fld 8), [.t 2], none⟩,
  ⟨none, (.store 1), [.t 15, .c (.int .i64 0)], none⟩,
  ⟨(some 16), (.fld 11), [.t 2], none⟩,
  ⟨none, (.store 1), [.t 16, .t 11], none⟩]) .skip))
 (.seq (.reg [⟨(some 17), (.load 15 true), [.t 2], none⟩,
  ⟨none, (.store 15), [.t 4, .t 17], none⟩])
 .ret)))
theorem comp32 : compC Go.Proofs.Try.prog ttL 18 [] (match Go.Proofs.Try.f32.body with | some b => b | none => .skip) = some (c32) := by kernel_rfl
def c35 : C := (.seq (.reg [⟨(some 4), .mv, [.c (.sl tEntry [] true)], none⟩])
 (.seq (.reg [⟨(some 5), .mv, [.c (.sl tEntry [] true)], none⟩])
 (.seq (.seq (.reg [⟨(some 6), .mv, [.c (.int .i64 0)], none⟩])
 (.block 0 (.loop (.seq (.seq (.reg [⟨(some 8), .mv, [.t 6], none⟩,
  ⟨(some 9), .mv, [.t 0], none⟩,
  ⟨(some 10), .len, [.t 9], none⟩,
  ⟨(some 11), (.bin .lss), [.t 8, .t 10], none⟩,
  ⟨(some 12), .mv, [.t 11], none⟩,
  ⟨(some 13), .mv, [.t 6], (some (12, true))⟩,
  ⟨(some 14), (.bin .lss), [.t 13, .c (.int .i64 20)], (some (12, true))⟩,
  ⟨(some 15), .pick, [.t 12, .t 14, .c (.bool false)], none⟩])
 (.cond (.t 15) .skip (.exit 0)))
 (.seq (.block 1 (.seq (.reg [⟨(some 18), .mv, [.t 0], none⟩,
  ⟨(some 19), .mv, [.t 6], none⟩,
  ⟨(some 20), (.idx 1), [.t 18, .t 19], none⟩,
  ⟨(some 21), (.load 1 false), [.t 20], none⟩,
  ⟨(some 22), (.call 23), [.t 21, .c (.int .i64 1073741824)], none⟩,
  ⟨(some 7), .mv, [.t 22], none⟩])
 (.regd [⟨(some 23), .mv, [.t 5], none⟩,
  ⟨(some 24), .mv, [.t 7], none⟩,
  ⟨(some 25), .mv, [.t 1], none⟩,
  ⟨(some 26), (.bin .add), [.t 25, .c (.int .i64 1)], none⟩,
  ⟨(some 27), (.bin .rem), [.t 24, .t 26], none⟩,
  ⟨(some 28), .mv, [.t 7], none⟩,
  ⟨(some 29), (.bin .quo), [.t 28, .c (.int .i64 100)], none⟩,
  ⟨(some 30), (.bin .rem), [.t 29, .c (.int .i64 1000)], none⟩,
  ⟨(some 31), (.call 50), [.t 30], none⟩,
  ⟨(some 32), (.build [.int .i64 0, .str ⟨#[]⟩] [(0, 1), (1, 1)]), [.t 27, .t 31], none⟩,
  ⟨(some 33), (.bslice tEntry 1), [.t 32], none⟩,
  ⟨(some 34), (.app 2 24), [.t 23, .t 33], none⟩,
  ⟨(some 5), .mv, [.t 34], none⟩] [0, 0, 0, 4, 10, 0, 32, 64, 128, 272, 512, 1281, 4095])))
 (.reg [⟨(some 16), .mv, [.t 6], none⟩,
  ⟨(some 17), (.bin .add), [.t 16, .c (.int .i64 1)], none⟩,
  ⟨(some 6), .mv, [.t 17], none⟩]))))))
 (.seq (.reg [⟨(some 35), .mv, [.t 5], none⟩,
  ⟨(some 4), .mv, [.t 35], none⟩])
 .ret))))
theorem comp35 : compC Go.Proofs.Try.prog ttL 36 [] (match Go.Proofs.Try.f35.body with | some b => b | none => .skip) = some (c35) := by kernel_rfl
def c44 : C := (.seq (.reg [⟨(some 1), .box, [.t 0], none⟩,
  ⟨(some 2), .mv, [.c (.int .i64 0)], none⟩])
 (.seq (.reg [⟨(some 3), (.fld 1), [.t 1], none⟩,
  ⟨(some 4), (.load 1 false), [.t 3], none⟩,
  ⟨(some 5), (.bin .quo), [.t 4, .c (.int .i64 2)], none⟩,
  ⟨(some 6), (.bin .add), [.t 5, .c (.int .i64 1)], none⟩,
  ⟨(some 2), .mv, [.t 6], none⟩])
 .ret))
theorem comp44 : compC Go.Proofs.Try.prog ttL 7 [] (match Go.Proofs.Try.f44.body with | some b => b | none => .skip) = some (c44) := by kernel_rfl
def c45 : C := (.seq (.reg [⟨(some 1), .box, [.t 0], none⟩,
  ⟨(some 2), .mv, [.c (.int .i64 0)], none⟩])
 (.seq (.reg [⟨(some 3), (.fld 1), [.t 1], none⟩,
  ⟨(some 4), (.load 1 false), [.t 3], none⟩,
  ⟨(some 5), (.bin .quo), [.t 4, .c (.int .i64 2)], none⟩,
  ⟨(some 6), (.bin .add), [.t 5, .c (.int .i64 1)], none⟩,
  ⟨(some 2), .mv, [.t 6], none⟩])
 .ret))
theorem comp45 : compC Go.Proofs.Try.prog ttL 7 [] (match Go.Proofs.Try.f45.body with | some b => b | none => .skip) = some (c45) := by kernel_rfl
def c48 : C := (.seq (.reg [⟨(some 2), .box, [.t 0], none⟩,
  ⟨(some 4), .mv, [.c (.int .i64 0)], none⟩,
  ⟨(some 5), .mv, [.c (.bool false)], none⟩])
 (.seq (.block 0 (.seq (.reg [⟨(some 7), .mv, [.t 1], none⟩,
  ⟨(some 8), (.fld 4), [.t 2], none⟩,
  ⟨(some 9), (.load 1 false), [.t 8], none⟩,
  ⟨(some 10), (.bin .eql), [.t 7, .t 9], none⟩,
  ⟨(some 6), .mv, [.t 10], none⟩])
 (.cond (.t 6) (.seq (.reg [⟨(some 11), (.fld 5), [.t 2], none⟩,
  ⟨(some 12), (.load 1 false), [.t 11], none⟩,
  ⟨(some 4), .mv, [.t 12], none⟩,
  ⟨(some 5), .mv, [.c (.bool true)], none⟩])
 .ret) (.seq (.reg [⟨(some 14), .mv, [.t 1], none⟩,
  ⟨(some 15), (.fld 4), [.t 2], none⟩,
  ⟨(some 16), (.load 1 false), [.t 15], none⟩,
  ⟨(some 17), (.bin .lss), [.t 14, .t 16], none⟩,
  ⟨(some 18), .mv, [.t 17], none⟩,
  ⟨(some 19), .mv, [.t 1], (some (18, false))⟩,
  ⟨(some 20), (.load 15 true), [.t 2], (some (18, false))⟩,
  ⟨(some 21), (.call 52), [.t 20], (some (18, false))⟩,
  ⟨(some 22), (.bin .gtr), [.t 19, .t 21], (some (18, false))⟩,
  ⟨(some 23), .pick, [.t 18, .c (.bool true), .t 22], none⟩,
  ⟨(some 24), .mv, [.t 23], none⟩,
  ⟨(some 25), .mv, [.t 1], (some (24, false))⟩,
  ⟨(some 26), (.fld 4), [.t 2], (some (24, false))⟩,
  ⟨(some 27), (.load 1 false), [.t 26], (some (24, false))⟩,
  ⟨(some 28), (.bin .sub), [.t 25, .t 27], (some (24, false))⟩,
  ⟨(some 29), (.fld 7), [.t 2], (some (24, false))⟩,
  ⟨(some 30), (.load 1 false), [.t 29], (some (24, false))⟩,
  ⟨(some 31), .len, [.t 30], (some (24, false))⟩,
  ⟨(some 32), (.bin .gtr), [.t 28, .t 31], (some (24, false))⟩,
  ⟨(some 33), .pick, [.t 24, .c (.bool true), .t 32], none⟩,
  ⟨(some 34), .mv, [.t 33], none⟩,
  ⟨(some 35), .mv, [.t 1], (some (34, false))⟩,
  ⟨(some 36), (.fld 4), [.t 2], (some (34, false))⟩,
  ⟨(some 37), (.load 1 false), [.t 36], (some (34, false))⟩,
  ⟨(some 38), (.bin .sub), [.t 35, .t 37], (some (34, false))⟩,
  ⟨(some 39), (.bin .lss), [.t 38, .c (.int .i64 1)], (some (34, false))⟩,
  ⟨(some 40), .pick, [.t 34, .c (.bool true), .t 39], none⟩,
  ⟨(some 13), .mv, [.t 40], none⟩])
 (.cond (.t 13) (.seq (.reg [⟨(some 4), .mv, [.c (.int .i64 0)], none⟩,
  ⟨(some 5), .mv, [.c (.bool false)], none⟩])
 .ret) .skip)))))
 (.seq (.reg [⟨(some 41), (.fld 7), [.t 2], none⟩,
  ⟨(some 42), (.load 1 false), [.t 41], none⟩,
  ⟨(some 43), .mv, [.t 1], none⟩,
  ⟨(some 44), (.fld 4), [.t 2], none⟩,
  ⟨(some 45), (.load 1 false), [.t 44], none⟩,
  ⟨(some 46), (.bin .sub), [.t 43, .t 45], none⟩,
  ⟨(some 47), (.bin .sub), [.t 46, .c (.int .i64 1)], none⟩,
  ⟨(some 48), (.idx 2), [.t 42, .t 47], none⟩,
  ⟨(some 49), (.fld 0), [.t 48], none⟩,
  ⟨(some 50), (.load 1 false), [.t 49], none⟩,
  ⟨(some 4), .mv, [.t 50], none⟩,
  ⟨(some 5), .mv, [.c (.bool true)], none⟩])
 .ret)))
theorem comp48 : compC Go.Proofs.Try.prog ttL 51 [] (match Go.Proofs.Try.f48.body with | some b => b | none => .skip) = some (c48) := by kernel_rfl
def c50 : C := (.seq (.reg [⟨(some 2), .mv, [.c (.str ⟨#[]⟩)], none⟩])
 (.seq (.block 0 (.seq (.reg [⟨(some 5), .mv, [.t 0], none⟩,
  ⟨(some 6), (.bin .leq), [.t 5, .c (.int .i64 (-10))], none⟩,
  ⟨(some 4), .mv, [.t 6], none⟩])
 (.cond (.t 4) (.seq (.reg [⟨(some 7), .mv, [.t 0], none⟩,
  ⟨(some 8), (.bin .rem), [.t 7, .c (.int .i64 10)], none⟩,
  ⟨(some 9), .neg, [.t 8], none⟩,
  ⟨(some 3), .mv, [.t 9], none⟩])
 (.seq (.regd [⟨(some 10), .mv, [.t 0], none⟩,
  ⟨(some 11), (.bin .quo), [.t 10, .c (.int .i64 10)], none⟩,
  ⟨(some 12), (.call 50), [.t 11], none⟩,
  ⟨(some 13), .mv, [.t 3], none⟩,
  ⟨(some 14), .mv, [.t 3], none⟩,
  ⟨(some 15), (.bin .add), [.t 14, .c (.int .i64 1)], none⟩,
  ⟨(some 16), (.slcs true true), [.c (.str ⟨#[48, 49, 50, 51, 52, 53, 54, 55, 56, 57]⟩), .t 13, .t 15], none⟩,
  ⟨(some 17), (.bin .add), [.t 12, .t 16], none⟩,
  ⟨(some 2), .mv, [.t 17], none⟩] [0, 1, 2, 0, 0, 16, 40, 68, 255])
 .ret)) (.seq (.reg [⟨(some 19), .mv, [.t 0], none⟩,
  ⟨(some 20), (.bin .lss), [.t 19, .c (.int .i64 0)], none⟩,
  ⟨(some 18), .mv, [.t 20], none⟩])
 (.cond (.t 18) (.seq (.reg [⟨(some 21), .mv, [.t 0], none⟩,
  ⟨(some 22), .neg, [.t 21], none⟩,
  ⟨(some 23), .mv, [.t 0], none⟩,
  ⟨(some 24), .neg, [.t 23], none⟩,
  ⟨(some 25), (.bin .add), [.t 24, .c (.int .i64 1)], none⟩,
  ⟨(some 26), (.slcs true true), [.c (.str ⟨#[48, 49, 50, 51, 52, 53, 54, 55, 56, 57]⟩), .t 22, .t 25], none⟩,
  ⟨(some 27), (.bin .add), [.c (.str ⟨#[45]⟩), .t 26], none⟩,
  ⟨(some 2), .mv, [.t 27], none⟩])
 .ret) (.seq (.reg [⟨(some 29), .mv, [.t 0], none⟩,
  ⟨(some 30), (.bin .lss), [.t 29, .c (.int .i64 10)], none⟩,
  ⟨(some 28), .mv, [.t 30], none⟩])
 (.cond (.t 28) (.seq (.reg [⟨(some 31), .mv, [.t 0], none⟩,
  ⟨(some 32), .mv, [.t 0], none⟩,
  ⟨(some 33), (.bin .add), [.t 32, .c (.int .i64 1)], none⟩,
  ⟨(some 34), (.slcs true true), [.c (.str ⟨#[48, 49, 50, 51, 52, 53, 54, 55, 56, 57]⟩), .t 31, .t 33], none⟩,
  ⟨(some 2), .mv, [.t 34], none⟩])
 .ret) .skip)))))))
 (.seq (.regd [⟨(some 35), .mv, [.t 0], none⟩,
  ⟨(some 36), (.bin .quo), [.t 35, .c (.int .i64 10)], none⟩,
  ⟨(some 37), (.call 50), [.t 36], none⟩,
  ⟨(some 38), .mv, [.t 0], none⟩,
  ⟨(some 39), (.bin .rem), [.t 38, .c (.int .i64 10)], none⟩,
  ⟨(some 40), .mv, [.t 0], none⟩,
  ⟨(some 41), (.bin .rem), [.t 40, .c (.int .i64 10)], none⟩,
  ⟨(some 42), (.bin .add), [.t 41, .c (.int .i64 1)], none⟩,
  ⟨(some 43), (.slcs true true), [.c (.str ⟨#[48, 49, 50, 51, 52, 53, 54, 55, 56, 57]⟩), .t 39, .t 42], none⟩,
  ⟨(some 44), (.bin .add), [.t 37, .t 43], none⟩,
  ⟨(some 2), .mv, [.t 44], none⟩] [0, 1, 2, 0, 8, 0, 32, 64, 144, 260, 1023])
 .ret)))
theorem comp50 : compC Go.Proofs.Try.prog ttL 45 [] (match Go.Proofs.Try.f50.body with | some b => b | none => .skip) = some (c50) := by kernel_rfl
def c52 : C := (.seq (.reg [⟨(some 1), .box, [.t 0], none⟩,
  ⟨(some 2), .mv, [.c (.int .i64 0)], none⟩])
 (.seq (.reg [⟨(some 3), (.fld 4), [.t 1], none⟩,
  ⟨(some 4), (.load 1 false), [.t 3], none⟩,
  ⟨(some 5), (.fld 7), [.t 1], none⟩,
  ⟨(some 6), (.load 1 false), [.t 5], none⟩,
  ⟨(some 7), .len, [.t 6], none⟩,
  ⟨(some 8), (.bin .add), [.t 4, .t 7], none⟩,
  ⟨(some 2), .mv, [.t 8], none⟩])
 .ret))
theorem comp52 : compC Go.Proofs.Try.prog ttL 9 [] (match Go.Proofs.Try.f52.body with | some b => b | none => .skip) = some (c52) := by kernel_rfl
def c53 : C := (.seq (.reg [⟨(some 2), .box, [.t 0], none⟩,
  ⟨(some 4), .mv, [.c (.sl tEntry [] true)], none⟩])
 (.seq (.reg [⟨(some 5), .mv, [.c (.int .i64 0)], none⟩])
 (.seq (.seq (.reg [⟨(some 6), .mv, [.t 1], none⟩,
  ⟨(some 7), (.fld 4), [.t 2], none⟩,
  ⟨(some 8), (.load 1 false), [.t 7], none⟩,
  ⟨(some 9), (.bin .gtr), [.t 6, .t 8], none⟩])
 (.cond (.t 9) (.reg [⟨(some 10), .mv, [.t 1], none⟩,
  ⟨(some 11), (.fld 4), [.t 2], none⟩,
  ⟨(some 12), (.load 1 false), [.t 11], none⟩,
  ⟨(some 13), (.bin .sub), [.t 10, .t 12], none⟩,
  ⟨(some 5), .mv, [.t 13], none⟩]) .skip))
 (.seq (.seq (.reg [⟨(some 14), .mv, [.t 5], none⟩,
  ⟨(some 15), (.bin .lss), [.t 14, .c (.int .i64 0)], none⟩,
  ⟨(some 16), .mv, [.t 15], none⟩,
  ⟨(some 17), .mv, [.t 5], (some (16, false))⟩,
  ⟨(some 18), (.fld 7), [.t 2], (some (16, false))⟩,
  ⟨(some 19), (.load 1 false), [.t 18], (some (16, false))⟩,
  ⟨(some 20), .len, [.t 19], (some (16, false))⟩,
  ⟨(some 21), (.bin .gtr), [.t 17, .t 20], (some (16, false))⟩,
  ⟨(some 22), .pick, [.t 16, .c (.bool true), .t 21], none⟩])
 (.cond (.t 22) (.reg [⟨(some 23), (.fld 7), [.t 2], none⟩,
  ⟨(some 24), (.load 1 false), [.t 23], none⟩,
  ⟨(some 25), .len, [.t 24], none⟩,
  ⟨(some 5), .mv, [.t 25], none⟩]) .skip))
 (.seq (.reg [⟨(some 26), (.fld 7), [.t 2], none⟩,
  ⟨(some 27), (.load 1 false), [.t 26], none⟩,
  ⟨(some 28), .mv, [.t 5], none⟩,
  ⟨(some 29), (.fld 7), [.t 2], none⟩,
  ⟨(some 30), (.load 1 false), [.t 29], none⟩,
  ⟨(some 31), .len, [.t 30], none⟩,
  ⟨(some 32), (.fld 7), [.t 2], none⟩,
  ⟨(some 33), (.load 1 false), [.t 32], none⟩,
  ⟨(some 34), .len, [.t 33], none⟩,
  ⟨(some 35), (.slc 2 true true true), [.t 27, .t 28, .t 31, .t 34], none⟩,
  ⟨(some 4), .mv, [.t 35], none⟩])
 .ret)))))
theorem comp53 : compC Go.Proofs.Try.prog ttL 36 [] (match Go.Proofs.Try.f53.body with | some b => b | none => .skip) = some (c53) := by kernel_rfl
def c59 : C := (.seq (.reg [⟨(some 3), .box, [.t 0], none⟩,
  ⟨(some 6), (.alloc [.int .i64 0, .int .i64 0, .int .i64 0, .int .i64 0, .int .i64 0, .int .i64 0, .str ⟨#[]⟩, .sl tEntry [] true, .int .i64 0, .int .i64 0, .int .i64 0, .sl .bool [] true, .sl tI [] true, .sl tI [] true, .int .i64 0]), [], none⟩])
 (.seq (.seq (.reg [⟨(some 9), .mv, [.t 1], none⟩,
  ⟨(some 10), (.fld 4), [.t 3], none⟩,
  ⟨(some 11), (.load 1 false), [.t 10], none⟩,
  ⟨(some 12), (.bin .leq), [.t 9, .t 11], none⟩,
  ⟨(some 13), .mv, [.t 12], none⟩,
  ⟨(some 14), .mv, [.t 1], (some (13, false))⟩,
  ⟨(some 15), (.fld 10), [.t 3], (some (13, false))⟩,
  ⟨(some 16), (.load 1 false), [.t 15], (some (13, false))⟩,
  ⟨(some 17), (.bin .gtr), [.t 14, .t 16], (some (13, false))⟩,
  ⟨(some 18), .pick, [.t 13, .c (.bool true), .t 17], none⟩,
  ⟨(some 19), .mv, [.t 18], none⟩,
  ⟨(some 20), .mv, [.t 1], (some (19, false))⟩,
  ⟨(some 21), (.load 15 true), [.t 3], (some (19, false))⟩,
  ⟨(some 22), (.call 30), [.t 21], (some (19, false))⟩,
  ⟨(some 23), (.bin .gtr), [.t 20, .t 22], (some (19, false))⟩,
  ⟨(some 24), .pick, [.t 19, .c (.bool true), .t 23], none⟩])
 (.cond (.t 24) (.seq (.reg [⟨(some 25), (.load 15 true), [.t 3], none⟩,
  ⟨none, (.store 15), [.t 6, .t 25], none⟩])
 .ret) .skip))
 (.seq (.reg [⟨(some 27), (.load 15 true), [.t 3], none⟩,
  ⟨(some 28), .mv, [.t 1], none⟩,
  ⟨(some 29), (.call 29), [.t 27, .t 28], none⟩,
  ⟨(some 26), .mv, [.t 29], none⟩,
  ⟨(some 30), (.ext 0), [.t 26], none⟩,
  ⟨(some 31), (.ext 1), [.t 26], none⟩,
  ⟨(some 7), .mv, [.t 30], none⟩,
  ⟨(some 8), .mv, [.t 31], none⟩])
 (.seq (.reg [⟨(some 32), (.load 15 true), [.t 3], none⟩,
  ⟨(some 33), .mv, [.t 1], none⟩,
  ⟨(some 34), (.call 60), [.t 32, .t 33], none⟩,
  ⟨(some 35), (.fld 7), [.t 3], none⟩,
  ⟨none, (.store 1), [.t 35, .t 34], none⟩])
 (.seq (.reg [⟨(some 36), .mv, [.t 1], none⟩,
  ⟨(some 37), .mv, [.t 7], none⟩,
  ⟨(some 38), .mv, [.t 2], none⟩,
  ⟨(some 39), (.fld 4), [.t 3], none⟩,
  ⟨none, (.store 1), [.t 39, .t 36], none⟩,
  ⟨(some 40), (.fld 5), [.t 3], none⟩,
  ⟨none, (.store 1), [.t 40, .t 37], none⟩,
  ⟨(some 41), (.fld 6), [.t 3], none⟩,
  ⟨none, (.store 1), [.t 41, .t 38], none⟩])
 (.seq (.reg [⟨(some 42), (.load 15 true), [.t 3], none⟩,
  ⟨none, (.store 15), [.t 6, .t 42], none⟩])
 .ret))))))
theorem comp59 : compC Go.Proofs.Try.prog ttL 43 [] (match Go.Proofs.Try.f59.body with | some b => b | none => .skip) = some (c59) := by kernel_rfl
def c60 : C := (.seq (.reg [⟨(some 2), .box, [.t 0], none⟩,
  ⟨(some 4), .mv, [.c (.sl tEntry [] true)], none⟩])
 (.seq (.seq (.reg [⟨(some 5), .mv, [.t 1], none⟩,
  ⟨(some 6), (.load 15 true), [.t 2], none⟩,
  ⟨(some 7), (.call 30), [.t 6], none⟩,
  ⟨(some 8), (.bin .gtr), [.t 5, .t 7], none⟩])
 (.cond (.t 8) (.seq (.reg [⟨(some 4), .mv, [.c (.sl tEntry [] true)], none⟩])
 .ret) .skip))
 (.seq (.reg [⟨(some 9), (.fld 7), [.t 2], none⟩,
  ⟨(some 10), (.load 1 false), [.t 9], none⟩,
  ⟨(some 11), .mv, [.t 1], none⟩,
  ⟨(some 12), (.fld 4), [.t 2], none⟩,
  ⟨(some 13), (.load 1 false), [.t 12], none⟩,
  ⟨(some 14), (.bin .sub), [.t 11, .t 13], none⟩,
  ⟨(some 15), .mx, [.t 14, .c (.int .i64 0)], none⟩,
  ⟨(some 16), (.slc 2 true false false), [.t 10, .t 15], none⟩,
  ⟨(some 17), (.app 2 24), [.c (.sl tEntry [] true), .t 16], none⟩,
  ⟨(some 4), .mv, [.t 17], none⟩])
 .ret)))
theorem comp60 : compC Go.Proofs.Try.prog ttL 18 [] (match Go.Proofs.Try.f60.body with | some b => b | none => .skip) = some (c60) := by kernel_rfl
def c62 : C := (.seq (.reg [⟨(some 1), .box, [.t 0], none⟩,
  ⟨(some 2), (.alloc [.int .i64 0, .int .i64 0, .int .i64 0, .int .i64 0, .str ⟨#[]⟩, .sl tEntry [] true]), [], none⟩])
 (.seq (.reg [⟨(some 3), (.fld 2), [.t 1], none⟩,
  ⟨(some 4), (.load 1 false), [.t 3], none⟩,
  ⟨(some 5), (.fld 3), [.t 1], none⟩,
  ⟨(some 6), (.load 1 false), [.t 5], none⟩,
  ⟨(some 7), (.fld 4), [.t 1], none⟩,
  ⟨(some 8), (.load 1 false), [.t 7], none⟩,
  ⟨(some 9), (.fld 5), [.t 1], none⟩,
  ⟨(some 10), (.load 1 false), [.t 9], none⟩,
  ⟨(some 11), (.fld 6), [.t 1], none⟩,
  ⟨(some 12), (.load 1 false), [.t 11], none⟩,
  ⟨(some 13), (.fld 7), [.t 1], none⟩,
  ⟨(some 14), (.load 1 false), [.t 13], none⟩,
  ⟨(some 15), (.build [.int .i64 0, .int .i64 0, .int .i64 0, .int .i64 0, .str ⟨#[]⟩, .sl tEntry [] true] [(0, 1), (1, 1), (2, 1), (3, 1), (4, 1), (5, 1)]), [.t 4, .t 6, .t 8, .t 10, .t 12, .t 14], none⟩,
  ⟨none, (.store 6), [.t 2, .t 15], none⟩])
 .ret))
theorem comp62 : compC Go.Proofs.Try.prog ttL 16 [] (match Go.Proofs.Try.f62.body with | some b => b | none => .skip) = some (c62) := by kernel_rfl
def c91 : C := (.seq (.reg [⟨(some 1), .box, [.t 0], none⟩,
  ⟨(some 2), (.alloc [.int .i64 0, .int .i64 0, .int .i64 0, .int .i64 0, .int .i64 0, .int .i64 0, .str ⟨#[]⟩, .sl tEntry [] true, .int .i64 0, .int .i64 0, .int .i64 0, .sl .bool [] true, .sl tI [] true, .sl tI [] true, .int .i64 0]), [], none⟩])
 (.seq (.reg [⟨(some 3), (.load 15 true), [.t 1], none⟩,
  ⟨(some 4), (.call 92), [.t 3], none⟩,
  ⟨(some 5), (.fld 11), [.t 1], none⟩,
  ⟨none, (.store 1), [.t 5, .t 4], none⟩])
 (.seq (.seq (.reg [⟨(some 6), (.fld 0), [.t 1], none⟩,
  ⟨(some 7), (.load 1 false), [.t 6], none⟩,
  ⟨(some 8), (.bin .geq), [.t 7, .c (.int .i64 0)], none⟩,
  ⟨(some 9), .mv, [.t 8], none⟩,
  ⟨(some 10), (.fld 0), [.t 1], (some (9, true))⟩,
  ⟨(some 11), (.load 1 false), [.t 10], (some (9, true))⟩,
  ⟨(some 12), (.fld 11), [.t 1], (some (9, true))⟩,
  ⟨(some 13), (.load 1 false), [.t 12], (some (9, true))⟩,
  ⟨(some 14), .len, [.t 13], (some (9, true))⟩,
  ⟨(some 15), (.bin .lss), [.t 11, .t 14], (some (9, true))⟩,
  ⟨(some 16), .pick, [.t 9, .t 15, .c (.bool false)], none⟩])
 (.cond (.t 16) (.reg [⟨(some 17), (.fld 11), [.t 1], none⟩,
  ⟨(some 18), (.load 1 false), [.t 17], none⟩,
  ⟨(some 19), (.fld 0), [.t 1], none⟩,
  ⟨(some 20), (.load 1 false), [.t 19], none⟩,
  ⟨(some 21), (.idx 1), [.t 18, .t 20], none⟩,
  ⟨none, (.store 1), [.t 21, .c (.bool true)], none⟩]) .skip))
 (.seq (.reg [⟨(some 22), (.load 15 true), [.t 1], none⟩,
  ⟨none, (.store 15), [.t 2, .t 22], none⟩])
 .ret))))
theorem comp91 : compC Go.Proofs.Try.prog ttL 23 [] (match Go.Proofs.Try.f91.body with | some b => b | none => .skip) = some (c91) := by kernel_rfl
def c92 : C := (.seq (.reg [⟨(some 1), .box, [.t 0], none⟩,
  ⟨(some 2), .mv, [.c (.sl .bool [] true)], none⟩])
 (.seq (.reg [⟨(some 3), (.fld 1), [.t 1], none⟩,
  ⟨(some 4), (.load 1 false), [.t 3], none⟩,
  ⟨(some 5), .mn, [.t 4, .c (.int .i64 5)], none⟩,
  ⟨(some 6), .mx, [.c (.int .i64 0), .t 5], none⟩,
  ⟨(some 7), (.mks .bool 1), [.t 6, .t 6], none⟩,
  ⟨(some 2), .mv, [.t 7], none⟩])
 .ret))
theorem comp92 : compC Go.Proofs.Try.prog ttL 8 [] (match Go.Proofs.Try.f92.body with | some b => b | none => .skip) = some (c92) := by kernel_rfl
end Go.AM
set_option maxRecDepth 100000
set_option maxHeartbeats 4000000
set_option linter.unusedSimpArgs false
namespace Go.AM
open Go.Proofs
theorem mixed : Try.prog.follows .mixedOrders = true := by kernel_rfl
attribute [local congr] vc_congr evOps_congr evTab_congr bind_congr condK_congr tabK_congr
theorem tmodPlace {v n : Int} (h : 0 < n) : (if v.tmod n < 0 then v.tmod n + n else v.tmod n) = v % n := by
  have h1 := Int.emod_nonneg v (by omega : n ≠ 0)
  have h2 := Int.emod_lt_of_pos v h
  rw [Int.tmod_eq_emod]
  split <;> split <;> omega
theorem inR {n : Int} : InR .i64 n = (-9223372036854775808 ≤ n ∧ n ≤ 9223372036854775807) := rfl
/-- a small list -/
def smallL {α} (l : List α) : Prop := l.length ≤ 1048576
theorem sm {α} {l : List α} : smallL l = (l.length ≤ 1048576) := rfl
def fn23 : Fn := { a := .pair tI (.pair tI .unit), r := .pair tI .unit, pre := fun x => 0 < x.2.1 ∧ x.2.1 ≤ 1099511627776, f := fun x => (x.1 % x.2.1, ()) }
theorem h23  : Holds Try.prog 23 (fn23) := by
  refine Holds.of_vc (T := []) (TT := ttL) (rowAt := []) (c := c23) (ros := [.t 4]) (.nil _) mixed Try.func23 (by decide +kernel) (by rfl) comp23 (by kernel_rfl) rfl rfl (fun h => by cases h) ?_
  rintro ⟨(v : Int), (n : Int), _⟩ hpre
  simp only [fn23] at hpre ⊢
  simp only [c23, go_sem, reduceIte, Nat.reduceBEq, Nat.reduceMul, reduceCtorEq, Nat.reduceAdd, Nat.reduceEqDiff, decide_eq_true_eq, decide_eq_false_iff_not, Bool.not_eq_true', Bool.not_eq_false', Bool.and_eq_true, Bool.or_eq_true, Bool.and_eq_false_iff, Bool.or_eq_false_iff, Bool.cond_true_left, Bool.cond_false_right, Bool.cond_true_right, Bool.cond_false_left, Bool.or_false, Bool.and_true, inR]
  dsimp only [den] at *
  have h0 := tmodPlace (v := v) hpre.1
  have h1 := Int.emod_nonneg v (by omega : n ≠ 0)
  have h2 := Int.emod_lt_of_pos v hpre.1
  refine ⟨by omega, fun h => ?_, fun h => ?_⟩
  · rw [if_pos h] at h0
    refine ⟨?_, h0⟩
    omega
  · rwa [if_neg h] at h0
def fn52 : Fn := { a := .pair tNode .unit, r := .pair tI .unit, pre := fun x => InR .i64 (last x.1), f := fun x => (last x.1, ()) }
theorem h52  : Holds Try.prog 52 (fn52) := by
  refine Holds.of_vc (T := []) (TT := ttL) (rowAt := []) (c := c52) (ros := [.t 2]) (.nil _) mixed Try.func52 (by decide +kernel) (by rfl) comp52 (by kernel_rfl) rfl rfl (fun h => by cases h) ?_
  rintro ⟨n, _⟩ hpre
  simp only [fn52] at hpre ⊢
  simp only [c52, go_sem, reduceIte, Nat.reduceBEq, Nat.reduceMul, reduceCtorEq, Nat.reduceAdd, Nat.reduceEqDiff, decide_eq_true_eq, decide_eq_false_iff_not, Bool.not_eq_true', Bool.not_eq_false', Bool.and_eq_true, Bool.or_eq_true, Bool.and_eq_false_iff, Bool.or_eq_false_iff, Bool.cond_true_left, Bool.cond_false_right, Bool.cond_true_right, Bool.cond_false_left, Bool.or_false, Bool.and_true, last]
  exact hpre
def fn30 : Fn := { a := .pair tNode .unit, r := .pair tI .unit, pre := fun x => InR .i64 (last x.1), f := fun x => (last x.1, ()) }
theorem h30  : Holds Try.prog 30 (fn30) := by
  refine Holds.of_vc (T := []) (TT := ttL) (rowAt := []) (c := c30) (ros := [.t 2]) (.nil _) mixed Try.func30 (by decide +kernel) (by rfl) comp30 (by kernel_rfl) rfl rfl (fun h => by cases h) ?_
  rintro ⟨n, _⟩ hpre
  simp only [fn30] at hpre ⊢
  simp only [c30, go_sem, reduceIte, Nat.reduceBEq, Nat.reduceMul, reduceCtorEq, Nat.reduceAdd, Nat.reduceEqDiff, decide_eq_true_eq, decide_eq_false_iff_not, Bool.not_eq_true', Bool.not_eq_false', Bool.and_eq_true, Bool.or_eq_true, Bool.and_eq_false_iff, Bool.or_eq_false_iff, Bool.cond_true_left, Bool.cond_false_right, Bool.cond_true_right, Bool.cond_false_left, Bool.or_false, Bool.and_true, last]
  exact hpre
def fn48 : Fn := { a := .pair tNode (.pair tI .unit), r := .pair tI (.pair .bool .unit), pre := fun x => InR .i64 (last x.1) ∧ InR .i64 (x.2.1 - nBase x.1 - 1) ∧ InR .i64 (x.2.1 - nBase x.1), f := fun x => (termV x.1 x.2.1, termOk x.1 x.2.1, ()) }
theorem h48  : Holds Try.prog 48 (fn48) := by
  refine Holds.of_vc (T := [(52, fn52)]) (TT := ttL) (rowAt := []) (c := c48) (ros := [.t 4, .t 5]) (.cons _ h52 (.nil _)) mixed Try.func48 (by decide +kernel) (by rfl) comp48 (by kernel_rfl) rfl rfl (fun h => by cases h) ?_
  rintro ⟨(n : Node), (i : Int), _⟩ hpre
  simp only [fn48] at hpre ⊢
  simp only [c48, fn52, go_sem, reduceIte, Nat.reduceBEq, Nat.reduceMul, reduceCtorEq, Nat.reduceAdd, Nat.reduceEqDiff, decide_eq_true_eq, decide_eq_false_iff_not, Bool.not_eq_true', Bool.not_eq_false', Bool.and_eq_true, Bool.or_eq_true, Bool.and_eq_false_iff, Bool.or_eq_false_iff, Bool.cond_true_left, Bool.cond_false_right, Bool.cond_true_right, Bool.cond_false_left, Bool.or_false, Bool.and_true, termV, termOk, inR]
  dsimp only [den, nId, nNodes, nTerm, nVote, nBase, nBT, nSnap, nLog, nRole, nLead, nCommit, nVotes, nNext, nMatch, nClock, mKind, mFrom, mTo, mTerm, mIndex, mAt, mYes, mCommit, mEntries, mSnap, eTerm, eCmd, mkN, mkM, mkE, last, inR, sm, lastT] at *
  repeat' (first | apply And.intro | intro _)
  all_goals (first | omega | rfl | exact (decide_eq_true (by omega)).symm | exact (decide_eq_false (by omega)).symm | exact decide_eq_true (by omega) | exact decide_eq_false (by omega) | exact (if_pos (by omega)).symm | exact (if_neg (by omega)).symm | (split <;> first | omega | rfl | (split <;> first | omega | rfl | (split <;> first | omega | rfl))) | skip)
def fn29 : Fn := fn48
theorem h29  : Holds Try.prog 29 (fn29) := by
  refine Holds.of_vc (T := [(30, fn30)]) (TT := ttL) (rowAt := []) (c := c29) (ros := [.t 4, .t 5]) (.cons _ h30 (.nil _)) mixed Try.func29 (by decide +kernel) (by rfl) comp29 (by kernel_rfl) rfl rfl (fun h => by cases h) ?_
  rintro ⟨(n : Node), (i : Int), _⟩ hpre
  simp only [fn29, fn48] at hpre ⊢
  simp only [c29, fn30, go_sem, reduceIte, Nat.reduceBEq, Nat.reduceMul, reduceCtorEq, Nat.reduceAdd, Nat.reduceEqDiff, decide_eq_true_eq, decide_eq_false_iff_not, Bool.not_eq_true', Bool.not_eq_false', Bool.and_eq_true, Bool.or_eq_true, Bool.and_eq_false_iff, Bool.or_eq_false_iff, Bool.cond_true_left, Bool.cond_false_right, Bool.cond_true_right, Bool.cond_false_left, Bool.or_false, Bool.and_true, termV, termOk, inR]
  dsimp only [den, nId, nNodes, nTerm, nVote, nBase, nBT, nSnap, nLog, nRole, nLead, nCommit, nVotes, nNext, nMatch, nClock, mKind, mFrom, mTo, mTerm, mIndex, mAt, mYes, mCommit, mEntries, mSnap, eTerm, eCmd, mkN, mkM, mkE, last, inR, sm, lastT] at *
  repeat' (first | apply And.intro | intro _)
  all_goals (first | omega | rfl | exact (decide_eq_true (by omega)).symm | exact (decide_eq_false (by omega)).symm | exact decide_eq_true (by omega) | exact decide_eq_false (by omega) | exact (if_pos (by omega)).symm | exact (if_neg (by omega)).symm | (split <;> first | omega | rfl | (split <;> first | omega | rfl | (split <;> first | omega | rfl))) | skip)
def fn44 : Fn := { a := .pair tNode .unit, r := .pair tI .unit, pre := fun x => 0 ≤ nNodes x.1 ∧ nNodes x.1 ≤ 100, f := fun x => (most x.1, ()) }
theorem tdiv2 {a : Int} (h : 0 ≤ a) (h2 : a ≤ 100) : 0 ≤ a.tdiv 2 ∧ a.tdiv 2 ≤ 50 := by
  rw [Int.tdiv_eq_ediv_of_nonneg h]; omega
theorem h44  : Holds Try.prog 44 (fn44) := by
  refine Holds.of_vc (T := []) (TT := ttL) (rowAt := []) (c := c44) (ros := [.t 2]) (.nil _) mixed Try.func44 (by decide +kernel) (by rfl) comp44 (by kernel_rfl) rfl rfl (fun h => by cases h) ?_
  rintro ⟨(n : Node), _⟩ hpre
  simp only [fn44] at hpre ⊢
  have h := tdiv2 hpre.1 hpre.2
  simp only [c44, go_sem, reduceIte, Nat.reduceBEq, Nat.reduceMul, reduceCtorEq, Nat.reduceAdd, Nat.reduceEqDiff, decide_eq_true_eq, decide_eq_false_iff_not, Bool.not_eq_true', Bool.not_eq_false', Bool.and_eq_true, Bool.or_eq_true, Bool.and_eq_false_iff, Bool.or_eq_false_iff, Bool.cond_true_left, Bool.cond_false_right, Bool.cond_true_right, Bool.cond_false_left, Bool.or_false, Bool.and_true, most, inR]
  dsimp only [den, nId, nNodes, nTerm, nVote, nBase, nBT, nSnap, nLog, nRole, nLead, nCommit, nVotes, nNext, nMatch, nClock, mKind, mFrom, mTo, mTerm, mIndex, mAt, mYes, mCommit, mEntries, mSnap, eTerm, eCmd, mkN, mkM, mkE, last, inR, sm, lastT] at *
  repeat' (first | apply And.intro | intro _)
  all_goals (first | omega | rfl | exact (decide_eq_true (by omega)).symm | exact (decide_eq_false (by omega)).symm | exact decide_eq_true (by omega) | exact decide_eq_false (by omega) | exact (if_pos (by omega)).symm | exact (if_neg (by omega)).symm | (split <;> first | omega | rfl | (split <;> first | omega | rfl | (split <;> first | omega | rfl))) | skip)
def fn45 : Fn := fn44
theorem h45  : Holds Try.prog 45 (fn45) := by
  refine Holds.of_vc (T := []) (TT := ttL) (rowAt := []) (c := c45) (ros := [.t 2]) (.nil _) mixed Try.func45 (by decide +kernel) (by rfl) comp45 (by kernel_rfl) rfl rfl (fun h => by cases h) ?_
  rintro ⟨(n : Node), _⟩ hpre
  simp only [fn45, fn44] at hpre ⊢
  have h := tdiv2 hpre.1 hpre.2
  simp only [c45, go_sem, reduceIte, Nat.reduceBEq, Nat.reduceMul, reduceCtorEq, Nat.reduceAdd, Nat.reduceEqDiff, decide_eq_true_eq, decide_eq_false_iff_not, Bool.not_eq_true', Bool.not_eq_false', Bool.and_eq_true, Bool.or_eq_true, Bool.and_eq_false_iff, Bool.or_eq_false_iff, Bool.cond_true_left, Bool.cond_false_right, Bool.cond_true_right, Bool.cond_false_left, Bool.or_false, Bool.and_true, most, inR]
  dsimp only [den, nId, nNodes, nTerm, nVote, nBase, nBT, nSnap, nLog, nRole, nLead, nCommit, nVotes, nNext, nMatch, nClock, mKind, mFrom, mTo, mTerm, mIndex, mAt, mYes, mCommit, mEntries, mSnap, eTerm, eCmd, mkN, mkM, mkE, last, inR, sm, lastT] at *
  repeat' (first | apply And.intro | intro _)
  all_goals (first | omega | rfl | exact (decide_eq_true (by omega)).symm | exact (decide_eq_false (by omega)).symm | exact decide_eq_true (by omega) | exact decide_eq_false (by omega) | exact (if_pos (by omega)).symm | exact (if_neg (by omega)).symm | (split <;> first | omega | rfl | (split <;> first | omega | rfl | (split <;> first | omega | rfl))) | skip)
def l0 (l : List Msg) : Msg := l.getD 0 (dflt tMsg)
def fn28 : Fn := { a := .pair (.list tMsg) .unit, r := .pair tMsg .unit, pre := fun _ => True, f := fun x => (l0 x.1, ()) }
theorem h28  : Holds Try.prog 28 (fn28) := by
  refine Holds.of_vc (T := []) (TT := ttL) (rowAt := []) (c := c28) (ros := [.c 2 10]) (.nil _) mixed Try.func28 (by decide +kernel) (by rfl) comp28 (by kernel_rfl) rfl rfl (fun h => by cases h) ?_
  rintro ⟨(l : List Msg), _⟩ hpre
  simp only [fn28] at hpre ⊢
  simp only [c28, go_sem, reduceIte, Nat.reduceBEq, Nat.reduceMul, reduceCtorEq, Nat.reduceAdd, Nat.reduceEqDiff, decide_eq_true_eq, decide_eq_false_iff_not, Bool.not_eq_true', Bool.not_eq_false', Bool.and_eq_true, Bool.or_eq_true, Bool.and_eq_false_iff, Bool.or_eq_false_iff, Bool.cond_true_left, Bool.cond_false_right, Bool.cond_true_right, Bool.cond_false_left, Bool.or_false, Bool.and_true, inR, l0]
  rcases l with _ | ⟨m, l⟩
  · exact ⟨fun _ => rfl, fun h => (h rfl).elim⟩
  · simp only [List.length_cons]
    repeat' (first | apply And.intro | intro _)
    all_goals (first | omega | rfl)
def hard (n : Node) : Hrd := (nTerm n, nVote n, nBase n, nBT n, nSnap n, nLog n, ())
def fn62 : Fn := { a := .pair tNode .unit, r := .pair tHard .unit, pre := fun _ => True, f := fun x => (hard x.1, ()) }
theorem h62  : Holds Try.prog 62 (fn62) := by
  refine Holds.of_vc (T := []) (TT := ttL) (rowAt := []) (c := c62) (ros := [.c 2 6]) (.nil _) mixed Try.func62 (by decide +kernel) (by rfl) comp62 (by kernel_rfl) rfl rfl (fun h => by cases h) ?_
  rintro ⟨(n : Node), _⟩ hpre
  simp only [fn62] at hpre ⊢
  simp only [c62, go_sem, reduceIte, Nat.reduceBEq, Nat.reduceMul, reduceCtorEq, Nat.reduceAdd, Nat.reduceEqDiff, decide_eq_true_eq, decide_eq_false_iff_not, Bool.not_eq_true', Bool.not_eq_false', Bool.and_eq_true, Bool.or_eq_true, Bool.and_eq_false_iff, Bool.or_eq_false_iff, Bool.cond_true_left, Bool.cond_false_right, Bool.cond_true_right, Bool.cond_false_left, Bool.or_false, Bool.and_true, inR, hard]
  rfl
def fn53 : Fn := { a := .pair tNode (.pair tI .unit), r := .pair (.list tEntry) .unit, pre := fun x => InR .i64 (x.2.1 - nBase x.1), f := fun x => (behindN x.1 x.2.1, ()) }
theorem h53  : Holds Try.prog 53 (fn53) := by
  refine Holds.of_vc (T := []) (TT := ttL) (rowAt := []) (c := c53) (ros := [.t 4]) (.nil _) mixed Try.func53 (by decide +kernel) (by rfl) comp53 (by kernel_rfl) rfl rfl (fun h => by cases h) ?_
  rintro ⟨(n : Node), (i : Int), _⟩ hpre
  simp only [fn53] at hpre ⊢
  simp only [c53, go_sem, reduceIte, Nat.reduceBEq, Nat.reduceMul, reduceCtorEq, Nat.reduceAdd, Nat.reduceEqDiff, decide_eq_true_eq, decide_eq_false_iff_not, Bool.not_eq_true', Bool.not_eq_false', Bool.and_eq_true, Bool.or_eq_true, Bool.and_eq_false_iff, Bool.or_eq_false_iff, Bool.cond_true_left, Bool.cond_false_right, Bool.cond_true_right, Bool.cond_false_left, Bool.or_false, Bool.and_true, inR, behindN]
  dsimp only [den, nId, nNodes, nTerm, nVote, nBase, nBT, nSnap, nLog, nRole, nLead, nCommit, nVotes, nNext, nMatch, nClock, mKind, mFrom, mTo, mTerm, mIndex, mAt, mYes, mCommit, mEntries, mSnap, eTerm, eCmd, mkN, mkM, mkE, last, inR, sm, lastT] at *
  repeat' (first | apply And.intro | intro _)
  all_goals (first | omega | rfl | skip)
  · rw [List.drop_length, List.drop_eq_nil_of_le (by omega)]
  · rw [show (i - n.2.2.2.2.1).toNat = (Int.toNat 0) by omega]; rfl
def fn60 : Fn := { a := .pair tNode (.pair tI .unit), r := .pair (.olist tEntry) .unit, pre := fun x => InR .i64 (x.2.1 - nBase x.1) ∧ InR .i64 (last x.1) ∧ smallL (nLog x.1), f := fun x => (behindN x.1 x.2.1, ()) }
theorem h60  : Holds Try.prog 60 (fn60) := by
  refine Holds.of_vc (T := [(30, fn30)]) (TT := ttL) (rowAt := []) (c := c60) (ros := [.t 4]) (.cons _ h30 (.nil _)) mixed Try.func60 (by decide +kernel) (by rfl) comp60 (by kernel_rfl) rfl rfl (fun h => by cases h) ?_
  rintro ⟨(n : Node), (i : Int), _⟩ hpre
  simp only [fn60] at hpre ⊢
  simp only [c60, fn30, go_sem, reduceIte, Nat.reduceBEq, Nat.reduceMul, reduceCtorEq, Nat.reduceAdd, Nat.reduceEqDiff, decide_eq_true_eq, decide_eq_false_iff_not, Bool.not_eq_true', Bool.not_eq_false', Bool.and_eq_true, Bool.or_eq_true, Bool.and_eq_false_iff, Bool.or_eq_false_iff, Bool.cond_true_left, Bool.cond_false_right, Bool.cond_true_right, Bool.cond_false_left, Bool.or_false, Bool.and_true, inR, behindN]
  dsimp only [den, nId, nNodes, nTerm, nVote, nBase, nBT, nSnap, nLog, nRole, nLead, nCommit, nVotes, nNext, nMatch, nClock, mKind, mFrom, mTo, mTerm, mIndex, mAt, mYes, mCommit, mEntries, mSnap, eTerm, eCmd, mkN, mkM, mkE, last, inR, sm, lastT] at *
  have hl := List.length_drop (i := (max (i - n.2.2.2.2.1) 0).toNat) (l := n.2.2.2.2.2.2.2.1)
  repeat' (first | apply And.intro | intro _)
  all_goals (first | omega | rfl | skip)
  · rw [List.drop_eq_nil_of_le (by omega)]
  · rw [show (max (i - n.2.2.2.2.1) 0).toNat = (i - n.2.2.2.2.1).toNat by omega]
def fn59 : Fn := { a := .pair tNode (.pair tI (.pair .str .unit)), r := .pair tNode .unit, pre := fun x => InR .i64 (x.2.1 - nBase x.1) ∧ InR .i64 (x.2.1 - nBase x.1 - 1) ∧ InR .i64 (last x.1) ∧ smallL (nLog x.1), f := fun x => (cutN x.1 x.2.1 x.2.2.1, ()) }
theorem h59  : Holds Try.prog 59 (fn59) := by
  refine Holds.of_vc (T := [(30, fn30), (29, fn29), (60, fn60)]) (TT := ttL) (rowAt := []) (c := c59) (ros := [.c 6 15]) (.cons _ h30 (.cons _ h29 (.cons _ h60 (.nil _)))) mixed Try.func59 (by decide +kernel) (by rfl) comp59 (by kernel_rfl) rfl rfl (fun h => by cases h) ?_
  rintro ⟨(n : Node), (i : Int), (s : ByteArray), _⟩ hpre
  simp only [fn59] at hpre ⊢
  simp only [c59, fn30, fn29, fn60, go_sem, reduceIte, Nat.reduceBEq, Nat.reduceMul, reduceCtorEq, Nat.reduceAdd, Nat.reduceEqDiff, decide_eq_true_eq, decide_eq_false_iff_not, Bool.not_eq_true', Bool.not_eq_false', Bool.and_eq_true, Bool.or_eq_true, Bool.and_eq_false_iff, Bool.or_eq_false_iff, Bool.cond_true_left, Bool.cond_false_right, Bool.cond_true_right, Bool.cond_false_left, Bool.or_false, Bool.and_true, inR, cutN, fn48]
  dsimp only [den, nId, nNodes, nTerm, nVote, nBase, nBT, nSnap, nLog, nRole, nLead, nCommit, nVotes, nNext, nMatch, nClock, mKind, mFrom, mTo, mTerm, mIndex, mAt, mYes, mCommit, mEntries, mSnap, eTerm, eCmd, mkN, mkM, mkE, last, inR, sm, lastT] at *
  repeat' (first | apply And.intro | intro _)
  all_goals (first | omega | rfl | exact (decide_eq_true (by omega)).symm | exact (decide_eq_false (by omega)).symm | exact decide_eq_true (by omega) | exact decide_eq_false (by omega) | exact (if_pos (by omega)).symm | exact (if_neg (by omega)).symm | (split <;> first | omega | rfl | (split <;> first | omega | rfl | (split <;> first | omega | rfl))) | skip)
def fn92 : Fn := { a := .pair tNode .unit, r := .pair (.olist .bool) .unit, pre := fun _ => True, f := fun x => (votes x.1, ()) }
theorem h92  : Holds Try.prog 92 (fn92) := by
  refine Holds.of_vc (T := []) (TT := ttL) (rowAt := []) (c := c92) (ros := [.t 2]) (.nil _) mixed Try.func92 (by decide +kernel) (by rfl) comp92 (by kernel_rfl) rfl rfl (fun h => by cases h) ?_
  rintro ⟨(n : Node), _⟩ hpre
  simp only [fn92] at hpre ⊢
  simp only [c92, go_sem, reduceIte, Nat.reduceBEq, Nat.reduceMul, reduceCtorEq, Nat.reduceAdd, Nat.reduceEqDiff, decide_eq_true_eq, decide_eq_false_iff_not, Bool.not_eq_true', Bool.not_eq_false', Bool.and_eq_true, Bool.or_eq_true, Bool.and_eq_false_iff, Bool.or_eq_false_iff, Bool.cond_true_left, Bool.cond_false_right, Bool.cond_true_right, Bool.cond_false_left, Bool.or_false, Bool.and_true, inR, votes]
  dsimp only [den, nId, nNodes, nTerm, nVote, nBase, nBT, nSnap, nLog, nRole, nLead, nCommit, nVotes, nNext, nMatch, nClock, mKind, mFrom, mTo, mTerm, mIndex, mAt, mYes, mCommit, mEntries, mSnap, eTerm, eCmd, mkN, mkM, mkE, last, inR, sm, lastT] at *
  repeat' (first | apply And.intro | intro _)
  all_goals (first | omega | rfl | exact (decide_eq_true (by omega)).symm | exact (decide_eq_false (by omega)).symm | exact decide_eq_true (by omega) | exact decide_eq_false (by omega) | exact (if_pos (by omega)).symm | exact (if_neg (by omega)).symm | (split <;> first | omega | rfl | (split <;> first | omega | rfl | (split <;> first | omega | rfl))) | skip)
def fn91 : Fn := { a := .pair tNode .unit, r := .pair tNode .unit, pre := fun _ => True, f := fun x => (own x.1, ()) }
theorem h91  : Holds Try.prog 91 (fn91) := by
  refine Holds.of_vc (T := [(92, fn92)]) (TT := ttL) (rowAt := []) (c := c91) (ros := [.c 2 15]) (.cons _ h92 (.nil _)) mixed Try.func91 (by decide +kernel) (by rfl) comp91 (by kernel_rfl) rfl rfl (fun h => by cases h) ?_
  rintro ⟨(n : Node), _⟩ hpre
  simp only [fn91] at hpre ⊢
  simp only [c91, fn92, go_sem, reduceIte, Nat.reduceBEq, Nat.reduceMul, reduceCtorEq, Nat.reduceAdd, Nat.reduceEqDiff, decide_eq_true_eq, decide_eq_false_iff_not, Bool.not_eq_true', Bool.not_eq_false', Bool.and_eq_true, Bool.or_eq_true, Bool.and_eq_false_iff, Bool.or_eq_false_iff, Bool.cond_true_left, Bool.cond_false_right, Bool.cond_true_right, Bool.cond_false_left, Bool.or_false, Bool.and_true, inR, own]
  dsimp only [den, nId, nNodes, nTerm, nVote, nBase, nBT, nSnap, nLog, nRole, nLead, nCommit, nVotes, nNext, nMatch, nClock, mKind, mFrom, mTo, mTerm, mIndex, mAt, mYes, mCommit, mEntries, mSnap, eTerm, eCmd, mkN, mkM, mkE, last, inR, sm, lastT] at *
  repeat' (first | apply And.intro | intro _)
  all_goals (first | omega | rfl | exact (decide_eq_true (by omega)).symm | exact (decide_eq_false (by omega)).symm | exact decide_eq_true (by omega) | exact decide_eq_false (by omega) | exact (if_pos (by omega)).symm | exact (if_neg (by omega)).symm | (split <;> first | omega | rfl | (split <;> first | omega | rfl | (split <;> first | omega | rfl))) | skip)
def fn32 : Fn := { a := .pair tNode (.pair tI .unit), r := .pair tNode .unit, pre := fun _ => True, f := fun x => (down x.1 x.2.1, ()) }
theorem h32  : Holds Try.prog 32 (fn32) := by
  refine Holds.of_vc (T := [(92, fn92)]) (TT := ttL) (rowAt := []) (c := c32) (ros := [.c 4 15]) (.cons _ h92 (.nil _)) mixed Try.func32 (by decide +kernel) (by rfl) comp32 (by kernel_rfl) rfl rfl (fun h => by cases h) ?_
  rintro ⟨(n : Node), (t : Int), _⟩ hpre
  simp only [fn32] at hpre ⊢
  simp only [c32, fn92, go_sem, reduceIte, Nat.reduceBEq, Nat.reduceMul, reduceCtorEq, Nat.reduceAdd, Nat.reduceEqDiff, decide_eq_true_eq, decide_eq_false_iff_not, Bool.not_eq_true', Bool.not_eq_false', Bool.and_eq_true, Bool.or_eq_true, Bool.and_eq_false_iff, Bool.or_eq_false_iff, Bool.cond_true_left, Bool.cond_false_right, Bool.cond_true_right, Bool.cond_false_left, Bool.or_false, Bool.and_true, inR, down]
  dsimp only [den, nId, nNodes, nTerm, nVote, nBase, nBT, nSnap, nLog, nRole, nLead, nCommit, nVotes, nNext, nMatch, nClock, mKind, mFrom, mTo, mTerm, mIndex, mAt, mYes, mCommit, mEntries, mSnap, eTerm, eCmd, mkN, mkM, mkE, last, inR, sm, lastT] at *
  repeat' (first | apply And.intro | intro _)
  all_goals (first | omega | rfl | exact (decide_eq_true (by omega)).symm | exact (decide_eq_false (by omega)).symm | exact decide_eq_true (by omega) | exact decide_eq_false (by omega) | exact (if_pos (by omega)).symm | exact (if_neg (by omega)).symm | (split <;> first | omega | rfl | (split <;> first | omega | rfl | (split <;> first | omega | rfl))) | skip)
def fn25 : Fn := { a := .pair tNode (.pair tMsg .unit), r := .pair tNode (.pair (.list tMsg) .unit), pre := fun x => InR .i64 (last x.1) ∧ 0 ≤ nBase x.1, f := fun x => (asked1 x.1 x.2.1, asked2 x.1 x.2.1, ()) }
theorem h25  : Holds Try.prog 25 (fn25) := by
  refine Holds.of_vc (T := [(32, fn32), (52, fn52), (48, fn48)]) (TT := ttL) (rowAt := []) (c := c25) (ros := [.c 4 15, .t 5]) (.cons _ h32 (.cons _ h52 (.cons _ h48 (.nil _)))) mixed Try.func25 (by decide +kernel) (by rfl) comp25 (by kernel_rfl) rfl rfl (fun h => by cases h) ?_
  rintro ⟨(n : Node), (m : Msg), _⟩ hpre
  simp only [fn25] at hpre ⊢
  simp only [c25, fn32, fn52, fn48, go_sem, reduceIte, Nat.reduceBEq, Nat.reduceMul, reduceCtorEq, Nat.reduceAdd, Nat.reduceEqDiff, decide_eq_true_eq, decide_eq_false_iff_not, Bool.not_eq_true', Bool.not_eq_false', Bool.and_eq_true, Bool.or_eq_true, Bool.and_eq_false_iff, Bool.or_eq_false_iff, Bool.cond_true_left, Bool.cond_false_right, Bool.cond_true_right, Bool.cond_false_left, Bool.or_false, Bool.and_true]
  simp only [asked1, asked2]
  have hb := base_down n m.2.2.2.1
  have hl := last_down n m.2.2.2.1
  have hg : 0 ≤ (nLog (down n m.2.2.2.1)).length := Nat.zero_le _
  generalize hd : down n m.2.2.2.1 = d at *
  rw [← hl, ← hb] at hpre
  simp only [asked1', asked2', askB]
  clear hl hb
  dsimp only [den, nId, nNodes, nTerm, nVote, nBase, nBT, nSnap, nLog, nRole, nLead, nCommit, nVotes, nNext, nMatch, nClock, mKind, mFrom, mTo, mTerm, mIndex, mAt, mYes, mCommit, mEntries, mSnap, eTerm, eCmd, mkN, mkM, mkE, last, inR, sm, lastT] at *
  repeat' (first | apply And.intro | intro _)
  all_goals (first | omega | rfl | exact (decide_eq_true (by omega)).symm | exact (decide_eq_false (by omega)).symm | exact decide_eq_true (by omega) | exact decide_eq_false (by omega) | exact (if_pos (by omega)).symm | exact (if_neg (by omega)).symm | (split <;> first | omega | rfl | (split <;> first | omega | rfl | (split <;> first | omega | rfl))) | skip)
  · exact (if_pos (by simp only [Bool.and_eq_true, Bool.or_eq_true, decide_eq_true_eq, decide_eq_false_iff_not, Bool.and_eq_false_iff, Bool.or_eq_false_iff, Bool.not_eq_true', Bool.not_eq_false']; omega)).symm
  · exact (if_neg (by simp only [Bool.and_eq_true, Bool.or_eq_true, decide_eq_true_eq, decide_eq_false_iff_not, Bool.and_eq_false_iff, Bool.or_eq_false_iff, Bool.not_eq_true', Bool.not_eq_false']; omega)).symm
end Go.AM

set_option maxRecDepth 100000
set_option maxHeartbeats 4000000
set_option linter.unusedSimpArgs false
namespace Go.AM
open Go.Proofs
attribute [local congr] vc_congr evOps_congr evTab_congr bind_congr condK_congr tabK_congr
def fn31 : Fn := { a := .pair tI (.pair tI .unit), r := .pair tNode .unit, pre := fun _ => True, f := fun x => (newN x.1 x.2.1, ()) }
theorem ones_set (i k : Nat) (h : i < k) : (List.replicate i (1 : Int) ++ List.replicate (k - i) 0).set i 1 = List.replicate (i + 1) 1 ++ List.replicate (k - (i + 1)) 0 := by
  obtain ⟨m, hm⟩ : ∃ m, k - i = m + 1 := ⟨k - i - 1, by omega⟩
  rw [hm, show k - (i + 1) = m by omega, List.set_append_right (h := by simp), List.length_replicate, Nat.sub_self, List.replicate_succ, List.set_cons_zero, List.replicate_succ', List.append_assoc]
  rfl
theorem h31  : Holds Try.prog 31 (fn31) := by
  refine Holds.of_vc (T := []) (TT := ttL) (rowAt := []) (c := c31) (ros := [.c 4 15]) (.nil _) mixed Try.func31 (by decide +kernel) (by rfl) comp31 (by kernel_rfl) rfl rfl (fun h => by cases h) ?_
  rintro ⟨(id : Int), (nodes : Int), _⟩ hpre
  simp only [fn31] at hpre ⊢
  simp only [c31, go_sem, reduceIte, Nat.reduceBEq, Nat.reduceMul, reduceCtorEq, Nat.reduceAdd, Nat.reduceEqDiff, decide_eq_true_eq, decide_eq_false_iff_not, Bool.not_eq_true', Bool.not_eq_false', Bool.and_eq_true, Bool.or_eq_true, Bool.and_eq_false_iff, Bool.or_eq_false_iff, Bool.cond_true_left, Bool.cond_false_right, Bool.cond_true_right, Bool.cond_false_left, Bool.or_false, Bool.and_true, inR]
  simp only [newN]
  have hk1 : 1 ≤ min (max nodes 1) 5 := by omega
  have hk5 : min (max nodes 1) 5 ≤ 5 := by omega
  generalize min (max nodes 1) 5 = k at *
  refine ⟨by omega, by omega, by omega, by omega, by rfl, ?_⟩
  refine loop_rule (β := Nat) (fun i => ⟨[(4, .ptr 4 0), (5, .int .i64 k), (6, .ptr 6 0), (7, .int .i64 i)], [(4, .box [.int .i64 0, .int .i64 0, .int .i64 0, .int .i64 0, .int .i64 0, .int .i64 0, .str ⟨#[]⟩, .sl tEntry [] true, .int .i64 0, .int .i64 0, .int .i64 0, .sl .bool [] true, .sl tI [] true, .sl tI [] true, .int .i64 0]),
    (6, .box [.int .i64 (min (max id 0) (k - 1)), .int .i64 k, .int .i64 0, .int .i64 (-1), .int .i64 0, .int .i64 0, .str ⟨#[]⟩, .sl tEntry [] true, .int .i64 0, .int .i64 (-1), .int .i64 0, .own 18 0 k.toNat, .own 20 0 k.toNat, .own 22 0 k.toNat, .int .i64 0]),
    (18, .row .bool (List.replicate k.toNat false) false), (20, .row tI (List.replicate i (1 : Int) ++ List.replicate (k.toNat - i) (0 : Int)) false), (22, .row tI (List.replicate k.toNat (0 : Int)) false)]⟩)
    (fun i => i ≤ k.toNat) (fun i => k.toNat - i) 0 ?_ ?_ ?_
  · refine Ent_of [(4, 4), (6, 6), (18, 18), (20, 20), (22, 22)] rfl ?_ ?_
    · simp only [go_sem, reduceIte, Nat.reduceBEq, Nat.reduceMul, reduceCtorEq, Nat.reduceAdd, Nat.reduceEqDiff, decide_eq_true_eq, decide_eq_false_iff_not, Bool.not_eq_true', Bool.not_eq_false', Bool.and_eq_true, Bool.or_eq_true, Bool.and_eq_false_iff, Bool.or_eq_false_iff, Bool.cond_true_left, Bool.cond_false_right, Bool.cond_true_right, Bool.cond_false_left, Bool.or_false, Bool.and_true]
      exact ⟨rfl, rfl, rfl⟩
    · simp only [go_sem, reduceIte, Nat.reduceBEq, Nat.reduceMul, reduceCtorEq, Nat.reduceAdd, Nat.reduceEqDiff, decide_eq_true_eq, decide_eq_false_iff_not, Bool.not_eq_true', Bool.not_eq_false', Bool.and_eq_true, Bool.or_eq_true, Bool.and_eq_false_iff, Bool.or_eq_false_iff, Bool.cond_true_left, Bool.cond_false_right, Bool.cond_true_right, Bool.cond_false_left, Bool.or_false, Bool.and_true]
      trivial
  · exact Nat.zero_le _
  · intro i hi
    simp only [go_sem, reduceIte, Nat.reduceBEq, Nat.reduceMul, reduceCtorEq, Nat.reduceAdd, Nat.reduceEqDiff, decide_eq_true_eq, decide_eq_false_iff_not, Bool.not_eq_true', Bool.not_eq_false', Bool.and_eq_true, Bool.or_eq_true, Bool.and_eq_false_iff, Bool.or_eq_false_iff, Bool.cond_true_left, Bool.cond_false_right, Bool.cond_true_right, Bool.cond_false_left, Bool.or_false, Bool.and_true, inR]
    refine ⟨fun h => ⟨by omega, by omega, Again.intro (i + 1) (Ent_of [(4, 4), (6, 6), (18, 18), (20, 20), (22, 22)] rfl ?_ ?_) ?_ ?_⟩, fun h => ?_⟩
    · simp only [go_sem, reduceIte, Nat.reduceBEq, Nat.reduceMul, reduceCtorEq, Nat.reduceAdd, Nat.reduceEqDiff, decide_eq_true_eq, decide_eq_false_iff_not, Bool.not_eq_true', Bool.not_eq_false', Bool.and_eq_true, Bool.or_eq_true, Bool.and_eq_false_iff, Bool.or_eq_false_iff, Bool.cond_true_left, Bool.cond_false_right, Bool.cond_true_right, Bool.cond_false_left, Bool.or_false, Bool.and_true]
      exact (ones_set i k.toNat (by omega)).symm
    · simp only [go_sem, reduceIte, Nat.reduceBEq, Nat.reduceMul, reduceCtorEq, Nat.reduceAdd, Nat.reduceEqDiff, decide_eq_true_eq, decide_eq_false_iff_not, Bool.not_eq_true', Bool.not_eq_false', Bool.and_eq_true, Bool.or_eq_true, Bool.and_eq_false_iff, Bool.or_eq_false_iff, Bool.cond_true_left, Bool.cond_false_right, Bool.cond_true_right, Bool.cond_false_left, Bool.or_false, Bool.and_true]
      omega
    · show i + 1 ≤ k.toNat; omega
    · show k.toNat - (i + 1) < k.toNat - i; omega
    · rw [show i = k.toNat by omega, Nat.sub_self, List.replicate_zero, List.append_nil, List.take_replicate, Nat.min_self]
      rfl
def oneD (v : Int) : ByteArray := (⟨#[48, 49, 50, 51, 52, 53, 54, 55, 56, 57]⟩ : ByteArray).extract v.toNat (v + 1).toNat
def digF : Nat → Int → ByteArray
  | 0, v => oneD v
  | k + 1, v => if v < 10 then oneD v else digF k (v / 10) ++ oneD (v % 10)
def fnDig (k : Nat) : Fn := { a := .pair tI .unit, r := .pair .str .unit, pre := fun x => 0 ≤ x.1 ∧ x.1 < 10 ^ (k + 1) ∧ k < 19, f := fun x => (digF k x.1, ()) }
theorem oneD_size (v : Int) : (oneD v).size ≤ 10 := by
  unfold oneD
  rw [ByteArray.size_extract]
  have : (⟨#[48, 49, 50, 51, 52, 53, 54, 55, 56, 57]⟩ : ByteArray).size = 10 := rfl
  omega
theorem digF_size (k : Nat) : ∀ v, (digF k v).size ≤ 10 * (k + 1) := by
  induction k with
  | zero => intro v; simpa [digF] using oneD_size v
  | succ k ih =>
    intro v
    have := oneD_size v
    have h2 := oneD_size (v % 10)
    have h3 := ih (v / 10)
    unfold digF
    split
    · omega
    · rw [ByteArray.size_append]; omega
theorem al10 : (#[48, 49, 50, 51, 52, 53, 54, 55, 56, 57] : Array UInt8).size = 10 := rfl
theorem hDig0  : Holds Try.prog 50 (fnDig 0) := by
  refine Holds.of_vc (T := []) (TT := ttL) (rowAt := []) (c := c50) (ros := [.t 2]) (.nil _) mixed Try.func50 (by decide +kernel) (by rfl) comp50 (by kernel_rfl) rfl rfl (fun h => by cases h) ?_
  rintro ⟨(v : Int), _⟩ hpre
  simp only [fnDig] at hpre ⊢
  simp only [c50, go_sem, reduceIte, Nat.reduceBEq, Nat.reduceMul, reduceCtorEq, Nat.reduceAdd, Nat.reduceEqDiff, decide_eq_true_eq, decide_eq_false_iff_not, Bool.not_eq_true', Bool.not_eq_false', Bool.and_eq_true, Bool.or_eq_true, Bool.and_eq_false_iff, Bool.or_eq_false_iff, Bool.cond_true_left, Bool.cond_false_right, Bool.cond_true_right, Bool.cond_false_left, Bool.or_false, Bool.and_true, inR, al10]
  dsimp only [den] at *
  obtain ⟨h0, h1, _⟩ := hpre
  have h2 : v < 10 := h1
  refine ⟨fun h => absurd h (by omega), fun _ => ⟨fun h => absurd h (by omega), fun _ => ⟨fun h => ⟨by omega, by omega, rfl⟩, fun h => absurd h2 h⟩⟩⟩
theorem hDigS (k : Nat) (ih : Holds Try.prog 50 (fnDig k)) : Holds Try.prog 50 (fnDig (k + 1)) := by
  refine Holds.of_vc (T := [(50, fnDig k)]) (TT := ttL) (rowAt := []) (c := c50) (ros := [.t 2]) (.cons _ ih (.nil _)) mixed Try.func50 (by decide +kernel) (by rfl) comp50 (by kernel_rfl) rfl rfl (fun h => by cases h) ?_
  rintro ⟨(v : Int), _⟩ hpre
  simp only [fnDig] at hpre ⊢
  simp only [c50, fnDig, go_sem, reduceIte, Nat.reduceBEq, Nat.reduceMul, reduceCtorEq, Nat.reduceAdd, Nat.reduceEqDiff, decide_eq_true_eq, decide_eq_false_iff_not, Bool.not_eq_true', Bool.not_eq_false', Bool.and_eq_true, Bool.or_eq_true, Bool.and_eq_false_iff, Bool.or_eq_false_iff, Bool.cond_true_left, Bool.cond_false_right, Bool.cond_true_right, Bool.cond_false_left, Bool.or_false, Bool.and_true, inR, al10]
  dsimp only [den] at *
  obtain ⟨h0, h1, h19⟩ := hpre
  have hv : v < 10000000000000000000 := by
    have h : ∀ k : Fin 18, (10 : Int) ^ (k.1 + 1 + 1) ≤ 10000000000000000000 := by decide
    have := h ⟨k, by omega⟩
    simp only at this
    omega
  rw [Int.tdiv_eq_ediv_of_nonneg h0, Int.tmod_eq_emod_of_nonneg h0]
  have hs := digF_size k (v / 10)
  have hs2 := oneD_size (v % 10)
  have hd : v / 10 < 10 ^ (k + 1) := by
    rw [show k + 1 + 1 = (k + 1) + 1 from rfl, Int.pow_succ] at h1
    generalize (10 : Int) ^ (k + 1) = p at *
    omega
  unfold oneD at hs2
  refine ⟨fun h => absurd h (by omega), fun _ => ⟨fun h => absurd h (by omega), fun _ => ⟨fun h => ⟨by omega, by omega, ?_⟩, fun h => ⟨by omega, ⟨by omega, hd, by omega⟩, by omega, by omega, by omega, by omega, by omega, by rfl, ?_⟩⟩⟩⟩
  · show _ = if _ then _ else _
    exact (if_pos h).symm
  · show _ = if _ then _ else _
    exact (if_neg h).symm
theorem hDig (k : Nat) : Holds Try.prog 50 (fnDig k) := by
  induction k with
  | zero => exact hDig0
  | succ k ih => exact hDigS k ih
def digits (v : Int) : ByteArray := digF 18 v
theorem digits_size (v : Int) : (digits v).size ≤ 190 := digF_size 18 v
def fn50 : Fn := { a := .pair tI .unit, r := .pair .str .unit, pre := fun x => 0 ≤ x.1 ∧ x.1 < 10 ^ (18 + 1) ∧ 18 < 19, f := fun x => (digits x.1, ()) }
theorem h50 : Holds Try.prog 50 fn50 := hDig 18
theorem p19 : (10 : Int) ^ (18 + 1) = 10000000000000000000 := by rfl
end Go.AM

set_option maxRecDepth 100000
set_option maxHeartbeats 4000000
set_option linter.unusedSimpArgs false
namespace Go.AM
open Go.Proofs
attribute [local congr] vc_congr evOps_congr evTab_congr bind_congr condK_congr tabK_congr
def mkEnt (t v : Int) : E := mkE (v % 1073741824 % (t + 1)) (digits (v % 1073741824 / 100 % 1000))
def entries (l : List Int) (t : Int) : List E := (l.take 20).map (mkEnt t)
theorem take_map_snoc {f : Int → E} {l : List Int} {i : Nat} (h : i < l.length) : (l.take (i + 1)).map f = (l.take i).map f ++ [f (l.getD i 0)] := by
  rw [List.take_add_one, List.map_append, List.getD_eq_getElem?_getD, List.getElem?_eq_getElem h]
  rfl
def fn35 : Fn := { a := .pair (.list tI) (.pair tI .unit), r := .pair (.olist tEntry) .unit, pre := fun x => 0 ≤ x.2.1 ∧ x.2.1 ≤ 1099511627776, f := fun x => (entries x.1 x.2.1, ()) }
theorem h35  : Holds Try.prog 35 (fn35) := by
  refine Holds.of_vc (T := [(23, fn23), (50, fn50)]) (TT := ttL) (rowAt := []) (c := c35) (ros := [.t 4]) (.cons _ h23 (.cons _ h50 (.nil _))) mixed Try.func35 (by decide +kernel) (by rfl) comp35 (by kernel_rfl) rfl rfl (fun h => by cases h) ?_
  rintro ⟨(l : List Int), (t : Int), _⟩ hpre
  simp only [fn35] at hpre ⊢
  simp only [c35, fn23, fn50, go_sem, reduceIte, Nat.reduceBEq, Nat.reduceMul, reduceCtorEq, Nat.reduceAdd, Nat.reduceEqDiff, decide_eq_true_eq, decide_eq_false_iff_not, Bool.not_eq_true', Bool.not_eq_false', Bool.and_eq_true, Bool.or_eq_true, Bool.and_eq_false_iff, Bool.or_eq_false_iff, Bool.cond_true_left, Bool.cond_false_right, Bool.cond_true_right, Bool.cond_false_left, Bool.or_false, Bool.and_true, inR]
  dsimp only [den] at hpre
  refine loop_rule (β := Nat) (fun i => ⟨[(0, .sl tI l false), (1, .int .i64 t), (5, .own 34 0 i), (6, .int .i64 i)], [(34, .row tEntry ((l.take i).map (mkEnt t)) false)]⟩)
    (fun i => i ≤ l.length ∧ i ≤ 20) (fun i => 20 - i) 0 ?_ ?_ ?_
  · refine Ent_of [] rfl ?_ ?_
    · simp only [go_sem, reduceIte, Nat.reduceBEq, Nat.reduceMul, reduceCtorEq, Nat.reduceAdd, Nat.reduceEqDiff, decide_eq_true_eq, decide_eq_false_iff_not, Bool.not_eq_true', Bool.not_eq_false', Bool.and_eq_true, Bool.or_eq_true, Bool.and_eq_false_iff, Bool.or_eq_false_iff, Bool.cond_true_left, Bool.cond_false_right, Bool.cond_true_right, Bool.cond_false_left, Bool.or_false, Bool.and_true]
      exact ⟨rfl, by decide⟩
    · simp only [go_sem, reduceIte, Nat.reduceBEq, Nat.reduceMul, reduceCtorEq, Nat.reduceAdd, Nat.reduceEqDiff, decide_eq_true_eq, decide_eq_false_iff_not, Bool.not_eq_true', Bool.not_eq_false', Bool.and_eq_true, Bool.or_eq_true, Bool.and_eq_false_iff, Bool.or_eq_false_iff, Bool.cond_true_left, Bool.cond_false_right, Bool.cond_true_right, Bool.cond_false_left, Bool.or_false, Bool.and_true]
      trivial
  · exact ⟨Nat.zero_le _, Nat.zero_le _⟩
  · rintro i ⟨hi, hi20⟩
    simp only [go_sem, reduceIte, Nat.reduceBEq, Nat.reduceMul, reduceCtorEq, Nat.reduceAdd, Nat.reduceEqDiff, decide_eq_true_eq, decide_eq_false_iff_not, Bool.not_eq_true', Bool.not_eq_false', Bool.and_eq_true, Bool.or_eq_true, Bool.and_eq_false_iff, Bool.or_eq_false_iff, Bool.cond_true_left, Bool.cond_false_right, Bool.cond_true_right, Bool.cond_false_left, Bool.or_false, Bool.and_true, inR, fn23, fn50, p19, tq1, tm1, nn1, nn2, Int.reduceLE]
    have ht : List.take i (List.map (mkEnt t) (List.take i l)) = List.map (mkEnt t) (List.take i l) := List.take_of_length_le (by simp; omega)
    have hv := Int.emod_nonneg (l.getD i (dflt tI)) (by decide : (1073741824 : Int) ≠ 0)
    have hv2 := Int.emod_lt_of_pos (l.getD i (dflt tI)) (by decide : (0 : Int) < 1073741824)
    simp only [ht]
    dsimp only [den]
    refine ⟨fun h => ⟨by omega, by omega, by omega, by omega, by omega, by omega, by omega, by omega, by rfl, by omega, Again.intro (i + 1) (Ent_of [(34, 34)] rfl ?_ ?_) ?_ ?_⟩, fun h => ?_⟩
    · simp only [go_sem, reduceIte, Nat.reduceBEq, Nat.reduceMul, reduceCtorEq, Nat.reduceAdd, Nat.reduceEqDiff, decide_eq_true_eq, decide_eq_false_iff_not, Bool.not_eq_true', Bool.not_eq_false', Bool.and_eq_true, Bool.or_eq_true, Bool.and_eq_false_iff, Bool.or_eq_false_iff, Bool.cond_true_left, Bool.cond_false_right, Bool.cond_true_right, Bool.cond_false_left, Bool.or_false, Bool.and_true]
      exact take_map_snoc (by omega)
    · simp only [go_sem, reduceIte, Nat.reduceBEq, Nat.reduceMul, reduceCtorEq, Nat.reduceAdd, Nat.reduceEqDiff, decide_eq_true_eq, decide_eq_false_iff_not, Bool.not_eq_true', Bool.not_eq_false', Bool.and_eq_true, Bool.or_eq_true, Bool.and_eq_false_iff, Bool.or_eq_false_iff, Bool.cond_true_left, Bool.cond_false_right, Bool.cond_true_right, Bool.cond_false_left, Bool.or_false, Bool.and_true]
      omega
    · show _ ∧ _; omega
    · show 20 - (i + 1) < 20 - i; omega
    · unfold entries
      rcases Nat.lt_or_ge i 20 with h2 | h2
      · rw [List.take_of_length_le (by omega), List.take_of_length_le (by omega)]
      · rw [show i = 20 by omega]
def mkSnap (j : Int) : ByteArray := ⟨#[115, 110, 97, 112]⟩ ++ digits (j % 100)
def message (v w : Int) (n : Node) (es : List Int) : Msg :=
  mkM (1 + v % 1073741824 % 5) ((nId n + 1 + v % 1073741824 / 5 % max (nNodes n - 1) 1) % nNodes n) (nId n) (max (nTerm n - 1 + v % 1073741824 / 25 % 3) 1)
   (max (last n - 3 + w % 1073741824 % 6) 0)
   (if termOk n (max (last n - 3 + w % 1073741824 % 6) 0) = true ∧ w % 1073741824 / 2700 % 2 = 0 then termV n (max (last n - 3 + w % 1073741824 % 6) 0) else max (nTerm n - 1 + w % 1073741824 / 6 % 3) 0)
   (decide (0 < w % 1073741824 / 900 % 3)) (w % 1073741824 / 18 % (last n + 3))
   (if 1 + v % 1073741824 % 5 = 3 then entries es (max (nTerm n - 1 + v % 1073741824 / 25 % 3) 1) else []) (if 1 + v % 1073741824 % 5 = 5 then mkSnap (w % 1073741824) else noB)
def wfN (B : Int) (n : Node) : Prop := 1 ≤ nNodes n ∧ nNodes n ≤ 5 ∧ 0 ≤ nId n ∧ nId n < nNodes n ∧ 0 ≤ nTerm n ∧ nTerm n ≤ B ∧ 0 ≤ nBase n ∧ last n ≤ B ∧ nBase n ≤ nCommit n ∧ nCommit n ≤ last n ∧
  (nVotes n).length = (nNodes n).toNat ∧ (nNext n).length = (nNodes n).toNat ∧ (nMatch n).length = (nNodes n).toNat
def fn24 : Fn := { a := .pair tI (.pair tI (.pair tNode (.pair (.list tI) .unit))), r := .pair tMsg .unit, pre := fun x => wfN 1000000 x.2.2.1, f := fun x => (message x.1 x.2.1 x.2.2.1 x.2.2.2.1, ()) }
theorem h24  : Holds Try.prog 24 (fn24) := by
  refine Holds.of_vc (T := [(23, fn23), (29, fn29), (35, fn35), (50, fn50)]) (TT := ttL) (rowAt := []) (c := c24) (ros := [.c 8 10]) (.cons _ h23 (.cons _ h29 (.cons _ h35 (.cons _ h50 (.nil _))))) mixed Try.func24 (by decide +kernel) (by rfl) comp24 (by kernel_rfl) rfl rfl (fun h => by cases h) ?_
  rintro ⟨(v : Int), (w : Int), (n : Node), (es : List Int), _⟩ hpre
  simp only [fn24] at hpre ⊢
  simp only [c24, fn23, fn29, fn35, fn50, go_sem, reduceIte, Nat.reduceBEq, Nat.reduceMul, reduceCtorEq, Nat.reduceAdd, Nat.reduceEqDiff, decide_eq_true_eq, decide_eq_false_iff_not, Bool.not_eq_true', Bool.not_eq_false', Bool.and_eq_true, Bool.or_eq_true, Bool.and_eq_false_iff, Bool.or_eq_false_iff, Bool.cond_true_left, Bool.cond_false_right, Bool.cond_true_right, Bool.cond_false_left, Bool.or_false, Bool.and_true, fn48, inR, p19, tq1, tm1, nn1, nn2, Int.reduceLE]
  simp only [wfN] at hpre
  have hk1 : 0 ≤ v % 1073741824 / 5 % max (nNodes n - 1) 1 := Int.emod_nonneg _ (by omega)
  have hk2 : v % 1073741824 / 5 % max (nNodes n - 1) 1 < max (nNodes n - 1) 1 := Int.emod_lt_of_pos _ (by omega)
  have hsz := digits_size (w % 1073741824 % 100)
  dsimp only [den, nId, nNodes, nTerm, nVote, nBase, nBT, nSnap, nLog, nRole, nLead, nCommit, nVotes, nNext, nMatch, nClock, mKind, mFrom, mTo, mTerm, mIndex, mAt, mYes, mCommit, mEntries, mSnap, eTerm, eCmd, mkN, mkM, mkE, last, inR, sm, lastT] at *
  have e1 : (n.1 + 1 + v % 1073741824 / 5 % max (n.2.1 - 1) 1).tmod n.2.1 = (n.1 + 1 + v % 1073741824 / 5 % max (n.2.1 - 1) 1) % n.2.1 := tm1 (by omega)
  simp only [e1]
  repeat (first | refine ⟨by omega, ?_⟩ | refine ⟨by rfl, ?_⟩ | refine ⟨fun h => h, ?_⟩ | refine ⟨fun h => ⟨h, by omega⟩, ?_⟩)
  refine ⟨fun h1 => ⟨fun h2 => ⟨by omega, fun h3 => absurd h3 (by omega), fun h3 => ?_⟩, fun h2 => ⟨fun h3 => ⟨by omega, by omega, ?_, ?_⟩, fun h3 => ?_⟩⟩, fun h1 => ?_⟩
  · unfold message; rw [if_pos h1, if_pos h2, if_neg h3]; rfl
  · have : (#[115, 110, 97, 112] : Array UInt8).size = 4 := rfl
    omega
  · unfold message; rw [if_pos h1, if_neg h2, if_pos h3]; rfl
  · unfold message; rw [if_pos h1, if_neg h2, if_neg h3]; rfl
  have h1 : ¬ (termOk n (max (last n - 3 + w % 1073741824 % 6) 0) = true ∧ w % 1073741824 / 2700 % 2 = 0) := by
    rintro ⟨a, b⟩
    rcases h1 with h | h
    · rw [a] at h; cases h
    · exact h b
  refine ⟨fun h2 => ⟨by omega, fun h3 => absurd h3 (by omega), fun h3 => ?_⟩, fun h2 => ⟨fun h3 => ⟨by omega, by omega, ?_, ?_⟩, fun h3 => ?_⟩⟩
  · unfold message; rw [if_neg h1, if_pos h2, if_neg h3]; rfl
  · have : (#[115, 110, 97, 112] : Array UInt8).size = 4 := rfl
    omega
  · unfold message; rw [if_neg h1, if_neg h2, if_pos h3]; rfl
  · unfold message; rw [if_neg h1, if_neg h2, if_neg h3]; rfl
end Go.AM

set_option maxRecDepth 100000
set_option maxHeartbeats 4000000
set_option linter.unusedSimpArgs false
namespace Go.AM
open Go.Proofs
attribute [local congr] vc_congr evOps_congr evTab_congr bind_congr condK_congr tabK_congr
def start0 (n : Node) : Node := mkN (nId n) (nNodes n) (nTerm n + 1) (nId n) (nBase n) (nBT n) (nSnap n) (nLog n) 1 (-1) (nCommit n) (nVotes n) (nNext n) (nMatch n) 0
def start1 (n : Node) : Node := own (start0 n)
def askMsg (s : Node) (j : Nat) : Msg := mkM 1 (nId s) j (nTerm s) (last s) (termV s (last s)) false 0 [] noB
def startMsgs (s : Node) (i : Nat) : List Msg := ((List.range i).filter (fun j : Nat => decide ((j : Int) ≠ nId s))).map (askMsg s)
def start2 (n : Node) : List Msg := startMsgs (start1 n) (nVotes (start1 n)).length
theorem startMsgs_len (s : Node) (i : Nat) : (startMsgs s i).length ≤ i := by
  unfold startMsgs
  rw [List.length_map]
  have := List.length_filter_le (fun j : Nat => decide ((j : Int) ≠ nId s)) (List.range i)
  simpa using this
theorem startMsgs_yes (s : Node) (i : Nat) (h : (i : Int) ≠ nId s) : startMsgs s (i + 1) = startMsgs s i ++ [askMsg s i] := by
  unfold startMsgs
  rw [List.range_succ, List.filter_append, List.map_append]
  simp [h]
theorem startMsgs_no (s : Node) (i : Nat) (h : (i : Int) = nId s) : startMsgs s (i + 1) = startMsgs s i := by
  unfold startMsgs
  rw [List.range_succ, List.filter_append, List.map_append]
  simp [h]
theorem start1_last (n : Node) : last (start1 n) = last n := by unfold start1 own start0; split <;> rfl
theorem start1_base (n : Node) : nBase (start1 n) = nBase n := by unfold start1 own start0; split <;> rfl
theorem own_votes (n : Node) : (nVotes (own n)).length = (votes n).length := by
  unfold own; split
  · exact List.length_set ..
  · rfl
theorem votes_len (n : Node) : (votes n).length = (max 0 (min (nNodes n) 5)).toNat := List.length_replicate ..
theorem start1_votes (n : Node) : (nVotes (start1 n)).length ≤ 5 := by
  unfold start1; rw [own_votes, votes_len]; omega
def fn27 : Fn := { a := .pair tNode .unit, r := .pair tNode (.pair (.olist tMsg) .unit), pre := fun x => 0 ≤ nBase x.1 ∧ last x.1 ≤ 4398046511104 ∧ -5 ≤ nTerm x.1 ∧ nTerm x.1 ≤ 4398046511104, f := fun x => (start1 x.1, start2 x.1, ()) }
theorem h27  : Holds Try.prog 27 (fn27) := by
  refine Holds.of_vc (T := [(91, fn91), (52, fn52), (48, fn48)]) (TT := ttL) (rowAt := []) (c := c27) (ros := [.c 2 15, .t 3]) (.cons _ h91 (.cons _ h52 (.cons _ h48 (.nil _)))) mixed Try.func27 (by decide +kernel) (by rfl) comp27 (by kernel_rfl) rfl rfl (fun h => by cases h) ?_
  rintro ⟨(n : Node), _⟩ hpre
  simp only [fn27] at hpre ⊢
  simp only [c27, fn91, fn52, fn48, go_sem, reduceIte, Nat.reduceBEq, Nat.reduceMul, reduceCtorEq, Nat.reduceAdd, Nat.reduceEqDiff, decide_eq_true_eq, decide_eq_false_iff_not, Bool.not_eq_true', Bool.not_eq_false', Bool.and_eq_true, Bool.or_eq_true, Bool.and_eq_false_iff, Bool.or_eq_false_iff, Bool.cond_true_left, Bool.cond_false_right, Bool.cond_true_right, Bool.cond_false_left, Bool.or_false, Bool.and_true, inR]
  have e0 : pr (a := tI) n.1 (pr (a := tI) n.2.1 (pr (a := tI) (n.2.2.1 + 1) (pr (a := tI) n.1 (pr (a := tI) n.2.2.2.2.1 (pr (a := tI) n.2.2.2.2.2.1 (pr (a := .str) n.2.2.2.2.2.2.1 (pr (a := .list tEntry) n.2.2.2.2.2.2.2.1 (pr (a := tI) 1 (pr (a := tI) (-1) (pr (a := tI) n.2.2.2.2.2.2.2.2.2.2.1 (pr (a := .list .bool) n.2.2.2.2.2.2.2.2.2.2.2.1 (pr (a := .list tI) n.2.2.2.2.2.2.2.2.2.2.2.2.1 (pr (a := .list tI) n.2.2.2.2.2.2.2.2.2.2.2.2.2.1 (pr (a := tI) (b := .unit) 0 ())))))))))))))) = start0 n := rfl
  simp only [e0]
  clear e0
  have es : own (start0 n) = start1 n := rfl
  simp only [es, start2]
  clear es
  have h1 := start1_last n
  have h2 := start1_base n
  have h3 := start1_votes n
  have hI : nBase (start1 n) = (start1 n).2.2.2.2.1 := rfl
  generalize start1 n = s at *
  dsimp only [den, nId, nNodes, nTerm, nVote, nBase, nBT, nSnap, nLog, nRole, nLead, nCommit, nVotes, nNext, nMatch, nClock, mKind, mFrom, mTo, mTerm, mIndex, mAt, mYes, mCommit, mEntries, mSnap, eTerm, eCmd, mkN, mkM, mkE, last, inR, sm, lastT] at *
  repeat (first | refine ⟨by omega, ?_⟩ | refine ⟨by rfl, ?_⟩ | refine ⟨fun h => h, ?_⟩ | refine ⟨fun h => ⟨h, by omega⟩, ?_⟩)
  refine loop_rule (β := Nat) (fun i => ⟨[(1, .ptr 1 0), (2, .ptr 2 0), (4, .int .i64 (last s)), (5, .int .i64 (termV s (last s))), (7, .own 49 0 (startMsgs s i).length), (31, .int .i64 (nVotes s).length), (32, .int .i64 i)],
      [(1, .box (cellsA tNode s [])), (2, .box zN), (49, .row tMsg (startMsgs s i) false)]⟩) (fun i => i ≤ (nVotes s).length) (fun i => (nVotes s).length - i) 0 ?_ ?_ ?_
  · refine Ent_of [(1, 1), (2, 2)] rfl ?_ ?_
    · simp only [go_sem, reduceIte, Nat.reduceBEq, Nat.reduceMul, reduceCtorEq, Nat.reduceAdd, Nat.reduceEqDiff, decide_eq_true_eq, decide_eq_false_iff_not, Bool.not_eq_true', Bool.not_eq_false', Bool.and_eq_true, Bool.or_eq_true, Bool.and_eq_false_iff, Bool.or_eq_false_iff, Bool.cond_true_left, Bool.cond_false_right, Bool.cond_true_right, Bool.cond_false_left, Bool.or_false, Bool.and_true]
      exact ⟨rfl, by decide⟩
    · simp only [go_sem, reduceIte, Nat.reduceBEq, Nat.reduceMul, reduceCtorEq, Nat.reduceAdd, Nat.reduceEqDiff, decide_eq_true_eq, decide_eq_false_iff_not, Bool.not_eq_true', Bool.not_eq_false', Bool.and_eq_true, Bool.or_eq_true, Bool.and_eq_false_iff, Bool.or_eq_false_iff, Bool.cond_true_left, Bool.cond_false_right, Bool.cond_true_right, Bool.cond_false_left, Bool.or_false, Bool.and_true]
      exact ⟨rfl, rfl⟩
  · exact Nat.zero_le _
  · intro i hi
    have hl := startMsgs_len s i
    have hv : (nVotes s).length ≤ 5 := h3
    simp only [go_sem, reduceIte, Nat.reduceBEq, Nat.reduceMul, reduceCtorEq, Nat.reduceAdd, Nat.reduceEqDiff, decide_eq_true_eq, decide_eq_false_iff_not, Bool.not_eq_true', Bool.not_eq_false', Bool.and_eq_true, Bool.or_eq_true, Bool.and_eq_false_iff, Bool.or_eq_false_iff, Bool.cond_true_left, Bool.cond_false_right, Bool.cond_true_right, Bool.cond_false_left, Bool.or_false, Bool.and_true, inR]
    refine ⟨fun h => ⟨fun hne => ⟨by omega, by omega, Again.intro (i + 1) (Ent_of [(1, 1), (2, 2), (49, 49)] rfl ?_ ?_) ?_ ?_⟩, fun he => ⟨by omega, Again.intro (i + 1) (Ent_of [(1, 1), (2, 2), (49, 49)] rfl ?_ ?_) ?_ ?_⟩⟩, fun h => ?_⟩
    · simp only [go_sem, reduceIte, Nat.reduceBEq, Nat.reduceMul, reduceCtorEq, Nat.reduceAdd, Nat.reduceEqDiff, decide_eq_true_eq, decide_eq_false_iff_not, Bool.not_eq_true', Bool.not_eq_false', Bool.and_eq_true, Bool.or_eq_true, Bool.and_eq_false_iff, Bool.or_eq_false_iff, Bool.cond_true_left, Bool.cond_false_right, Bool.cond_true_right, Bool.cond_false_left, Bool.or_false, Bool.and_true]
      exact startMsgs_yes s i hne
    · simp only [go_sem, reduceIte, Nat.reduceBEq, Nat.reduceMul, reduceCtorEq, Nat.reduceAdd, Nat.reduceEqDiff, decide_eq_true_eq, decide_eq_false_iff_not, Bool.not_eq_true', Bool.not_eq_false', Bool.and_eq_true, Bool.or_eq_true, Bool.and_eq_false_iff, Bool.or_eq_false_iff, Bool.cond_true_left, Bool.cond_false_right, Bool.cond_true_right, Bool.cond_false_left, Bool.or_false, Bool.and_true]
      rw [startMsgs_yes s i hne, List.length_append]
      exact ⟨rfl, by omega⟩
    · show i + 1 ≤ (nVotes s).length; omega
    · show (nVotes s).length - (i + 1) < (nVotes s).length - i; omega
    · simp only [go_sem, reduceIte, Nat.reduceBEq, Nat.reduceMul, reduceCtorEq, Nat.reduceAdd, Nat.reduceEqDiff, decide_eq_true_eq, decide_eq_false_iff_not, Bool.not_eq_true', Bool.not_eq_false', Bool.and_eq_true, Bool.or_eq_true, Bool.and_eq_false_iff, Bool.or_eq_false_iff, Bool.cond_true_left, Bool.cond_false_right, Bool.cond_true_right, Bool.cond_false_left, Bool.or_false, Bool.and_true]
      exact startMsgs_no s i he
    · simp only [go_sem, reduceIte, Nat.reduceBEq, Nat.reduceMul, reduceCtorEq, Nat.reduceAdd, Nat.reduceEqDiff, decide_eq_true_eq, decide_eq_false_iff_not, Bool.not_eq_true', Bool.not_eq_false', Bool.and_eq_true, Bool.or_eq_true, Bool.and_eq_false_iff, Bool.or_eq_false_iff, Bool.cond_true_left, Bool.cond_false_right, Bool.cond_true_right, Bool.cond_false_left, Bool.or_false, Bool.and_true]
      rw [startMsgs_no s i he]
      exact ⟨rfl, by omega⟩
    · show i + 1 ≤ (nVotes s).length; omega
    · show (nVotes s).length - (i + 1) < (nVotes s).length - i; omega
    · have : i = (nVotes s).length := by omega
      subst this
      rfl
theorem awakeV_ok : True := trivial
def fn26 : Fn := { a := .unit, r := .pair .bool .unit, pre := fun _ => True, f := fun _ => (true, ()) }
theorem h26  : Holds Try.prog 26 (fn26) := by
  refine Holds.of_vc (T := [(31, fn31), (27, fn27), (28, fn28), (25, fn25), (44, fn44)]) (TT := ttL) (rowAt := []) (c := c26) (ros := [.t 0]) (.cons _ h31 (.cons _ h27 (.cons _ h28 (.cons _ h25 (.cons _ h44 (.nil _)))))) mixed Try.func26 (by decide +kernel) (by rfl) comp26 (by kernel_rfl) rfl rfl (fun h => by cases h) ?_
  rintro _ hpre
  simp only [fn26] at hpre ⊢
  simp only [c26, fn31, fn27, fn28, fn25, fn44, go_sem, reduceIte, Nat.reduceBEq, Nat.reduceMul, reduceCtorEq, Nat.reduceAdd, Nat.reduceEqDiff, decide_eq_true_eq, decide_eq_false_iff_not, Bool.not_eq_true', Bool.not_eq_false', Bool.and_eq_true, Bool.or_eq_true, Bool.and_eq_false_iff, Bool.or_eq_false_iff, Bool.cond_true_left, Bool.cond_false_right, Bool.cond_true_right, Bool.cond_false_left, Bool.or_false, Bool.and_true, inR]
  have f1 : (start2 (newN 0 3)).length = 2 := by rfl
  have f2 : (start1 (newN 0 3)).2.2.1 = 1 := by rfl
  have f3 : (start1 (newN 0 3)).2.2.2.1 = 0 := by rfl
  have f4 : (asked1 (newN 1 3) (l0 (start2 (newN 0 3)))).2.2.2.1 = 0 := by rfl
  have f5 : (asked2 (newN 1 3) (l0 (start2 (newN 0 3)))).length = 1 := by rfl
  have f6 : ((asked2 (newN 1 3) (l0 (start2 (newN 0 3)))).getD 0 (dflt tMsg)).2.2.2.2.2.2.1 = true := by rfl
  have f7 : most (start1 (newN 0 3)) = 2 := by rfl
  have f8 : nNodes (start1 (newN 0 3)) = 3 := by rfl
  have f9 : nBase (newN 0 3) = 0 := rfl
  have f10 : last (newN 0 3) = 0 := rfl
  have f11 : nTerm (newN 0 3) = 0 := rfl
  have f12 : nBase (newN 1 3) = 0 := rfl
  have f13 : last (newN 1 3) = 0 := rfl
  simp only [f1, f2, f3, f4, f5, f6, f7, f8, f9, f10, f11, f12, f13]
  decide
end Go.AM

set_option maxRecDepth 100000
set_option maxHeartbeats 4000000
set_option linter.unusedSimpArgs false
namespace Go.AM
open Go.Proofs
attribute [local congr] vc_congr evOps_congr evTab_congr bind_congr condK_congr tabK_congr
theorem Ent_fz {σ σ' : St} (ks : List Nat) (m : List (Nat × Nat)) (hm : inj2 m = true) (hh : EntH m (frzH σ.heap ks) σ'.heap σ'.heap) (he : EntE m (frzH σ.heap ks) σ'.heap σ.env σ'.env) : Ent σ σ' :=
  Ent.trans (Ent_frz σ ks) (Ent_of m hm hh he)
def mkK (v : Int) : Int := v % 1073741824
def madeStep (n : Node) (v : Int) : Node :=
  if mkK v % 12 = 0 ∨ mkK v % 12 = 1 then mkN (nId n) (nNodes n) (nTerm n + 1) (mkK v / 12 % (nNodes n + 1) - 1) (nBase n) (nBT n) (nSnap n) (nLog n) (nRole n) (nLead n) (nCommit n) (nVotes n) (nNext n) (nMatch n) (nClock n)
  else if mkK v % 12 = 2 then mkN (nId n) (nNodes n) (nTerm n) (nVote n) (nBase n) (nBT n) (nSnap n) (nLog n) (nRole n) (nLead n) (min (nCommit n + mkK v / 12 % 5) (last n)) (nVotes n) (nNext n) (nMatch n) (nClock n)
  else if mkK v % 12 = 3 then cutN n (nBase n + mkK v / 12 % 4) (digits (mkK v / 12))
  else if mkK v % 12 = 4 then mkN (nId n) (nNodes n) (nTerm n) (nVote n) (nBase n) (nBT n) (nSnap n) (nLog n) (mkK v / 12 % 3) (mkK v / 36 % (nNodes n + 1) - 1) (nCommit n) ((nVotes n).set (mkK v / 200 % nNodes n).toNat true) (nNext n) (nMatch n) (nClock n)
  else if mkK v % 12 = 5 then mkN (nId n) (nNodes n) (nTerm n) (nVote n) (nBase n) (nBT n) (nSnap n) (nLog n) (nRole n) (nLead n) (nCommit n) (nVotes n) ((nNext n).set (mkK v / 12 % nNodes n).toNat (1 + mkK v / 60 % (last n + 2))) ((nMatch n).set (mkK v / 12 % nNodes n).toNat (mkK v / 600 % (last n + 1))) (nClock n)
  else if mkK v % 12 = 6 then mkN (nId n) (nNodes n) (nTerm n) (nVote n) (nBase n) (nBT n) (nSnap n) (nLog n) (nRole n) (nLead n) (nCommit n) (nVotes n) (nNext n) (nMatch n) (mkK v / 12 % 30)
  else mkN (nId n) (nNodes n) (nTerm n) (nVote n) (nBase n) (nBT n) (nSnap n) (nLog n ++ [mkE (nTerm n) (digits (mkK v / 12 % 1000))]) (nRole n) (nLead n) (nCommit n) (nVotes n) (nNext n) (nMatch n) (nClock n)
def made (l : List Int) (id nodes : Int) : Node := (l.take 40).foldl madeStep (newN id nodes)
def MI (i : Nat) (n : Node) : Prop := 1 ≤ nNodes n ∧ nNodes n ≤ 5 ∧ 0 ≤ nId n ∧ nId n < nNodes n ∧ 0 ≤ nTerm n ∧ nTerm n ≤ i ∧ 0 ≤ nBase n ∧ last n ≤ i ∧ nBase n ≤ nCommit n ∧ nCommit n ≤ last n ∧
  (nVotes n).length = (nNodes n).toNat ∧ (nNext n).length = (nNodes n).toNat ∧ (nMatch n).length = (nNodes n).toNat
theorem MI_new (id nodes : Int) : MI 0 (newN id nodes) := by
  simp only [MI, newN]
  dsimp only [den, nId, nNodes, nTerm, nVote, nBase, nBT, nSnap, nLog, nRole, nLead, nCommit, nVotes, nNext, nMatch, nClock, mKind, mFrom, mTo, mTerm, mIndex, mAt, mYes, mCommit, mEntries, mSnap, eTerm, eCmd, mkN, mkM, mkE, last, inR, sm, lastT] at *
  repeat' apply And.intro
  all_goals (first | omega | (simp; done) | (simp; omega))
theorem MI_step (i : Nat) (n : Node) (v : Int) (h : MI i n) : MI (i + 1) (madeStep n v) := by
  unfold madeStep
  simp only [MI] at h
  have h1 := Int.emod_nonneg (mkK v / 12) (show nNodes n + 1 ≠ 0 by omega)
  have h2 := Int.emod_lt_of_pos (mkK v / 12) (show 0 < nNodes n + 1 by omega)
  have h3 : 0 ≤ mkK v := Int.emod_nonneg v (by decide)
  split
  · simp only [MI]; dsimp only [den, nId, nNodes, nTerm, nVote, nBase, nBT, nSnap, nLog, nRole, nLead, nCommit, nVotes, nNext, nMatch, nClock, mKind, mFrom, mTo, mTerm, mIndex, mAt, mYes, mCommit, mEntries, mSnap, eTerm, eCmd, mkN, mkM, mkE, last, inR, sm, lastT] at *; omega
  split
  · simp only [MI]; dsimp only [den, nId, nNodes, nTerm, nVote, nBase, nBT, nSnap, nLog, nRole, nLead, nCommit, nVotes, nNext, nMatch, nClock, mKind, mFrom, mTo, mTerm, mIndex, mAt, mYes, mCommit, mEntries, mSnap, eTerm, eCmd, mkN, mkM, mkE, last, inR, sm, lastT] at *; omega
  split
  · unfold cutN
    split
    · simp only [MI]; dsimp only [den, nId, nNodes, nTerm, nVote, nBase, nBT, nSnap, nLog, nRole, nLead, nCommit, nVotes, nNext, nMatch, nClock, mKind, mFrom, mTo, mTerm, mIndex, mAt, mYes, mCommit, mEntries, mSnap, eTerm, eCmd, mkN, mkM, mkE, last, inR, sm, lastT] at *; omega
    · simp only [MI, behindN]; dsimp only [den, nId, nNodes, nTerm, nVote, nBase, nBT, nSnap, nLog, nRole, nLead, nCommit, nVotes, nNext, nMatch, nClock, mKind, mFrom, mTo, mTerm, mIndex, mAt, mYes, mCommit, mEntries, mSnap, eTerm, eCmd, mkN, mkM, mkE, last, inR, sm, lastT] at *; simp only [List.length_set, List.length_append, List.length_drop, List.length_cons, List.length_nil, List.length_replicate]; omega
  split
  · simp only [MI]; dsimp only [den, nId, nNodes, nTerm, nVote, nBase, nBT, nSnap, nLog, nRole, nLead, nCommit, nVotes, nNext, nMatch, nClock, mKind, mFrom, mTo, mTerm, mIndex, mAt, mYes, mCommit, mEntries, mSnap, eTerm, eCmd, mkN, mkM, mkE, last, inR, sm, lastT] at *; simp only [List.length_set, List.length_append, List.length_drop, List.length_cons, List.length_nil, List.length_replicate]; omega
  split
  · simp only [MI]; dsimp only [den, nId, nNodes, nTerm, nVote, nBase, nBT, nSnap, nLog, nRole, nLead, nCommit, nVotes, nNext, nMatch, nClock, mKind, mFrom, mTo, mTerm, mIndex, mAt, mYes, mCommit, mEntries, mSnap, eTerm, eCmd, mkN, mkM, mkE, last, inR, sm, lastT] at *; simp only [List.length_set, List.length_append, List.length_drop, List.length_cons, List.length_nil, List.length_replicate]; omega
  split
  · simp only [MI]; dsimp only [den, nId, nNodes, nTerm, nVote, nBase, nBT, nSnap, nLog, nRole, nLead, nCommit, nVotes, nNext, nMatch, nClock, mKind, mFrom, mTo, mTerm, mIndex, mAt, mYes, mCommit, mEntries, mSnap, eTerm, eCmd, mkN, mkM, mkE, last, inR, sm, lastT] at *; omega
  · simp only [MI]; dsimp only [den, nId, nNodes, nTerm, nVote, nBase, nBT, nSnap, nLog, nRole, nLead, nCommit, nVotes, nNext, nMatch, nClock, mKind, mFrom, mTo, mTerm, mIndex, mAt, mYes, mCommit, mEntries, mSnap, eTerm, eCmd, mkN, mkM, mkE, last, inR, sm, lastT] at *; simp only [List.length_set, List.length_append, List.length_drop, List.length_cons, List.length_nil, List.length_replicate]; omega
theorem fold_succ (l : List Int) (n0 : Node) (i : Nat) (h : i < l.length) : (l.take (i + 1)).foldl madeStep n0 = madeStep ((l.take i).foldl madeStep n0) (l.getD i 0) := by
  rw [List.take_add_one, List.foldl_append, List.getD_eq_getElem?_getD, List.getElem?_eq_getElem h]
  rfl
def fn22 : Fn := { a := .pair (.list tI) (.pair tI (.pair tI .unit)), r := .pair tNode .unit, pre := fun _ => True, f := fun x => (made x.1 x.2.1 x.2.2.1, ()) }
theorem h22  : Holds Try.prog 22 (fn22) := by
  refine Holds.of_vc (T := [(23, fn23), (30, fn30), (31, fn31), (50, fn50), (59, fn59)]) (TT := ttL) (rowAt := []) (c := c22) (ros := [.c 6 15]) (.cons _ h23 (.cons _ h30 (.cons _ h31 (.cons _ h50 (.cons _ h59 (.nil _)))))) mixed Try.func22 (by decide +kernel) (by rfl) comp22 (by kernel_rfl) rfl rfl (fun h => by cases h) ?_
  rintro ⟨(l : List Int), (id : Int), (nodes : Int), _⟩ hpre
  simp only [fn22] at hpre ⊢
  simp only [c22, fn23, fn30, fn31, fn50, fn59, go_sem, reduceIte, Nat.reduceBEq, Nat.reduceMul, reduceCtorEq, Nat.reduceAdd, Nat.reduceEqDiff, decide_eq_true_eq, decide_eq_false_iff_not, Bool.not_eq_true', Bool.not_eq_false', Bool.and_eq_true, Bool.or_eq_true, Bool.and_eq_false_iff, Bool.or_eq_false_iff, Bool.cond_true_left, Bool.cond_false_right, Bool.cond_true_right, Bool.cond_false_left, Bool.or_false, Bool.and_true, inR]
  refine loop_rule (β := Nat × Node) (fun b => ⟨[(0, .sl tI l false), (6, .ptr 6 0), (7, .ptr 7 0), (8, .int .i64 b.1)], [(6, .box zN), (7, .box (cellsA tNode b.2 []))]⟩)
    (fun b => b.1 ≤ l.length ∧ b.1 ≤ 40 ∧ b.2 = (l.take b.1).foldl madeStep (newN id nodes) ∧ MI b.1 b.2) (fun b => 40 - b.1) (0, newN id nodes) ?_ ?_ ?_
  · refine Ent_of [(6, 6), (7, 7)] rfl ?_ ?_
    · simp only [go_sem, reduceIte, Nat.reduceBEq, Nat.reduceMul, reduceCtorEq, Nat.reduceAdd, Nat.reduceEqDiff, decide_eq_true_eq, decide_eq_false_iff_not, Bool.not_eq_true', Bool.not_eq_false', Bool.and_eq_true, Bool.or_eq_true, Bool.and_eq_false_iff, Bool.or_eq_false_iff, Bool.cond_true_left, Bool.cond_false_right, Bool.cond_true_right, Bool.cond_false_left, Bool.or_false, Bool.and_true]
    · simp only [go_sem, reduceIte, Nat.reduceBEq, Nat.reduceMul, reduceCtorEq, Nat.reduceAdd, Nat.reduceEqDiff, decide_eq_true_eq, decide_eq_false_iff_not, Bool.not_eq_true', Bool.not_eq_false', Bool.and_eq_true, Bool.or_eq_true, Bool.and_eq_false_iff, Bool.or_eq_false_iff, Bool.cond_true_left, Bool.cond_false_right, Bool.cond_true_right, Bool.cond_false_left, Bool.or_false, Bool.and_true]
      trivial
  · exact ⟨Nat.zero_le _, Nat.zero_le _, rfl, MI_new id nodes⟩
  rintro ⟨i, n⟩ ⟨hi, hi40, hn, hM⟩
  simp only at hi hi40 hn hM
  simp only [go_sem, reduceIte, Nat.reduceBEq, Nat.reduceMul, reduceCtorEq, Nat.reduceAdd, Nat.reduceEqDiff, decide_eq_true_eq, decide_eq_false_iff_not, Bool.not_eq_true', Bool.not_eq_false', Bool.and_eq_true, Bool.or_eq_true, Bool.and_eq_false_iff, Bool.or_eq_false_iff, Bool.cond_true_left, Bool.cond_false_right, Bool.cond_true_right, Bool.cond_false_left, Bool.or_false, Bool.and_true, inR, fn23, fn30, fn31, fn50, fn59, p19, tq1, tm1, nn1, nn2, Int.reduceLE]
  generalize hv : l.getD i (dflt tI) = v
  have hM2 := hM
  simp only [MI] at hM2
  have g1 := Int.emod_nonneg (v % 1073741824 / 12) (show nNodes n + 1 ≠ 0 by omega)
  have g2 := Int.emod_lt_of_pos (v % 1073741824 / 12) (show 0 < nNodes n + 1 by omega)
  have g3 := Int.emod_nonneg (v % 1073741824 / 36) (show nNodes n + 1 ≠ 0 by omega)
  have g4 := Int.emod_lt_of_pos (v % 1073741824 / 36) (show 0 < nNodes n + 1 by omega)
  have g5 := Int.emod_nonneg (v % 1073741824 / 200) (show nNodes n ≠ 0 by omega)
  have g6 := Int.emod_lt_of_pos (v % 1073741824 / 200) (show 0 < nNodes n by omega)
  have g7 := Int.emod_nonneg (v % 1073741824 / 12) (show nNodes n ≠ 0 by omega)
  have g8 := Int.emod_lt_of_pos (v % 1073741824 / 12) (show 0 < nNodes n by omega)
  have g9 := Int.emod_nonneg (v % 1073741824 / 60) (show last n + 2 ≠ 0 by omega)
  have g10 := Int.emod_lt_of_pos (v % 1073741824 / 60) (show 0 < last n + 2 by omega)
  have g11 := Int.emod_nonneg (v % 1073741824 / 600) (show last n + 1 ≠ 0 by omega)
  have g12 := Int.emod_lt_of_pos (v % 1073741824 / 600) (show 0 < last n + 1 by omega)
  have hf : ∀ h : i < l.length, madeStep n v = (l.take (i + 1)).foldl madeStep (newN id nodes) := fun h => by rw [fold_succ _ _ _ h, ← hn, ← hv]; rfl
  have hsz := digits_size (v % 1073741824 / 12 % 1000)
  dsimp only [den, nId, nNodes, nTerm, nVote, nBase, nBT, nSnap, nLog, nRole, nLead, nCommit, nVotes, nNext, nMatch, nClock, mKind, mFrom, mTo, mTerm, mIndex, mAt, mYes, mCommit, mEntries, mSnap, eTerm, eCmd, mkN, mkM, mkE, last, inR, sm, lastT] at *
  repeat' (first | apply And.intro | intro _)
  all_goals (first | omega | rfl | skip)
  all_goals try refine Again.intro (i + 1, madeStep n v) (Ent_fz [36, 45, 102, 116, 119] [(6, 6), (7, 7)] rfl ?_ ?_) ⟨?_, ?_, hf (by omega), MI_step i n v hM⟩ (show 40 - (i + 1) < 40 - i by omega)
  all_goals try (show i + 1 ≤ _; omega)
  case refine_3.right =>
    rw [hn]
    unfold made
    rcases Nat.lt_or_ge i 40 with h2 | h2
    · rw [List.take_of_length_le (by omega), List.take_of_length_le (by omega)]
    · rw [show i = 40 by omega]
  all_goals (clear hn hM hf; try simp only [go_sem, reduceIte, Nat.reduceBEq, Nat.reduceMul, reduceCtorEq, Nat.reduceAdd, Nat.reduceEqDiff, decide_eq_true_eq, decide_eq_false_iff_not, Bool.not_eq_true', Bool.not_eq_false', Bool.and_eq_true, Bool.or_eq_true, Bool.and_eq_false_iff, Bool.or_eq_false_iff, Bool.cond_true_left, Bool.cond_false_right, Bool.cond_true_right, Bool.cond_false_left, Bool.or_false, Bool.and_true, madeStep, mkK, Int.reduceEq, *])
  all_goals try omega
  · exact List.take_of_length_le (by rw [List.length_set]; omega)
  · exact ⟨List.take_of_length_le (by rw [List.length_set]; omega), List.take_of_length_le (by rw [List.length_set]; omega)⟩
  · exact List.take_of_length_le (by rw [List.length_append]; exact Nat.le_refl _)
theorem MI_fold (n0 : Node) : ∀ (l : List Int) (i : Nat), MI i n0 → MI (i + l.length) (l.foldl madeStep n0) := by
  intro l
  induction l generalizing n0 with
  | nil => intro i h; exact h
  | cons v l ih =>
    intro i h
    have := ih (madeStep n0 v) (i + 1) (MI_step i n0 v h)
    rw [List.length_cons, Nat.add_comm l.length 1, ← Nat.add_assoc]
    exact this
theorem MI_made (l : List Int) (id nodes : Int) : MI 40 (made l id nodes) := by
  have := MI_fold (newN id nodes) (l.take 40) 0 (MI_new id nodes)
  unfold made
  have h2 : (l.take 40).length ≤ 40 := by rw [List.length_take]; omega
  simp only [MI] at this ⊢
  omega
end Go.AM

set_option maxRecDepth 100000
set_option maxHeartbeats 4000000
set_option linter.unusedSimpArgs false
namespace Go.AM
open Go.Proofs
attribute [local congr] vc_congr evOps_congr evTab_congr bind_congr condK_congr tabK_congr
def preS (xs : List Int) : Prop := xs.length * 8 ≤ 140737488351232 ∧ ∀ n ∈ xs, InR .i64 n
def voteOnceFn : Fn := { a := .pair (.list tI) (.pair tI (.pair tI (.pair (.list tI) .unit))), r := .pair .bool .unit, pre := fun x => preS x.1 ∧ InR .i64 x.2.1 ∧ InR .i64 x.2.2.1 ∧ preS x.2.2.2.1, f := fun _ => (true, ()) }
def VI (i : Nat) (n : Node) (xs : List Int) : Prop := MI (40 + i) n ∧ 2 ≤ nNodes n ∧ xs.length = 200 ∧ ∀ t : Nat, xs.getD t 0 ≠ 0 → (t : Int) ≤ nTerm n ∧ ((t : Int) = nTerm n → 0 ≤ nVote n ∧ xs.getD t 0 = 1 + nVote n)
theorem step_nodes (n : Node) (v : Int) : nNodes (madeStep n v) = nNodes n := by
  unfold madeStep cutN
  repeat' split
  all_goals rfl
theorem made_nodes (l : List Int) (id nodes : Int) : nNodes (made l id nodes) = min (max nodes 1) 5 := by
  unfold made
  have : ∀ (l : List Int) (n : Node), nNodes (l.foldl madeStep n) = nNodes n := by
    intro l
    induction l with
    | nil => intro n; rfl
    | cons v l ih => intro n; rw [List.foldl_cons, ih, step_nodes]
  rw [this]
  rfl
theorem message_from (v w : Int) (n : Node) (es : List Int) (h : 1 ≤ nNodes n) : 0 ≤ mFrom (message v w n es) ∧ mFrom (message v w n es) < nNodes n :=
  ⟨Int.emod_nonneg _ (by omega), Int.emod_lt_of_pos _ (by omega)⟩
theorem message_term (v w : Int) (n : Node) (es : List Int) : 1 ≤ mTerm (message v w n es) ∧ mTerm (message v w n es) ≤ max (nTerm n + 1) 1 := by
  unfold message
  dsimp only [den, nId, nNodes, nTerm, nVote, nBase, nBT, nSnap, nLog, nRole, nLead, nCommit, nVotes, nNext, nMatch, nClock, mKind, mFrom, mTo, mTerm, mIndex, mAt, mYes, mCommit, mEntries, mSnap, eTerm, eCmd, mkN, mkM, mkE, last, inR, sm, lastT] at *
  omega
theorem votes_len' {n : Node} (h1 : 1 ≤ nNodes n) (h5 : nNodes n ≤ 5) : (votes n).length = (nNodes n).toNat := by rw [votes_len]; omega
theorem MI_down {j : Nat} {n : Node} {t : Int} (h : MI j n) (ht : t ≤ j) : MI j (down n t) := by
  have hv := votes_len' h.1 h.2.1
  unfold down
  split
  · simp only [MI] at h ⊢
    dsimp only [den, nId, nNodes, nTerm, nVote, nBase, nBT, nSnap, nLog, nRole, nLead, nCommit, nVotes, nNext, nMatch, nClock, mKind, mFrom, mTo, mTerm, mIndex, mAt, mYes, mCommit, mEntries, mSnap, eTerm, eCmd, mkN, mkM, mkE, last, inR, sm, lastT] at *
    omega
  · exact h
theorem down_term (n : Node) (t : Int) : nTerm (down n t) = max (nTerm n) t := by
  unfold down; split
  · rename_i h; dsimp only [den, nId, nNodes, nTerm, nVote, nBase, nBT, nSnap, nLog, nRole, nLead, nCommit, nVotes, nNext, nMatch, nClock, mKind, mFrom, mTo, mTerm, mIndex, mAt, mYes, mCommit, mEntries, mSnap, eTerm, eCmd, mkN, mkM, mkE, last, inR, sm, lastT] at *; omega
  · omega
theorem down_id (n : Node) (t : Int) : nId (down n t) = nId n := by unfold down; split <;> rfl
theorem down_nodes (n : Node) (t : Int) : nNodes (down n t) = nNodes n := by unfold down; split <;> rfl
theorem down_same {n : Node} {t : Int} (h : t ≤ nTerm n) : down n t = n := by unfold down; exact if_neg (by omega)
structure AskF (n : Node) (m : Msg) (x : Node) (a : List Msg) : Prop where
  len : a.length = 1
  term : mTerm (a.getD 0 (dflt tMsg)) = nTerm x
  to : mTo (a.getD 0 (dflt tMsg)) = mFrom m
  from_ : mFrom (a.getD 0 (dflt tMsg)) = nId n
  up : nTerm n ≤ nTerm x
  le : nTerm x ≤ max (nTerm n) (mTerm m)
  id : nId x = nId n
  nodes : nNodes x = nNodes n
  yes : mYes (a.getD 0 (dflt tMsg)) = true → nVote x = mFrom m ∧ (nTerm x = nTerm n → nVote n = -1 ∨ nVote n = mFrom m)
  no : mYes (a.getD 0 (dflt tMsg)) = false → nTerm x = nTerm n → nVote x = nVote n
  mi : ∀ j, MI j n → mTerm m ≤ j → MI j x
theorem askF (n : Node) (m : Msg) : AskF n m (asked1 n m) (asked2 n m) := by
  have ht := down_term n (mTerm m)
  have hm : ∀ j, MI j n → mTerm m ≤ j → MI j (down n (mTerm m)) := fun j h h2 => MI_down h h2
  have hi := down_id n (mTerm m)
  have hn := down_nodes n (mTerm m)
  have hs : nTerm (down n (mTerm m)) = nTerm n → down n (mTerm m) = n := fun h => down_same (by omega)
  unfold asked1 asked2
  generalize hd : down n (mTerm m) = d at *
  unfold asked1' asked2'
  have hb : askB d m = true → (nVote d = -1 ∨ nVote d = mFrom m) := by
    unfold askB; simp only [Bool.and_eq_true, Bool.or_eq_true, decide_eq_true_eq, decide_eq_false_iff_not, Bool.and_eq_false_iff, Bool.or_eq_false_iff, Bool.not_eq_true', Bool.not_eq_false']; intro h; exact h.1.2
  split
  · rename_i h
    refine ⟨rfl, rfl, rfl, hi, by dsimp only [den, nId, nNodes, nTerm, nVote, nBase, nBT, nSnap, nLog, nRole, nLead, nCommit, nVotes, nNext, nMatch, nClock, mKind, mFrom, mTo, mTerm, mIndex, mAt, mYes, mCommit, mEntries, mSnap, eTerm, eCmd, mkN, mkM, mkE, last, inR, sm, lastT] at *; omega, by dsimp only [den, nId, nNodes, nTerm, nVote, nBase, nBT, nSnap, nLog, nRole, nLead, nCommit, nVotes, nNext, nMatch, nClock, mKind, mFrom, mTo, mTerm, mIndex, mAt, mYes, mCommit, mEntries, mSnap, eTerm, eCmd, mkN, mkM, mkE, last, inR, sm, lastT] at *; omega, hi, hn, fun _ => ⟨rfl, fun h2 => ?_⟩, fun h2 => ?_, fun j h1 h2 => ?_⟩
    · have := hb h; rw [hs h2] at this; exact this
    · exact absurd h (by rw [show askB d m = false from h2]; decide)
    · have := hm j h1 h2
      simp only [MI] at this ⊢
      dsimp only [den, nId, nNodes, nTerm, nVote, nBase, nBT, nSnap, nLog, nRole, nLead, nCommit, nVotes, nNext, nMatch, nClock, mKind, mFrom, mTo, mTerm, mIndex, mAt, mYes, mCommit, mEntries, mSnap, eTerm, eCmd, mkN, mkM, mkE, last, inR, sm, lastT] at *
      omega
  · rename_i h
    refine ⟨rfl, rfl, rfl, hi, by omega, by omega, hi, hn, fun h2 => absurd h2 h, fun _ h2 => ?_, fun j h1 h2 => hm j h1 h2⟩
    rw [hs h2]
theorem MI_mono {j k : Nat} {n : Node} (h : MI j n) (hj : j ≤ k) : MI k n := by
  simp only [MI] at h ⊢
  omega
theorem wf_of_MI {j : Nat} {n : Node} (h : MI j n) (hj : j ≤ 1000000) : wfN 1000000 n := by
  simp only [MI] at h
  simp only [wfN]
  omega
theorem h3  : Holds Try.prog 3 (voteOnceFn) := by
  refine Holds.of_vc (T := [(23, fn23), (22, fn22), (24, fn24), (25, fn25), (26, fn26)]) (TT := ttL) (rowAt := [10]) (c := c3) (ros := [.t 8]) (.cons _ h23 (.cons _ h22 (.cons _ h24 (.cons _ h25 (.cons _ h26 (.nil _)))))) mixed Try.func3 (by decide +kernel) (by rfl) comp3 (by kernel_rfl) rfl rfl (fun h => by cases h) ?_
  rintro ⟨(l : List Int), (id : Int), (nodes : Int), (asks : List Int), _⟩ hpre
  simp only [voteOnceFn] at hpre ⊢
  simp only [c3, fn23, fn22, fn24, fn25, fn26, go_sem, reduceIte, Nat.reduceBEq, Nat.reduceMul, reduceCtorEq, Nat.reduceAdd, Nat.reduceEqDiff, decide_eq_true_eq, decide_eq_false_iff_not, Bool.not_eq_true', Bool.not_eq_false', Bool.and_eq_true, Bool.or_eq_true, Bool.and_eq_false_iff, Bool.or_eq_false_iff, Bool.cond_true_left, Bool.cond_false_right, Bool.cond_true_right, Bool.cond_false_left, Bool.or_false, Bool.and_true, inR]
  refine ⟨by decide, ?_⟩
  refine loop_rule (β := Nat × Node × List Int) (fun b => ⟨[(3, .sl tI asks false), (9, .ptr 9 0), (10, .rptr 10 0 0), (11, .int .i64 b.1)], [(9, .box (cellsA tNode b.2.1 [])), (10, .row tI b.2.2 false)]⟩)
    (fun b => b.1 ≤ asks.length ∧ b.1 ≤ 60 ∧ VI b.1 b.2.1 b.2.2) (fun b => 60 - b.1) (0, made l id (max (nodes % 6) 2), List.replicate 200 0) ?_ ?_ ?_
  · refine Ent_of [(9, 9), (10, 10)] rfl ?_ ?_
    · simp only [go_sem, reduceIte, Nat.reduceBEq, Nat.reduceMul, reduceCtorEq, Nat.reduceAdd, Nat.reduceEqDiff, decide_eq_true_eq, decide_eq_false_iff_not, Bool.not_eq_true', Bool.not_eq_false', Bool.and_eq_true, Bool.or_eq_true, Bool.and_eq_false_iff, Bool.or_eq_false_iff, Bool.cond_true_left, Bool.cond_false_right, Bool.cond_true_right, Bool.cond_false_left, Bool.or_false, Bool.and_true]
      rfl
    · simp only [go_sem, reduceIte, Nat.reduceBEq, Nat.reduceMul, reduceCtorEq, Nat.reduceAdd, Nat.reduceEqDiff, decide_eq_true_eq, decide_eq_false_iff_not, Bool.not_eq_true', Bool.not_eq_false', Bool.and_eq_true, Bool.or_eq_true, Bool.and_eq_false_iff, Bool.or_eq_false_iff, Bool.cond_true_left, Bool.cond_false_right, Bool.cond_true_right, Bool.cond_false_left, Bool.or_false, Bool.and_true]
      trivial
  · refine ⟨Nat.zero_le _, Nat.zero_le _, MI_made _ _ _, ?_, by rfl, fun t ht => ?_⟩
    · have := made_nodes l id (max (nodes % 6) 2)
      show 2 ≤ nNodes (made l id (max (nodes % 6) 2))
      omega
    · exfalso; apply ht
      rw [List.getD_eq_getElem?_getD, List.getElem?_replicate]
      split <;> rfl
  rintro ⟨i, n, xs⟩ ⟨hi, hi60, hV⟩
  simp only at hi hi60 hV
  simp only [go_sem, reduceIte, Nat.reduceBEq, Nat.reduceMul, reduceCtorEq, Nat.reduceAdd, Nat.reduceEqDiff, decide_eq_true_eq, decide_eq_false_iff_not, Bool.not_eq_true', Bool.not_eq_false', Bool.and_eq_true, Bool.or_eq_true, Bool.and_eq_false_iff, Bool.or_eq_false_iff, Bool.cond_true_left, Bool.cond_false_right, Bool.cond_true_right, Bool.cond_false_left, Bool.or_false, Bool.and_true, inR, fn23, fn22, fn24, fn25, fn26, tq1, tm1, nn1, nn2, Int.reduceLE]
  have hle := i
  generalize asks.getD i (dflt tI) = v
  have hn5 : 1 ≤ nNodes n := by have := hV.2.1; omega
  have hmf := message_from (5 * (v % 1073741824 / 5)) (v % 1073741824 / 7) n [] hn5
  have hmt := message_term (5 * (v % 1073741824 / 5)) (v % 1073741824 / 7) n []
  generalize message (5 * (v % 1073741824 / 5)) (v % 1073741824 / 7) n [] = m0 at *
  generalize hm : (pr (a := tI) 1 (pr (a := tI) m0.2.1 (pr (a := tI) m0.2.2.1 (pr (a := tI) m0.2.2.2.1 (pr (a := tI) m0.2.2.2.2.1 (pr (a := tI) m0.2.2.2.2.2.1 (pr (a := .bool) m0.2.2.2.2.2.2.1 (pr (a := tI) m0.2.2.2.2.2.2.2.1 (pr (a := .list tEntry) m0.2.2.2.2.2.2.2.2.1 (pr (a := .str) (b := .unit) m0.2.2.2.2.2.2.2.2.2.1 ())))))))))) = m
  have hf1 : m0.2.1 = mFrom m := by rw [← hm]; rfl
  have hf2 : m0.2.2.2.1 = mTerm m := by rw [← hm]; rfl
  have hA := askF n m
  generalize asked1 n m = x at *
  generalize asked2 n m = a at *
  have hw := wf_of_MI hV.1 (by omega)
  have hM := hV.1
  simp only [MI] at hM
  have hx := hV.2.2.1
  have hT : xs.getD (nTerm x).toNat (dflt tI) ≠ 0 → ((nTerm x).toNat : Int) ≤ nTerm n ∧ (((nTerm x).toNat : Int) = nTerm n → 0 ≤ nVote n ∧ xs.getD (nTerm x).toNat (dflt tI) = 1 + nVote n) := hV.2.2.2 _
  have a1 := hA.len
  have a2 := hA.term
  have a3 := hA.to
  have a4 := hA.from_
  have a5 := hA.up
  have a6 := hA.le
  have a7 := hA.yes
  have a8 := hA.nodes
  clear hm
  simp only [hw, true_and]
  have b1 : 2 ≤ nNodes x := by have := hV.2.1; omega
  have b2 : mTerm m ≤ ((40 + (i + 1) : Nat) : Int) := by have : mTerm m0 = mTerm m := hf2; omega
  have b3 : 0 ≤ mFrom m := by have : mFrom m0 = mFrom m := hf1; omega
  have b4 : nTerm n ≤ nTerm x := a5
  have hne : ∀ t : Nat, xs.getD t 0 ≠ 0 → (t : Int) ≤ nTerm x ∧ ((t : Int) = nTerm x → nTerm x = nTerm n ∧ 0 ≤ nVote n ∧ xs.getD t 0 = 1 + nVote n) := by
    intro t ht
    obtain ⟨h1, h2⟩ := hV.2.2.2 t ht
    refine ⟨by omega, fun h => ?_⟩
    have := h2 (by omega)
    exact ⟨by omega, this⟩
  have hset : mYes (a.getD 0 (dflt tMsg)) = true → 0 ≤ nTerm x → nTerm x < 200 → VI (i + 1) x (xs.set (nTerm x).toNat (1 + mFrom m0)) := by
    intro hy h0 h200
    obtain ⟨y1, y2⟩ := a7 hy
    have e0 : mFrom m0 = mFrom m := hf1
    refine ⟨hA.mi _ (MI_mono hV.1 (by omega)) b2, b1, by rw [List.length_set]; exact hx, fun t ht => ?_⟩
    by_cases e : (nTerm x).toNat = t
    · subst e
      refine ⟨by omega, fun _ => ⟨by omega, ?_⟩⟩
      rw [List.getD_eq_getElem?_getD, List.getElem?_set_self (by omega), y1, e0]
      rfl
    · rw [List.getD_eq_getElem?_getD, List.getElem?_set_ne e, ← List.getD_eq_getElem?_getD] at ht ⊢
      refine ⟨(hne t ht).1, fun h => ?_⟩
      omega
  have hkeep : mYes (a.getD 0 (dflt tMsg)) = false → VI (i + 1) x xs := by
    intro hn
    refine ⟨hA.mi _ (MI_mono hV.1 (by omega)) b2, b1, hx, fun t ht => ⟨(hne t ht).1, fun h => ?_⟩⟩
    obtain ⟨h1, h2⟩ := (hne t ht).2 h
    rw [hA.no hn h1]
    exact h2
  dsimp only [den, nId, nNodes, nTerm, nVote, nBase, nBT, nSnap, nLog, nRole, nLead, nCommit, nVotes, nNext, nMatch, nClock, mKind, mFrom, mTo, mTerm, mIndex, mAt, mYes, mCommit, mEntries, mSnap, eTerm, eCmd, mkN, mkM, mkE, last, inR, sm, lastT] at *
  repeat' (first | apply And.intro | intro _)
  all_goals (first | omega | rfl | skip)
  · rename_i hy _ hq
    obtain ⟨y1, y2⟩ := a7 hy
    by_cases h0 : xs.getD x.2.2.1.toNat (dflt tI) = 0
    · omega
    · obtain ⟨t1, t2⟩ := hT h0
      have e : x.2.2.1 = n.2.2.1 := by omega
      have t3 := t2 (by omega)
      have y3 := y2 e
      omega
  · rename_i hy _ hq
    obtain ⟨y1, y2⟩ := a7 hy
    refine Again.intro (i + 1, x, xs.set x.2.2.1.toNat (1 + m0.2.1)) (Ent_of [(9, 9), (10, 10)] rfl ?_ ?_) ⟨?_, ?_, hset hy (by omega) (by omega)⟩ (show 60 - (i + 1) < 60 - i by omega)
    · simp only [go_sem, reduceIte, Nat.reduceBEq, Nat.reduceMul, reduceCtorEq, Nat.reduceAdd, Nat.reduceEqDiff, decide_eq_true_eq, decide_eq_false_iff_not, Bool.not_eq_true', Bool.not_eq_false', Bool.and_eq_true, Bool.or_eq_true, Bool.and_eq_false_iff, Bool.or_eq_false_iff, Bool.cond_true_left, Bool.cond_false_right, Bool.cond_true_right, Bool.cond_false_left, Bool.or_false, Bool.and_true]
    · simp only [go_sem, reduceIte, Nat.reduceBEq, Nat.reduceMul, reduceCtorEq, Nat.reduceAdd, Nat.reduceEqDiff, decide_eq_true_eq, decide_eq_false_iff_not, Bool.not_eq_true', Bool.not_eq_false', Bool.and_eq_true, Bool.or_eq_true, Bool.and_eq_false_iff, Bool.or_eq_false_iff, Bool.cond_true_left, Bool.cond_false_right, Bool.cond_true_right, Bool.cond_false_left, Bool.or_false, Bool.and_true]
      omega
    · show i + 1 ≤ _; omega
    · show i + 1 ≤ _; omega
  · rename_i hn
    refine Again.intro (i + 1, x, xs) (Ent_of [(9, 9), (10, 10)] rfl ?_ ?_) ⟨?_, ?_, hkeep hn⟩ (show 60 - (i + 1) < 60 - i by omega)
    · simp only [go_sem, reduceIte, Nat.reduceBEq, Nat.reduceMul, reduceCtorEq, Nat.reduceAdd, Nat.reduceEqDiff, decide_eq_true_eq, decide_eq_false_iff_not, Bool.not_eq_true', Bool.not_eq_false', Bool.and_eq_true, Bool.or_eq_true, Bool.and_eq_false_iff, Bool.or_eq_false_iff, Bool.cond_true_left, Bool.cond_false_right, Bool.cond_true_right, Bool.cond_false_left, Bool.or_false, Bool.and_true]
    · simp only [go_sem, reduceIte, Nat.reduceBEq, Nat.reduceMul, reduceCtorEq, Nat.reduceAdd, Nat.reduceEqDiff, decide_eq_true_eq, decide_eq_false_iff_not, Bool.not_eq_true', Bool.not_eq_false', Bool.and_eq_true, Bool.or_eq_true, Bool.and_eq_false_iff, Bool.or_eq_false_iff, Bool.cond_true_left, Bool.cond_false_right, Bool.cond_true_right, Bool.cond_false_left, Bool.or_false, Bool.and_true]
      omega
    · show i + 1 ≤ _; omega
    · show i + 1 ≤ _; omega
end Go.AM
