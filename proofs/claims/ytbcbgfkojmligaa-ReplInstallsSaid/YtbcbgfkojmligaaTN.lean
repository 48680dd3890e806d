import Derived.Test.YtbcbgfkojmligaaAA
import Derived.KernelRfl
import Derived.Test.YtbcbgfkojmligaaProg
/- Functions of the program as code of the abstract machine, each with the proof that it is that code; no condition. -/
set_option maxRecDepth 100000
namespace Go.AM
def c10_151 : C := (.seq (.reg [⟨(some 151), .mv, [.t 17], none⟩,
  ⟨(some 152), .not, [.t 151], none⟩,
  ⟨(some 153), .mv, [.t 152], none⟩,
  ⟨(some 154), .mv, [.t 19], (some (153, true))⟩,
  ⟨(some 155), .not, [.t 154], (some (153, true))⟩,
  ⟨(some 156), .pick, [.t 153, .t 155, .c (.bool false)], none⟩,
  ⟨(some 157), .mv, [.t 156], none⟩,
  ⟨(some 158), (.fld 10), [.t 20], (some (157, true))⟩,
  ⟨(some 159), (.load 1 false), [.t 158], (some (157, true))⟩,
  ⟨(some 160), .mv, [.t 11], (some (157, true))⟩,
  ⟨(some 161), (.bin .eql), [.t 159, .t 160], (some (157, true))⟩,
  ⟨(some 162), .pick, [.t 157, .t 161, .c (.bool false)], none⟩,
  ⟨(some 163), .mv, [.t 162], none⟩,
  ⟨(some 164), (.fld 0), [.t 20], (some (163, true))⟩,
  ⟨(some 165), (.load 1 false), [.t 164], (some (163, true))⟩,
  ⟨(some 166), (.bin .eql), [.t 165, .c (.int .i64 2)], (some (163, true))⟩,
  ⟨(some 167), .pick, [.t 163, .t 166, .c (.bool false)], none⟩,
  ⟨(some 168), .mv, [.t 167], none⟩,
  ⟨(some 169), (.fld 8), [.t 20], (some (168, true))⟩,
  ⟨(some 170), (.load 1 false), [.t 169], (some (168, true))⟩,
  ⟨(some 171), (.bin .eql), [.t 170, .c (.int .i64 0)], (some (168, true))⟩,
  ⟨(some 172), .pick, [.t 168, .t 171, .c (.bool false)], none⟩,
  ⟨(some 173), .mv, [.t 172], none⟩,
  ⟨(some 174), (.fld 7), [.t 20], (some (173, true))⟩,
  ⟨(some 175), (.load 1 false), [.t 174], (some (173, true))⟩,
  ⟨(some 176), (.fld 7), [.t 12], (some (173, true))⟩,
  ⟨(some 177), (.load 1 false), [.t 176], (some (173, true))⟩,
  ⟨(some 178), (.call 37), [.t 175, .t 177], (some (173, true))⟩,
  ⟨(some 179), .pick, [.t 173, .t 178, .c (.bool false)], none⟩,
  ⟨(some 180), .mv, [.t 179], none⟩,
  ⟨(some 181), (.call 36), [], (some (180, true))⟩,
  ⟨(some 182), .pick, [.t 180, .t 181, .c (.bool false)], none⟩,
  ⟨(some 6), .mv, [.t 182], none⟩])
 .ret)
def c10_135 : C := (.seq (.reg [⟨(some 135), (.load 15 true), [.t 12], none⟩,
  ⟨(some 136), .mv, [.t 11], none⟩,
  ⟨(some 137), (.bin .sub), [.t 136, .c (.int .i64 1)], none⟩,
  ⟨(some 138), (.call 48), [.t 135, .t 137], none⟩,
  ⟨(some 134), .mv, [.t 138], none⟩,
  ⟨(some 139), (.ext 0), [.t 134], none⟩,
  ⟨(some 140), (.ext 1), [.t 134], none⟩,
  ⟨(some 16), .mv, [.t 139], none⟩,
  ⟨(some 17), .mv, [.t 140], none⟩])
 (.seq (.reg [⟨(some 142), (.load 15 true), [.t 12], none⟩,
  ⟨(some 143), .mv, [.t 7], none⟩,
  ⟨(some 144), (.bin .add), [.t 143, .c (.int .i64 1)], none⟩,
  ⟨(some 145), (.call 48), [.t 142, .t 144], none⟩,
  ⟨(some 141), .mv, [.t 145], none⟩,
  ⟨(some 146), (.ext 0), [.t 141], none⟩,
  ⟨(some 147), (.ext 1), [.t 141], none⟩,
  ⟨(some 18), .mv, [.t 146], none⟩,
  ⟨(some 19), .mv, [.t 147], none⟩])
 (.seq (.reg [⟨(some 148), (.load 15 true), [.t 12], none⟩,
  ⟨(some 149), (.call 55), [.t 148], none⟩,
  ⟨(some 150), (.call 54), [.c (.int .i64 2), .c (.int .i64 3), .t 149], none⟩,
  ⟨(some 20), (.alloc [.int .i64 0, .int .i64 0, .int .i64 0, .int .i64 0, .int .i64 0, .int .i64 0, .str ⟨#[]⟩, .sl tEntry [] true, .int .i64 0, .int .i64 0, .int .i64 0, .sl .bool [] true, .sl tI [] true, .sl tI [] true, .int .i64 0]), [], none⟩,
  ⟨none, (.store 15), [.t 20, .t 150], none⟩])
 (.cut c10_151))))
def c10_103 : C := (.seq (.seq (.reg [⟨(some 103), .mv, [.t 11], none⟩,
  ⟨(some 13), .mv, [.t 103], none⟩])
 (.block 2 (.loop (.seq (.seq (.reg [⟨(some 104), .mv, [.t 13], none⟩,
  ⟨(some 105), .mv, [.t 7], none⟩,
  ⟨(some 106), (.bin .leq), [.t 104, .t 105], none⟩])
 (.cond (.t 106) .skip (.exit 2)))
 (.seq (.block 3 (.seq (.reg [⟨(some 110), (.load 15 true), [.t 12], none⟩,
  ⟨(some 111), .mv, [.t 13], none⟩,
  ⟨(some 112), (.call 48), [.t 110, .t 111], none⟩,
  ⟨(some 109), .mv, [.t 112], none⟩,
  ⟨(some 113), (.ext 0), [.t 109], none⟩,
  ⟨(some 114), (.ext 1), [.t 109], none⟩,
  ⟨(some 14), .mv, [.t 113], none⟩,
  ⟨(some 15), .mv, [.t 114], none⟩])
 (.seq (.regd [⟨(some 115), .mv, [.t 15], none⟩,
  ⟨(some 116), .not, [.t 115], none⟩,
  ⟨(some 117), .mv, [.t 116], none⟩,
  ⟨(some 118), .mv, [.t 14], (some (117, false))⟩,
  ⟨(some 119), .mv, [.t 13], (some (117, false))⟩,
  ⟨(some 120), (.bin .sub), [.t 119, .c (.int .i64 1)], (some (117, false))⟩,
  ⟨(some 121), (.bin .quo), [.t 120, .c (.int .i64 3)], (some (117, false))⟩,
  ⟨(some 122), (.bin .neq), [.t 118, .t 121], (some (117, false))⟩,
  ⟨(some 123), .pick, [.t 117, .c (.bool true), .t 122], none⟩,
  ⟨(some 124), .mv, [.t 123], none⟩,
  ⟨(some 125), (.load 15 true), [.t 12], (some (124, false))⟩,
  ⟨(some 126), .mv, [.t 13], (some (124, false))⟩,
  ⟨(some 127), (.call 53), [.t 125, .t 126], (some (124, false))⟩,
  ⟨(some 128), (.load 15 true), [.t 9], (some (124, false))⟩,
  ⟨(some 129), .mv, [.t 13], (some (124, false))⟩,
  ⟨(some 130), (.call 53), [.t 128, .t 129], (some (124, false))⟩,
  ⟨(some 131), (.call 37), [.t 127, .t 130], (some (124, false))⟩,
  ⟨(some 132), .not, [.t 131], (some (124, false))⟩,
  ⟨(some 133), .pick, [.t 124, .c (.bool true), .t 132], none⟩] [0, 1, 2, 4, 4, 20, 36, 76, 132, 260, 512, 512, 3584, 512, 512, 29184, 37376, 66048, 131584])
 (.cond (.t 133) (.seq (.reg [⟨(some 6), .mv, [.c (.bool false)], none⟩])
 .ret) .skip))))
 (.reg [⟨(some 107), .mv, [.t 13], none⟩,
  ⟨(some 108), (.bin .add), [.t 107, .c (.int .i64 1)], none⟩,
  ⟨(some 13), .mv, [.t 108], none⟩]))))))
 (.cut c10_135))
def c10_66 : C := (.seq (.seq (.reg [⟨(some 66), (.fld 4), [.t 12], none⟩,
  ⟨(some 67), (.load 1 false), [.t 66], none⟩,
  ⟨(some 68), .mv, [.t 11], none⟩,
  ⟨(some 69), (.bin .neq), [.t 67, .t 68], none⟩,
  ⟨(some 70), .mv, [.t 69], none⟩,
  ⟨(some 71), (.fld 5), [.t 12], (some (70, false))⟩,
  ⟨(some 72), (.load 1 false), [.t 71], (some (70, false))⟩,
  ⟨(some 73), .mv, [.t 11], (some (70, false))⟩,
  ⟨(some 74), (.bin .sub), [.t 73, .c (.int .i64 1)], (some (70, false))⟩,
  ⟨(some 75), (.bin .quo), [.t 74, .c (.int .i64 3)], (some (70, false))⟩,
  ⟨(some 76), (.bin .neq), [.t 72, .t 75], (some (70, false))⟩,
  ⟨(some 77), .pick, [.t 70, .c (.bool true), .t 76], none⟩,
  ⟨(some 78), .mv, [.t 77], none⟩,
  ⟨(some 79), (.fld 6), [.t 12], (some (78, false))⟩,
  ⟨(some 80), (.load 1 false), [.t 79], (some (78, false))⟩,
  ⟨(some 81), (.bin .neq), [.t 80, .c (.str ⟨#[115, 110, 97, 112]⟩)], (some (78, false))⟩,
  ⟨(some 82), .pick, [.t 78, .c (.bool true), .t 81], none⟩,
  ⟨(some 83), .mv, [.t 82], none⟩,
  ⟨(some 84), (.fld 7), [.t 12], (some (83, false))⟩,
  ⟨(some 85), (.load 1 false), [.t 84], (some (83, false))⟩,
  ⟨(some 86), .len, [.t 85], (some (83, false))⟩,
  ⟨(some 87), .mv, [.t 7], (some (83, false))⟩,
  ⟨(some 88), .mv, [.t 11], (some (83, false))⟩,
  ⟨(some 89), (.bin .sub), [.t 87, .t 88], (some (83, false))⟩,
  ⟨(some 90), (.bin .neq), [.t 86, .t 89], (some (83, false))⟩,
  ⟨(some 91), .pick, [.t 83, .c (.bool true), .t 90], none⟩,
  ⟨(some 92), .mv, [.t 91], none⟩,
  ⟨(some 93), (.load 15 true), [.t 12], (some (92, false))⟩,
  ⟨(some 94), (.call 52), [.t 93], (some (92, false))⟩,
  ⟨(some 95), .mv, [.t 7], (some (92, false))⟩,
  ⟨(some 96), (.bin .neq), [.t 94, .t 95], (some (92, false))⟩,
  ⟨(some 97), .pick, [.t 92, .c (.bool true), .t 96], none⟩,
  ⟨(some 98), .mv, [.t 97], none⟩,
  ⟨(some 99), (.load 15 true), [.t 12], (some (98, false))⟩,
  ⟨(some 100), (.call 46), [.t 99], (some (98, false))⟩,
  ⟨(some 101), .not, [.t 100], (some (98, false))⟩,
  ⟨(some 102), .pick, [.t 98, .c (.bool true), .t 101], none⟩])
 (.cond (.t 102) (.seq (.reg [⟨(some 6), .mv, [.c (.bool false)], none⟩])
 .ret) .skip))
 (.cut c10_103))
def c10_53 : C := (.seq (.seq (.reg [⟨(some 53), .mv, [.t 11], none⟩,
  ⟨(some 54), (.bin .eql), [.t 53, .c (.int .i64 0)], none⟩,
  ⟨(some 55), .mv, [.t 54], none⟩,
  ⟨(some 56), .mv, [.t 11], (some (55, false))⟩,
  ⟨(some 57), .mv, [.t 8], (some (55, false))⟩,
  ⟨(some 58), (.bin .gtr), [.t 56, .t 57], (some (55, false))⟩,
  ⟨(some 59), .pick, [.t 55, .c (.bool true), .t 58], none⟩])
 (.cond (.t 59) (.seq (.reg [⟨(some 60), (.load 15 true), [.t 9], none⟩,
  ⟨(some 61), (.load 15 true), [.t 12], none⟩,
  ⟨(some 62), (.call 33), [.t 60, .t 61], none⟩,
  ⟨(some 63), .mv, [.t 62], none⟩,
  ⟨(some 64), (.call 36), [], (some (63, true))⟩,
  ⟨(some 65), .pick, [.t 63, .t 64, .c (.bool false)], none⟩,
  ⟨(some 6), .mv, [.t 65], none⟩])
 .ret) .skip))
 (.cut c10_66))
def c10_44 : C := (.seq (.reg [⟨(some 44), .mv, [.t 8], none⟩,
  ⟨(some 45), (.fld 10), [.t 9], none⟩,
  ⟨none, (.store 1), [.t 45, .t 44], none⟩])
 (.seq (.reg [⟨(some 46), .mv, [.t 2], none⟩,
  ⟨(some 47), .mv, [.t 7], none⟩,
  ⟨(some 48), (.bin .add), [.t 47, .c (.int .i64 3)], none⟩,
  ⟨(some 49), (.call 23), [.t 46, .t 48], none⟩,
  ⟨(some 11), .mv, [.t 49], none⟩])
 (.seq (.reg [⟨(some 50), (.load 15 true), [.t 9], none⟩,
  ⟨(some 51), .mv, [.t 11], none⟩,
  ⟨(some 52), (.call 51), [.t 50, .t 51, .c (.str ⟨#[115, 110, 97, 112]⟩)], none⟩,
  ⟨(some 12), (.alloc [.int .i64 0, .int .i64 0, .int .i64 0, .int .i64 0, .int .i64 0, .int .i64 0, .str ⟨#[]⟩, .sl tEntry [] true, .int .i64 0, .int .i64 0, .int .i64 0, .sl .bool [] true, .sl tI [] true, .sl tI [] true, .int .i64 0]), [], none⟩,
  ⟨none, (.store 15), [.t 12, .t 52], none⟩])
 (.cut c10_53))))
def c10 : C := (.seq (.reg [⟨(some 6), .mv, [.c (.bool false)], none⟩])
 (.seq (.reg [⟨(some 21), .mv, [.t 0], none⟩,
  ⟨(some 22), (.call 23), [.t 21, .c (.int .i64 30)], none⟩,
  ⟨(some 7), .mv, [.t 22], none⟩])
 (.seq (.reg [⟨(some 23), .mv, [.t 1], none⟩,
  ⟨(some 24), .mv, [.t 7], none⟩,
  ⟨(some 25), (.bin .add), [.t 24, .c (.int .i64 1)], none⟩,
  ⟨(some 26), (.call 23), [.t 23, .t 25], none⟩,
  ⟨(some 8), .mv, [.t 26], none⟩])
 (.seq (.reg [⟨(some 27), (.call 31), [.c (.int .i64 0), .c (.int .i64 3)], none⟩,
  ⟨(some 9), (.alloc [.int .i64 0, .int .i64 0, .int .i64 0, .int .i64 0, .int .i64 0, .int .i64 0, .str ⟨#[]⟩, .sl tEntry [] true, .int .i64 0, .int .i64 0, .int .i64 0, .sl .bool [] true, .sl tI [] true, .sl tI [] true, .int .i64 0]), [], none⟩,
  ⟨none, (.store 15), [.t 9, .t 27], none⟩])
 (.seq (.reg [⟨(some 28), (.fld 2), [.t 9], none⟩,
  ⟨none, (.store 1), [.t 28, .c (.int .i64 50)], none⟩])
 (.seq (.seq (.reg [⟨(some 10), .mv, [.c (.int .i64 0)], none⟩])
 (.block 0 (.loop (.seq (.seq (.reg [⟨(some 29), .mv, [.t 10], none⟩,
  ⟨(some 30), .mv, [.t 7], none⟩,
  ⟨(some 31), (.bin .lss), [.t 29, .t 30], none⟩])
 (.cond (.t 31) .skip (.exit 0)))
 (.seq (.block 1 (.regd [⟨(some 34), (.fld 7), [.t 9], none⟩,
  ⟨(some 35), (.load 1 false), [.t 34], none⟩,
  ⟨(some 36), .mv, [.t 10], none⟩,
  ⟨(some 37), (.bin .quo), [.t 36, .c (.int .i64 3)], none⟩,
  ⟨(some 38), .mv, [.t 10], none⟩,
  ⟨(some 39), (.call 50), [.t 38], none⟩,
  ⟨(some 40), (.build [.int .i64 0, .str ⟨#[]⟩] [(0, 1), (1, 1)]), [.t 37, .t 39], none⟩,
  ⟨(some 41), (.bslice tEntry 1), [.t 40], none⟩,
  ⟨(some 42), (.app 2 24), [.t 35, .t 41], none⟩,
  ⟨(some 43), (.fld 7), [.t 9], none⟩,
  ⟨none, (.store 1), [.t 43, .t 42], none⟩] [0, 1, 0, 4, 0, 16, 40, 64, 162, 511, 1023]))
 (.reg [⟨(some 32), .mv, [.t 10], none⟩,
  ⟨(some 33), (.bin .add), [.t 32, .c (.int .i64 1)], none⟩,
  ⟨(some 10), .mv, [.t 33], none⟩]))))))
 (.cut c10_44)))))))
theorem comp10 : compC Go.Proofs.Try.prog ttL 183 [] (match Go.Proofs.Try.f10.body with | some b => b | none => .skip) = some (erase c10) := by kernel_rfl
end Go.AM
