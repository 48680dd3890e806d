import Derived.Test.YtbcbgfkojmligaaHAX
import Derived.Test.YtbcbgfkojmligaaAN
import Derived.KernelRfl
import Derived.Test.YtbcbgfkojmligaaProg
/- What functions of the program answer, each under the conditions that its contract names. -/
set_option linter.unusedVariables false
set_option linter.unusedSimpArgs false
set_option maxRecDepth 100000
namespace Go.AM
def c86_45 : C := (.block 0 (.seq (.reg [⟨(some 45), .mv, [.t 7], none⟩,
  ⟨(some 46), (.bin .lss), [.t 45, .c (.int .i64 5)], none⟩,
  ⟨(some 47), .mv, [.t 46], none⟩,
  ⟨(some 48), .mv, [.t 0], (some (47, false))⟩,
  ⟨(some 49), .nilchk, [.t 48], (some (47, false))⟩,
  ⟨(some 50), (.fld 1), [.t 49], (some (47, false))⟩,
  ⟨(some 51), (.load 1 false), [.t 50], (some (47, false))⟩,
  ⟨(some 52), .len, [.t 51], (some (47, false))⟩,
  ⟨(some 53), (.bin .eql), [.t 52, .c (.int .i64 0)], (some (47, false))⟩,
  ⟨(some 54), .mv, [.t 53], (some (47, false))⟩,
  ⟨(some 55), .mv, [.t 7], (some (54, true))⟩,
  ⟨(some 56), (.bin .neq), [.t 55, .c (.int .i64 15)], (some (54, true))⟩,
  ⟨(some 57), .pick, [.t 54, .t 56, .c (.bool false)], (some (47, false))⟩,
  ⟨(some 58), .pick, [.t 47, .c (.bool true), .t 57], none⟩,
  ⟨(some 44), .mv, [.t 58], none⟩])
 (.cond (.t 44) (.regd [⟨(some 60), .mv, [.t 0], none⟩,
  ⟨(some 61), .nilchk, [.t 60], none⟩,
  ⟨(some 62), (.fld 0), [.t 61], none⟩,
  ⟨(some 63), (.load 1 false), [.t 62], none⟩,
  ⟨(some 64), .mv, [.t 5], none⟩,
  ⟨(some 65), .mv, [.t 0], none⟩,
  ⟨(some 66), .nilchk, [.t 65], none⟩,
  ⟨(some 67), (.fld 0), [.t 66], none⟩,
  ⟨(some 68), (.load 1 false), [.t 67], none⟩,
  ⟨(some 69), .mv, [.t 5], none⟩,
  ⟨(some 70), (.idx 15), [.t 68, .t 69], none⟩,
  ⟨(some 71), (.load 15 true), [.t 70], none⟩,
  ⟨(some 72), (.call 78), [.t 71], none⟩,
  ⟨(some 59), .mv, [.t 72], none⟩,
  ⟨(some 73), (.ext 0), [.t 59], none⟩,
  ⟨(some 74), (.ext 1), [.t 59], none⟩,
  ⟨(some 75), (.idx 15), [.t 63, .t 64], none⟩,
  ⟨none, (.store 15), [.t 75, .t 73], none⟩,
  ⟨(some 6), .mv, [.t 74], none⟩] [0, 1, 2, 4, 0, 0, 32, 64, 128, 0, 768, 1024, 2048, 4096, 8192, 8192, 32767, 98303, 262143]) (.seq (.reg [⟨(some 77), .mv, [.t 7], none⟩,
  ⟨(some 78), (.bin .lss), [.t 77, .c (.int .i64 12)], none⟩,
  ⟨(some 76), .mv, [.t 78], none⟩])
 (.cond (.t 76) (.seq (.reg [⟨(some 79), .mv, [.t 4], none⟩,
  ⟨(some 80), (.bin .quo), [.t 79, .c (.int .i64 16)], none⟩,
  ⟨(some 81), .mv, [.t 0], none⟩,
  ⟨(some 82), .nilchk, [.t 81], none⟩,
  ⟨(some 83), (.fld 1), [.t 82], none⟩,
  ⟨(some 84), (.load 1 false), [.t 83], none⟩,
  ⟨(some 85), .len, [.t 84], none⟩,
  ⟨(some 86), (.bin .rem), [.t 80, .t 85], none⟩,
  ⟨(some 8), .mv, [.t 86], none⟩])
 (.seq (.reg [⟨(some 87), .mv, [.t 0], none⟩,
  ⟨(some 88), .nilchk, [.t 87], none⟩,
  ⟨(some 89), (.fld 1), [.t 88], none⟩,
  ⟨(some 90), (.load 1 false), [.t 89], none⟩,
  ⟨(some 91), .mv, [.t 8], none⟩,
  ⟨(some 92), (.idx 10), [.t 90, .t 91], none⟩,
  ⟨(some 93), (.load 10 true), [.t 92], none⟩,
  ⟨(some 9), (.alloc [.int .i64 0, .int .i64 0, .int .i64 0, .int .i64 0, .int .i64 0, .int .i64 0, .bool false, .int .i64 0, .sl tEntry [] true, .str ⟨#[]⟩]), [], none⟩,
  ⟨none, (.store 10), [.t 9, .t 93], none⟩])
 (.seq (.regd [⟨(some 94), .mv, [.t 0], none⟩,
  ⟨(some 95), .mv, [.t 0], none⟩,
  ⟨(some 96), .nilchk, [.t 95], none⟩,
  ⟨(some 97), (.fld 1), [.t 96], none⟩,
  ⟨(some 98), (.load 1 false), [.t 97], none⟩,
  ⟨(some 99), .mv, [.t 8], none⟩,
  ⟨(some 100), (.slc 10 false true false), [.t 98, .t 99], none⟩,
  ⟨(some 101), (.app 10 104), [.c (.sl tMsg [] true), .t 100], none⟩,
  ⟨(some 102), .mv, [.t 0], none⟩,
  ⟨(some 103), .nilchk, [.t 102], none⟩,
  ⟨(some 104), (.fld 1), [.t 103], none⟩,
  ⟨(some 105), (.load 1 false), [.t 104], none⟩,
  ⟨(some 106), .mv, [.t 8], none⟩,
  ⟨(some 107), (.bin .add), [.t 106, .c (.int .i64 1)], none⟩,
  ⟨(some 108), (.slc 10 true false false), [.t 105, .t 107], none⟩,
  ⟨(some 109), (.app 10 104), [.t 101, .t 108], none⟩,
  ⟨(some 110), .nilchk, [.t 94], none⟩,
  ⟨(some 111), (.fld 1), [.t 110], none⟩,
  ⟨none, (.store 1), [.t 111, .t 109], none⟩] [0, 0, 2, 4, 8, 0, 48, 64, 0, 256, 512, 1024, 0, 4096, 10240, 16512, 65535, 131071, 196607])
 (.seq (.regd [⟨(some 112), (.fld 2), [.t 9], none⟩,
  ⟨(some 113), (.load 1 false), [.t 112], none⟩,
  ⟨(some 114), (.bin .geq), [.t 113, .c (.int .i64 0)], none⟩,
  ⟨(some 115), .mv, [.t 114], none⟩,
  ⟨(some 116), (.fld 2), [.t 9], (some (115, true))⟩,
  ⟨(some 117), (.load 1 false), [.t 116], (some (115, true))⟩,
  ⟨(some 118), .mv, [.t 0], (some (115, true))⟩,
  ⟨(some 119), .nilchk, [.t 118], (some (115, true))⟩,
  ⟨(some 120), (.fld 0), [.t 119], (some (115, true))⟩,
  ⟨(some 121), (.load 1 false), [.t 120], (some (115, true))⟩,
  ⟨(some 122), .len, [.t 121], (some (115, true))⟩,
  ⟨(some 123), (.bin .lss), [.t 117, .t 122], (some (115, true))⟩,
  ⟨(some 124), .pick, [.t 115, .t 123, .c (.bool false)], none⟩] [0, 1, 2, 4, 8, 24, 8, 72, 136, 264, 520, 1064, 2056])
 (.cond (.t 124) (.regd [⟨(some 126), .mv, [.t 0], none⟩,
  ⟨(some 127), .nilchk, [.t 126], none⟩,
  ⟨(some 128), (.fld 0), [.t 127], none⟩,
  ⟨(some 129), (.load 1 false), [.t 128], none⟩,
  ⟨(some 130), (.fld 2), [.t 9], none⟩,
  ⟨(some 131), (.load 1 false), [.t 130], none⟩,
  ⟨(some 132), .mv, [.t 0], none⟩,
  ⟨(some 133), .nilchk, [.t 132], none⟩,
  ⟨(some 134), (.fld 0), [.t 133], none⟩,
  ⟨(some 135), (.load 1 false), [.t 134], none⟩,
  ⟨(some 136), (.fld 2), [.t 9], none⟩,
  ⟨(some 137), (.load 1 false), [.t 136], none⟩,
  ⟨(some 138), (.idx 15), [.t 135, .t 137], none⟩,
  ⟨(some 139), (.load 15 true), [.t 138], none⟩,
  ⟨(some 140), (.load 10 true), [.t 9], none⟩,
  ⟨(some 141), (.call 80), [.t 139, .t 140], none⟩,
  ⟨(some 125), .mv, [.t 141], none⟩,
  ⟨(some 142), (.ext 0), [.t 125], none⟩,
  ⟨(some 143), (.ext 1), [.t 125], none⟩,
  ⟨(some 144), (.idx 15), [.t 129, .t 131], none⟩,
  ⟨none, (.store 15), [.t 144, .t 142], none⟩,
  ⟨(some 6), .mv, [.t 143], none⟩] [0, 1, 2, 4, 0, 16, 0, 64, 128, 256, 0, 1024, 2560, 4096, 0, 24576, 32768, 65536, 65536, 262143, 786431, 2097151]) .skip))))) (.seq (.reg [⟨(some 146), .mv, [.t 7], none⟩,
  ⟨(some 147), (.bin .eql), [.t 146, .c (.int .i64 12)], none⟩,
  ⟨(some 145), .mv, [.t 147], none⟩])
 (.cond (.t 145) (.seq (.reg [⟨(some 148), .mv, [.t 4], none⟩,
  ⟨(some 149), (.bin .quo), [.t 148, .c (.int .i64 16)], none⟩,
  ⟨(some 150), .mv, [.t 0], none⟩,
  ⟨(some 151), .nilchk, [.t 150], none⟩,
  ⟨(some 152), (.fld 1), [.t 151], none⟩,
  ⟨(some 153), (.load 1 false), [.t 152], none⟩,
  ⟨(some 154), .len, [.t 153], none⟩,
  ⟨(some 155), (.bin .rem), [.t 149, .t 154], none⟩,
  ⟨(some 10), .mv, [.t 155], none⟩])
 (.regd [⟨(some 156), .mv, [.t 0], none⟩,
  ⟨(some 157), .mv, [.t 0], none⟩,
  ⟨(some 158), .nilchk, [.t 157], none⟩,
  ⟨(some 159), (.fld 1), [.t 158], none⟩,
  ⟨(some 160), (.load 1 false), [.t 159], none⟩,
  ⟨(some 161), .mv, [.t 10], none⟩,
  ⟨(some 162), (.slc 10 false true false), [.t 160, .t 161], none⟩,
  ⟨(some 163), (.app 10 104), [.c (.sl tMsg [] true), .t 162], none⟩,
  ⟨(some 164), .mv, [.t 0], none⟩,
  ⟨(some 165), .nilchk, [.t 164], none⟩,
  ⟨(some 166), (.fld 1), [.t 165], none⟩,
  ⟨(some 167), (.load 1 false), [.t 166], none⟩,
  ⟨(some 168), .mv, [.t 10], none⟩,
  ⟨(some 169), (.bin .add), [.t 168, .c (.int .i64 1)], none⟩,
  ⟨(some 170), (.slc 10 true false false), [.t 167, .t 169], none⟩,
  ⟨(some 171), (.app 10 104), [.t 163, .t 170], none⟩,
  ⟨(some 172), .nilchk, [.t 156], none⟩,
  ⟨(some 173), (.fld 1), [.t 172], none⟩,
  ⟨none, (.store 1), [.t 173, .t 171], none⟩] [0, 0, 2, 4, 8, 0, 48, 64, 0, 256, 512, 1024, 0, 4096, 10240, 16512, 65535, 131071, 196607])) (.seq (.reg [⟨(some 175), .mv, [.t 7], none⟩,
  ⟨(some 176), (.bin .eql), [.t 175, .c (.int .i64 13)], none⟩,
  ⟨(some 174), .mv, [.t 176], none⟩])
 (.cond (.t 174) (.regd [⟨(some 177), .mv, [.t 0], none⟩,
  ⟨(some 178), .mv, [.t 0], none⟩,
  ⟨(some 179), .nilchk, [.t 178], none⟩,
  ⟨(some 180), (.fld 1), [.t 179], none⟩,
  ⟨(some 181), (.load 1 false), [.t 180], none⟩,
  ⟨(some 182), .mv, [.t 0], none⟩,
  ⟨(some 183), .nilchk, [.t 182], none⟩,
  ⟨(some 184), (.fld 1), [.t 183], none⟩,
  ⟨(some 185), (.load 1 false), [.t 184], none⟩,
  ⟨(some 186), .mv, [.t 4], none⟩,
  ⟨(some 187), (.bin .quo), [.t 186, .c (.int .i64 16)], none⟩,
  ⟨(some 188), .mv, [.t 0], none⟩,
  ⟨(some 189), .nilchk, [.t 188], none⟩,
  ⟨(some 190), (.fld 1), [.t 189], none⟩,
  ⟨(some 191), (.load 1 false), [.t 190], none⟩,
  ⟨(some 192), .len, [.t 191], none⟩,
  ⟨(some 193), (.bin .rem), [.t 187, .t 192], none⟩,
  ⟨(some 194), (.idx 10), [.t 185, .t 193], none⟩,
  ⟨(some 195), (.load 10 true), [.t 194], none⟩,
  ⟨(some 196), (.bslice tMsg 1), [.t 195], none⟩,
  ⟨(some 197), (.app 10 104), [.t 181, .t 196], none⟩,
  ⟨(some 198), .nilchk, [.t 177], none⟩,
  ⟨(some 199), (.fld 1), [.t 198], none⟩,
  ⟨none, (.store 1), [.t 199, .t 197], none⟩] [0, 0, 2, 4, 8, 0, 32, 64, 128, 0, 512, 0, 2048, 4096, 8192, 16384, 33792, 65792, 131072, 262144, 524304, 2097151, 4194303, 6291455]) (.seq (.reg [⟨(some 201), .mv, [.t 7], none⟩,
  ⟨(some 202), (.bin .eql), [.t 201, .c (.int .i64 14)], none⟩,
  ⟨(some 200), .mv, [.t 202], none⟩])
 (.cond (.t 200) (.seq (.reg [⟨(some 203), .mv, [.t 4], none⟩,
  ⟨(some 204), (.bin .quo), [.t 203, .c (.int .i64 16)], none⟩,
  ⟨(some 205), .mv, [.t 0], none⟩,
  ⟨(some 206), .nilchk, [.t 205], none⟩,
  ⟨(some 207), (.fld 0), [.t 206], none⟩,
  ⟨(some 208), (.load 1 false), [.t 207], none⟩,
  ⟨(some 209), .len, [.t 208], none⟩,
  ⟨(some 210), (.bin .rem), [.t 204, .t 209], none⟩,
  ⟨(some 5), .mv, [.t 210], none⟩])
 (.regd [⟨(some 211), .mv, [.t 0], none⟩,
  ⟨(some 212), .nilchk, [.t 211], none⟩,
  ⟨(some 213), (.fld 0), [.t 212], none⟩,
  ⟨(some 214), (.load 1 false), [.t 213], none⟩,
  ⟨(some 215), .mv, [.t 5], none⟩,
  ⟨(some 216), .mv, [.t 5], none⟩,
  ⟨(some 217), .mv, [.t 0], none⟩,
  ⟨(some 218), .nilchk, [.t 217], none⟩,
  ⟨(some 219), (.fld 0), [.t 218], none⟩,
  ⟨(some 220), (.load 1 false), [.t 219], none⟩,
  ⟨(some 221), .len, [.t 220], none⟩,
  ⟨(some 222), .mv, [.t 0], none⟩,
  ⟨(some 223), .nilchk, [.t 222], none⟩,
  ⟨(some 224), (.fld 0), [.t 223], none⟩,
  ⟨(some 225), (.load 1 false), [.t 224], none⟩,
  ⟨(some 226), .mv, [.t 5], none⟩,
  ⟨(some 227), (.idx 15), [.t 225, .t 226], none⟩,
  ⟨(some 228), (.load 15 true), [.t 227], none⟩,
  ⟨(some 229), (.call 62), [.t 228], none⟩,
  ⟨(some 230), (.call 63), [.t 216, .t 221, .t 229], none⟩,
  ⟨(some 231), (.idx 15), [.t 214, .t 215], none⟩,
  ⟨none, (.store 15), [.t 231, .t 230], none⟩] [0, 1, 2, 4, 0, 0, 0, 64, 128, 256, 512, 0, 2048, 4096, 8192, 0, 49152, 65536, 131072, 263200, 1048575, 2097151])) (.regd [⟨(some 24), .mv, [.t 0], none⟩,
  ⟨(some 25), .nilchk, [.t 24], none⟩,
  ⟨(some 26), (.fld 0), [.t 25], none⟩,
  ⟨(some 27), (.load 1 false), [.t 26], none⟩,
  ⟨(some 28), .mv, [.t 5], none⟩,
  ⟨(some 29), .mv, [.t 0], none⟩,
  ⟨(some 30), .nilchk, [.t 29], none⟩,
  ⟨(some 31), (.fld 0), [.t 30], none⟩,
  ⟨(some 32), (.load 1 false), [.t 31], none⟩,
  ⟨(some 33), .mv, [.t 5], none⟩,
  ⟨(some 34), (.idx 15), [.t 32, .t 33], none⟩,
  ⟨(some 35), (.load 15 true), [.t 34], none⟩,
  ⟨(some 36), .mv, [.t 4], none⟩,
  ⟨(some 37), (.bin .quo), [.t 36, .c (.int .i64 64)], none⟩,
  ⟨(some 38), (.call 50), [.t 37], none⟩,
  ⟨(some 39), (.call 82), [.t 35, .t 38], none⟩,
  ⟨(some 23), .mv, [.t 39], none⟩,
  ⟨(some 40), (.ext 0), [.t 23], none⟩,
  ⟨(some 41), (.ext 1), [.t 23], none⟩,
  ⟨(some 42), (.ext 2), [.t 23], none⟩,
  ⟨(some 43), (.idx 15), [.t 27, .t 28], none⟩,
  ⟨none, (.store 15), [.t 43, .t 40], none⟩,
  ⟨(some 6), .mv, [.t 41], none⟩] [0, 1, 2, 4, 0, 0, 32, 64, 128, 0, 768, 1024, 0, 4096, 8192, 18432, 32768, 65536, 65536, 65536, 262143, 1310719, 3670015]))))))))))))
def c86_241 : C := (.seq (.reg [⟨(some 241), .mv, [.t 0], none⟩,
  ⟨(some 242), .nilchk, [.t 241], none⟩,
  ⟨(some 243), (.fld 1), [.t 242], none⟩,
  ⟨(some 244), (.load 1 false), [.t 243], none⟩,
  ⟨(some 245), .len, [.t 244], none⟩,
  ⟨(some 246), (.bin .gtr), [.t 245, .c (.int .i64 60)], none⟩])
 (.cond (.t 246) (.regd [⟨(some 247), .mv, [.t 0], none⟩,
  ⟨(some 248), .mv, [.t 0], none⟩,
  ⟨(some 249), .nilchk, [.t 248], none⟩,
  ⟨(some 250), (.fld 1), [.t 249], none⟩,
  ⟨(some 251), (.load 1 false), [.t 250], none⟩,
  ⟨(some 252), .mv, [.t 0], none⟩,
  ⟨(some 253), .nilchk, [.t 252], none⟩,
  ⟨(some 254), (.fld 1), [.t 253], none⟩,
  ⟨(some 255), (.load 1 false), [.t 254], none⟩,
  ⟨(some 256), .len, [.t 255], none⟩,
  ⟨(some 257), (.bin .sub), [.t 256, .c (.int .i64 60)], none⟩,
  ⟨(some 258), (.slc 10 true false false), [.t 251, .t 257], none⟩,
  ⟨(some 259), .nilchk, [.t 247], none⟩,
  ⟨(some 260), (.fld 1), [.t 259], none⟩,
  ⟨none, (.store 1), [.t 260, .t 258], none⟩] [0, 0, 2, 4, 8, 0, 32, 64, 128, 256, 512, 1040, 4095, 8191, 12287]) .skip))
def c86_232 : C := (.seq (.reg [⟨(some 232), .mv, [.t 0], none⟩,
  ⟨(some 233), .mv, [.t 0], none⟩,
  ⟨(some 234), .nilchk, [.t 233], none⟩,
  ⟨(some 235), (.fld 1), [.t 234], none⟩,
  ⟨(some 236), (.load 1 false), [.t 235], none⟩,
  ⟨(some 237), .mv, [.t 6], none⟩,
  ⟨(some 238), (.app 10 104), [.t 236, .t 237], none⟩,
  ⟨(some 239), .nilchk, [.t 232], none⟩,
  ⟨(some 240), (.fld 1), [.t 239], none⟩,
  ⟨none, (.store 1), [.t 240, .t 238], none⟩])
 (.cut c86_241))
def c86 : C := (.seq (.reg [⟨(some 11), .mv, [.t 1], none⟩,
  ⟨(some 12), (.call 23), [.t 11, .c (.int .i64 1073741824)], none⟩,
  ⟨(some 4), .mv, [.t 12], none⟩])
 (.seq (.reg [⟨(some 13), .mv, [.t 4], none⟩,
  ⟨(some 14), (.bin .quo), [.t 13, .c (.int .i64 16)], none⟩,
  ⟨(some 15), .mv, [.t 0], none⟩,
  ⟨(some 16), .nilchk, [.t 15], none⟩,
  ⟨(some 17), (.fld 0), [.t 16], none⟩,
  ⟨(some 18), (.load 1 false), [.t 17], none⟩,
  ⟨(some 19), .len, [.t 18], none⟩,
  ⟨(some 20), (.bin .rem), [.t 14, .t 19], none⟩,
  ⟨(some 5), .mv, [.t 20], none⟩])
 (.seq (.reg [⟨(some 6), .mv, [.c (.sl tMsg [] true)], none⟩])
 (.seq (.seq (.reg [⟨(some 21), .mv, [.t 4], none⟩,
  ⟨(some 22), (.bin .rem), [.t 21, .c (.int .i64 16)], none⟩,
  ⟨(some 7), .mv, [.t 22], none⟩])
 (.cut c86_45))
 (.cut c86_232)))))
theorem comp86 : compC Go.Proofs.Try.prog ttL 261 [] (match Go.Proofs.Try.f86.body with | some b => b | none => .skip) = some (erase c86) := by kernel_rfl
end Go.AM
set_option maxRecDepth 100000
set_option maxHeartbeats 40000000
set_option linter.unusedSimpArgs false
namespace Go.AM
open Go.Proofs
attribute [local congr] vc_congr evOps_congr evTab_congr bind_congr condK_congr tabK_congr
theorem stepLen (n : Node) (m : Msg) : (step2 n m).length ≤ 1048576 := by
  have one : ∀ (n : Node) (m : Msg) (b : Bool) (i : Int), (takenM n m b i).length ≤ 1048576 := fun n m b i => by show 1 ≤ 1048576; decide
  unfold step2
  split
  · split
    · show 1 ≤ 1048576; decide
    split
    · unfold gv2
      split
      · have : (lead2 (given1 n m)).length ≤ 5 := others_len _
        omega
      · exact Nat.zero_le _
    split
    · unfold heard2 heard2'
      split
      · split
        · split
          · show 1 ≤ 1048576; decide
          · exact Nat.zero_le _
        · show 1 ≤ 1048576; decide
      · exact Nat.zero_le _
    · unfold take2 take2'
      split
      · exact one _ _ _ _
      split
      · exact one _ _ _ _
      split
      · exact one _ _ _ _
      split
      · exact one _ _ _ _
      · exact one _ _ _ _
  · exact Nat.zero_le _
theorem tickLen (n : Node) : (tick2 n).length ≤ 10 := by
  unfold tick2
  split
  · have := others_len (setClock n 0); omega
  split
  · exact Nat.zero_le _
  have h1 := start2_len (setClock n (nClock n + 1))
  split
  · have h2 : (lead2 (start1 (setClock n (nClock n + 1)))).length ≤ 5 := others_len _
    rw [List.length_append]; omega
  · omega
theorem propLen (n : Node) (cmd : ByteArray) : (prop2 n cmd).length ≤ 5 := by
  unfold prop2
  split
  · exact others_len _
  · exact Nat.zero_le _
@[reducible] def tNetO : Ty := .pair (.olist tNode) (.pair (.olist tMsg) .unit)
def doOk (ns : List Node) (l : List Msg) : Prop := 0 < ns.length ∧ ns.length ≤ 5 ∧ (∀ n ∈ ns, ready n) ∧ l.length ≤ 1000
def fn86 : Fn := { a := .pair (.ref tNetO) (.pair tI .unit), r := .unit, pre := fun x => doOk x.1.1 x.1.2.1, f := fun _ => (), kd := some [.box, .no], bk := tNetO, bf := fun x => ((doN x.1.1 x.1.2.1 x.2.1).1, (doN x.1.1 x.1.2.1 x.2.1).2, ()) }
theorem h86  : HoldsX Try.prog 86 (fn86) := by
  refine HoldsM.x (ms := [.box, .no]) (HoldsM.of_vcc (T := [(23, fn23), (50, fn50), (62, fn62), (63, fn63), (78, fn78), (80, fn80), (82, fn82)]) (TT := ttL) (rowAt := []) (c := c86) (ros := []) (.cons _ h23 (.cons _ h50 (.cons _ h62 (.cons _ h63 (.cons _ h78 (.cons _ h80 (.cons _ h82 (.nil _)))))))) mixed Try.func86 (by decide +kernel) (by rfl) comp86 (by kernel_rfl) rfl rfl rfl ?_) rfl
  rintro ⟨⟨(ns : List Node), (l : List Msg), _⟩, (v : Int), _⟩ hpre b
  simp only [fn86] at hpre ⊢
  simp only [c86, fn23, fn50, fn62, fn63, fn78, fn80, fn82, go_sem, reduceIte, Nat.reduceBEq, Nat.reduceMul, reduceCtorEq, Nat.reduceAdd, Nat.reduceEqDiff, decide_eq_true_eq, decide_eq_false_iff_not, Bool.not_eq_true', Bool.not_eq_false', Bool.and_eq_true, Bool.or_eq_true, Bool.and_eq_false_iff, Bool.or_eq_false_iff, Bool.cond_true_left, Bool.cond_false_right, Bool.cond_true_right, Bool.cond_false_left, Bool.or_false, Bool.and_true, inR]
  obtain ⟨hn0, hn5, hrd, hl⟩ := hpre
  have hk0 : 0 ≤ v % 1073741824 := Int.emod_nonneg v (by decide)
  have hk1 : v % 1073741824 < 1073741824 := Int.emod_lt_of_pos v (by decide)
  simp only [tq1 hk0, tm1 hk0]
  have hq0 : 0 ≤ v % 1073741824 / 16 := Int.ediv_nonneg hk0 (by decide)
  have hq1 : v % 1073741824 / 16 < 1073741824 := by omega
  simp only [tm1 hq0]
  have hD : doN ns l v = ((doEv ns l (v % 1073741824)).1, last60 (doEv ns l (v % 1073741824)).2) := rfl
  generalize v % 1073741824 = k at *
  have hi := evI_lt (k := k) hn0
  have hie : k / 16 % (ns.length : Int) = (evI ns k : Int) := by
    unfold evI
    have := Int.emod_nonneg (k / 16) (b := (ns.length : Int)) (by omega)
    omega
  have hb1 : (-9223372036854775808 : Int) ≤ k / 16 ∧ k / 16 ≤ 9223372036854775807 := by omega
  have hb2 : (ns.length : Int) ≠ 0 := by omega
  refine ⟨⟨by decide, by decide⟩, ⟨by decide, hb1⟩, hb2, by decide, ?_⟩
  rw [hie]
  generalize hU : vc _ (C.cut c86_45) _ = U
  refine cut_at hU ⟨[(0, .ptr 900000000 0), (4, .int .i64 k), (5, .int .i64 (evI ns k)), (6, .sl tMsg [] true), (7, .int .i64 (k % 16)), (1000000, .pn 900000000 b)], [(900000000, .box [.own 900000001 0 ns.length, .own 900000002 0 l.length]), (900000001, .row tNode ns false), (900000002, .row tMsg l false)]⟩ ?_ (Ent_of [(900000000, 900000000), (900000001, 900000001), (900000002, 900000002)] rfl ?_ ?_)
  rotate_left
  · simp only [go_sem, reduceIte, Nat.reduceBEq, Nat.reduceMul, reduceCtorEq, Nat.reduceAdd, Nat.reduceEqDiff, decide_eq_true_eq, decide_eq_false_iff_not, Bool.not_eq_true', Bool.not_eq_false', Bool.and_eq_true, Bool.or_eq_true, Bool.and_eq_false_iff, Bool.or_eq_false_iff, Bool.cond_true_left, Bool.cond_false_right, Bool.cond_true_right, Bool.cond_false_left, Bool.or_false, Bool.and_true]
  · simp only [go_sem, reduceIte, Nat.reduceBEq, Nat.reduceMul, reduceCtorEq, Nat.reduceAdd, Nat.reduceEqDiff, decide_eq_true_eq, decide_eq_false_iff_not, Bool.not_eq_true', Bool.not_eq_false', Bool.and_eq_true, Bool.or_eq_true, Bool.and_eq_false_iff, Bool.or_eq_false_iff, Bool.cond_true_left, Bool.cond_false_right, Bool.cond_true_right, Bool.cond_false_left, Bool.or_false, Bool.and_true]
  clear hU U
  simp (maxSteps := 10000000) only [c86_45, go_sem, reduceIte, Nat.reduceBEq, Nat.reduceMul, reduceCtorEq, Nat.reduceAdd, Nat.reduceEqDiff, decide_eq_true_eq, decide_eq_false_iff_not, Bool.not_eq_true', Bool.not_eq_false', Bool.and_eq_true, Bool.or_eq_true, Bool.and_eq_false_iff, Bool.or_eq_false_iff, Bool.cond_true_left, Bool.cond_false_right, Bool.cond_true_right, Bool.cond_false_left, Bool.or_false, Bool.and_true, inR]
  generalize hV : vc _ (C.cut c86_232) _ = V
  have H : ∀ (ns' : List Node) (l' out : List Msg) (σ : St), ((ns', l' ++ out) : List Node × List Msg) = doEv ns l k → l'.length ≤ 10000 → out.length ≤ 1048576 → Ent σ ⟨[(0, .ptr 900000000 0), (6, .sl tMsg out false), (1000000, .pn 900000000 b)], [(900000000, .box [.own 900000001 0 ns'.length, .own 900000002 0 l'.length]), (900000001, .row tNode ns' false), (900000002, .row tMsg l' false)]⟩ → V σ := by
    intro ns' l' out σ he hl' ho hE
    refine cut_at hV _ ?_ hE
    clear hV hE
    simp (maxSteps := 10000000) only [c86_232, go_sem, reduceIte, Nat.reduceBEq, Nat.reduceMul, reduceCtorEq, Nat.reduceAdd, Nat.reduceEqDiff, decide_eq_true_eq, decide_eq_false_iff_not, Bool.not_eq_true', Bool.not_eq_false', Bool.and_eq_true, Bool.or_eq_true, Bool.and_eq_false_iff, Bool.or_eq_false_iff, Bool.cond_true_left, Bool.cond_false_right, Bool.cond_true_right, Bool.cond_false_left, Bool.or_false, Bool.and_true, inR]
    have hb3 : l'.length + out.length ≤ 140737488355328 ∧ (l'.length + out.length) * 104 ≤ 140737488355328 := by omega
    refine ⟨hb3, ?_⟩
    rw [show l'.length + out.length = (l' ++ out).length from (List.length_append ..).symm]
    have hlen : (l' ++ out).length ≤ 2000000 := by rw [List.length_append]; omega
    have hD2 : doN ns l v = (ns', last60 (l' ++ out)) := by rw [hD, ← he]
    generalize l' ++ out = L at *
    clear he hl' ho hb3
    generalize hW : vc _ (C.cut c86_241) _ = W
    refine cut_at hW ⟨[(0, .ptr 900000000 0), (1000000, .pn 900000000 b)], [(900000000, .box [.own 900000001 0 ns'.length, .own 900000002 0 L.length]), (900000001, .row tNode ns' false), (900000002, .row tMsg L false)]⟩ ?_ (Ent_of [(900000000, 900000000), (900000001, 900000001), (900000002, 238)] rfl ?_ ?_)
    rotate_left
    · simp only [go_sem, reduceIte, Nat.reduceBEq, Nat.reduceMul, reduceCtorEq, Nat.reduceAdd, Nat.reduceEqDiff, decide_eq_true_eq, decide_eq_false_iff_not, Bool.not_eq_true', Bool.not_eq_false', Bool.and_eq_true, Bool.or_eq_true, Bool.and_eq_false_iff, Bool.or_eq_false_iff, Bool.cond_true_left, Bool.cond_false_right, Bool.cond_true_right, Bool.cond_false_left, Bool.or_false, Bool.and_true]
    · simp only [go_sem, reduceIte, Nat.reduceBEq, Nat.reduceMul, reduceCtorEq, Nat.reduceAdd, Nat.reduceEqDiff, decide_eq_true_eq, decide_eq_false_iff_not, Bool.not_eq_true', Bool.not_eq_false', Bool.and_eq_true, Bool.or_eq_true, Bool.and_eq_false_iff, Bool.or_eq_false_iff, Bool.cond_true_left, Bool.cond_false_right, Bool.cond_true_right, Bool.cond_false_left, Bool.or_false, Bool.and_true]
    clear hW W
    simp (maxSteps := 10000000) only [c86_241, go_sem, reduceIte, Nat.reduceBEq, Nat.reduceMul, reduceCtorEq, Nat.reduceAdd, Nat.reduceEqDiff, decide_eq_true_eq, decide_eq_false_iff_not, Bool.not_eq_true', Bool.not_eq_false', Bool.and_eq_true, Bool.or_eq_true, Bool.and_eq_false_iff, Bool.or_eq_false_iff, Bool.cond_true_left, Bool.cond_false_right, Bool.cond_true_right, Bool.cond_false_left, Bool.or_false, Bool.and_true, inR]
    rw [hD2]
    have hb4 : (-9223372036854775808 : Int) ≤ (L.length : Int) - 60 ∧ (L.length : Int) - 60 ≤ 9223372036854775807 := by omega
    refine ⟨fun h => ⟨hb4, ⟨?_, ?_, Int.le_refl _⟩, by decide +kernel, ?_⟩, fun h => ?_⟩
    · omega
    · omega
    · have e1 : ((L.length : Int) - 60).toNat = L.length - 60 := by omega
      rw [e1, List.take_of_length_le (by rw [List.length_drop]; exact Nat.le_refl _)]
      rfl
    · have e1 : L.length - 60 = 0 := by omega
      have e2 : last60 L = L := by unfold last60; rw [e1]; rfl
      rw [e2]; rfl
  have hnd : ns.getD (evI ns k) (dflt tNode) = ndAt ns (evI ns k) := rfl
  have hje : k / 16 % (l.length : Int) = (evJ l k : Int) := by
    unfold evJ
    rcases Nat.eq_zero_or_pos l.length with h | h
    · rw [h]
      show k / 16 % 0 = _
      rw [Int.emod_zero]; omega
    · have := Int.emod_nonneg (k / 16) (b := (l.length : Int)) (by omega)
      omega
  have hjl : 0 < l.length → evJ l k < l.length := fun h => evJ_lt h
  have hto : ((evJ l k : Int) + 1).toNat = evJ l k + 1 := by omega
  have hmg : l.getD (evJ l k) (dflt tMsg) = mgAt l (evJ l k) := rfl
  have hmt : (mgAt l (evJ l k)).2.2.1 = mTo (mgAt l (evJ l k)) := rfl
  have hdr : List.take (l.length - (evJ l k + 1)) (List.drop (evJ l k + 1) l) = List.drop (evJ l k + 1) l := List.take_of_length_le (by rw [List.length_drop]; exact Nat.le_refl _)
  have hrm : List.take (evJ l k) l ++ List.drop (evJ l k + 1) l = rmAt l (evJ l k) := rfl
  have hn2 : ∀ t, ns.getD t (dflt tNode) = ndAt ns t := fun _ => rfl
  simp only [hnd, tq1 hk0, tm1 hq0, hie, hje, Int.toNat_natCast, Nat.sub_zero, hto, hmg, hmt, hdr, hn2, hrm]
  have hrt : ∀ t, t < ns.length → ready (ndAt ns t) := by
    intro t ht
    refine hrd _ ?_
    unfold ndAt
    rw [List.getD_eq_getElem?_getD, List.getElem?_eq_getElem ht]
    exact List.getElem_mem ht
  have hrn := hrt _ hi
  unfold doEv at H
  generalize evI ns k = i at *
  generalize ndAt ns i = n at *
  generalize ht1 : tick1 n = tn at *
  generalize ht2 : tick2 n = tm at *
  generalize hp1 : prop1 n (digits (k / 64)) = pn at *
  generalize hp2 : prop2 n (digits (k / 64)) = pm at *
  generalize evJ l k = j at *
  generalize mgAt l j = m at *
  generalize hs1 : step1 (ndAt ns (mTo m).toNat) m = sn at *
  generalize hs2 : step2 (ndAt ns (mTo m).toNat) m = sm at *
  have hI2 : (0 : Int) ≤ i ∧ (i : Int) < (ns.length : Int) := by omega
  refine ⟨fun h1 h2 => ⟨h1, h2⟩, fun hc1 => ?_, fun hc1 => ?_⟩
  · have hc1 : k % 16 < 5 ∨ ((l.length : Int) = 0 ∧ ¬ k % 16 = 15) := hc1
    have hc : k % 16 < 5 ∨ (l.length = 0 ∧ k % 16 ≠ 15) := by omega
    refine ⟨hI2, hrn.1, hI2, by decide +kernel, H (ns.set i tn) l tm _ (if_pos hc).symm (by omega) (by rw [← ht2]; have := tickLen n; omega) (Ent_fz [17201] [(900000000, 900000000), (900000001, 900000001), (900000002, 900000002)] rfl ?_ ?_)⟩
    · simp only [go_sem, reduceIte, Nat.reduceBEq, Nat.reduceMul, reduceCtorEq, Nat.reduceAdd, Nat.reduceEqDiff, decide_eq_true_eq, decide_eq_false_iff_not, Bool.not_eq_true', Bool.not_eq_false', Bool.and_eq_true, Bool.or_eq_true, Bool.and_eq_false_iff, Bool.or_eq_false_iff, Bool.cond_true_left, Bool.cond_false_right, Bool.cond_true_right, Bool.cond_false_left, Bool.or_false, Bool.and_true]
      try rfl
    · simp only [go_sem, reduceIte, Nat.reduceBEq, Nat.reduceMul, reduceCtorEq, Nat.reduceAdd, Nat.reduceEqDiff, decide_eq_true_eq, decide_eq_false_iff_not, Bool.not_eq_true', Bool.not_eq_false', Bool.and_eq_true, Bool.or_eq_true, Bool.and_eq_false_iff, Bool.or_eq_false_iff, Bool.cond_true_left, Bool.cond_false_right, Bool.cond_true_right, Bool.cond_false_left, Bool.or_false, Bool.and_true]
      try rfl
  have hc1 : ¬ k % 16 < 5 ∧ (¬ ((l.length : Int) = 0) ∨ k % 16 = 15) := hc1
  have hc : ¬ (k % 16 < 5 ∨ (l.length = 0 ∧ k % 16 ≠ 15)) := by omega
  rw [if_neg hc] at H
  have hbT : (List.take j l).length ≤ 140737488355328 ∧ (List.take j l).length * 104 ≤ 140737488355328 := by rw [List.length_take]; omega
  have hbA : (List.take j l).length + (List.drop (j + 1) l).length ≤ 140737488355328 ∧ ((List.take j l).length + (List.drop (j + 1) l).length) * 104 ≤ 140737488355328 := by rw [List.length_take, List.length_drop]; omega
  have hrl : (rmAt l j).length ≤ 10000 := by unfold rmAt; rw [List.length_append, List.length_take, List.length_drop]; omega
  have hb5 : (-9223372036854775808 : Int) ≤ (j : Int) + 1 ∧ (j : Int) + 1 ≤ 9223372036854775807 ∨ l.length = 0 := by omega
  refine ⟨fun hc2 => ?_, fun hc2 => ?_⟩
  · have hc2 : k % 16 < 12 := hc2
    rw [if_pos hc2] at H
    have hlp : (l.length : Int) ≠ 0 := by omega
    have hJ : j < l.length := hjl (by omega)
    have hJ2 : (0 : Int) ≤ j ∧ (j : Int) < (l.length : Int) := by omega
    have hJ3 : (0 : Int) ≤ j ∧ (j : Int) ≤ (l.length : Int) := by omega
    have hJ4 : (0 : Int) ≤ (j : Int) + 1 ∧ (j : Int) + 1 ≤ (l.length : Int) := by omega
    have hJ5 : (-9223372036854775808 : Int) ≤ (j : Int) + 1 ∧ (j : Int) + 1 ≤ 9223372036854775807 := by omega
    refine ⟨⟨by decide, hb1⟩, hlp, hJ2, ⟨Int.le_refl _, hJ3⟩, hbT, hJ5, ⟨hJ4.1, hJ4.2, Int.le_refl _⟩, hbA, by decide +kernel, by decide +kernel, fun hc3 => ?_, fun hc3 => ?_⟩
    · have hc3 : 0 ≤ mTo m ∧ mTo m < (ns.length : Int) := hc3
      rw [if_pos hc3] at H
      refine ⟨(hrt _ (by omega)).2.1, hc3, by decide +kernel, H (ns.set (mTo m).toNat sn) (rmAt l j) sm _ rfl hrl (by rw [← hs2]; exact stepLen _ _) (Ent_of [(900000000, 900000000), (900000001, 900000001), (900000002, 109)] rfl ?_ ?_)⟩
      · simp only [go_sem, reduceIte, Nat.reduceBEq, Nat.reduceMul, reduceCtorEq, Nat.reduceAdd, Nat.reduceEqDiff, decide_eq_true_eq, decide_eq_false_iff_not, Bool.not_eq_true', Bool.not_eq_false', Bool.and_eq_true, Bool.or_eq_true, Bool.and_eq_false_iff, Bool.or_eq_false_iff, Bool.cond_true_left, Bool.cond_false_right, Bool.cond_true_right, Bool.cond_false_left, Bool.or_false, Bool.and_true]
        exact List.length_append ..
      · simp only [go_sem, reduceIte, Nat.reduceBEq, Nat.reduceMul, reduceCtorEq, Nat.reduceAdd, Nat.reduceEqDiff, decide_eq_true_eq, decide_eq_false_iff_not, Bool.not_eq_true', Bool.not_eq_false', Bool.and_eq_true, Bool.or_eq_true, Bool.and_eq_false_iff, Bool.or_eq_false_iff, Bool.cond_true_left, Bool.cond_false_right, Bool.cond_true_right, Bool.cond_false_left, Bool.or_false, Bool.and_true]
    · have hc3 : ¬ 0 ≤ mTo m ∨ ¬ mTo m < (ns.length : Int) := hc3
      rw [if_neg (by omega)] at H
      refine H ns (rmAt l j) [] _ (by rw [List.append_nil]) hrl (by decide) (Ent_of [(900000000, 900000000), (900000001, 900000001), (900000002, 109)] rfl ?_ ?_)
      · simp only [go_sem, reduceIte, Nat.reduceBEq, Nat.reduceMul, reduceCtorEq, Nat.reduceAdd, Nat.reduceEqDiff, decide_eq_true_eq, decide_eq_false_iff_not, Bool.not_eq_true', Bool.not_eq_false', Bool.and_eq_true, Bool.or_eq_true, Bool.and_eq_false_iff, Bool.or_eq_false_iff, Bool.cond_true_left, Bool.cond_false_right, Bool.cond_true_right, Bool.cond_false_left, Bool.or_false, Bool.and_true]
        exact List.length_append ..
      · simp only [go_sem, reduceIte, Nat.reduceBEq, Nat.reduceMul, reduceCtorEq, Nat.reduceAdd, Nat.reduceEqDiff, decide_eq_true_eq, decide_eq_false_iff_not, Bool.not_eq_true', Bool.not_eq_false', Bool.and_eq_true, Bool.or_eq_true, Bool.and_eq_false_iff, Bool.or_eq_false_iff, Bool.cond_true_left, Bool.cond_false_right, Bool.cond_true_right, Bool.cond_false_left, Bool.or_false, Bool.and_true]
  · have hc2 : ¬ k % 16 < 12 := hc2
    rw [if_neg hc2] at H
    have hk16 : 0 ≤ k % 16 ∧ k % 16 < 16 := by omega
    refine ⟨fun hc3 => ?_, fun hc3 => ?_⟩
    · have hc3 : k % 16 = 12 := hc3
      rw [if_pos hc3] at H
      have hlp : (l.length : Int) ≠ 0 := by omega
      have hJ : j < l.length := hjl (by omega)
      have hJ3 : (0 : Int) ≤ j ∧ (j : Int) ≤ (l.length : Int) := by omega
      have hJ4 : (0 : Int) ≤ (j : Int) + 1 ∧ (j : Int) + 1 ≤ (l.length : Int) := by omega
      have hJ5 : (-9223372036854775808 : Int) ≤ (j : Int) + 1 ∧ (j : Int) + 1 ≤ 9223372036854775807 := by omega
      refine ⟨⟨by decide, hb1⟩, hlp, ⟨Int.le_refl _, hJ3⟩, hbT, hJ5, ⟨hJ4.1, hJ4.2, Int.le_refl _⟩, hbA, by decide +kernel, H ns (rmAt l j) [] _ (by rw [List.append_nil]) hrl (by decide) (Ent_of [(900000000, 900000000), (900000001, 900000001), (900000002, 171)] rfl ?_ ?_)⟩
      · simp only [go_sem, reduceIte, Nat.reduceBEq, Nat.reduceMul, reduceCtorEq, Nat.reduceAdd, Nat.reduceEqDiff, decide_eq_true_eq, decide_eq_false_iff_not, Bool.not_eq_true', Bool.not_eq_false', Bool.and_eq_true, Bool.or_eq_true, Bool.and_eq_false_iff, Bool.or_eq_false_iff, Bool.cond_true_left, Bool.cond_false_right, Bool.cond_true_right, Bool.cond_false_left, Bool.or_false, Bool.and_true]
        exact List.length_append ..
      · simp only [go_sem, reduceIte, Nat.reduceBEq, Nat.reduceMul, reduceCtorEq, Nat.reduceAdd, Nat.reduceEqDiff, decide_eq_true_eq, decide_eq_false_iff_not, Bool.not_eq_true', Bool.not_eq_false', Bool.and_eq_true, Bool.or_eq_true, Bool.and_eq_false_iff, Bool.or_eq_false_iff, Bool.cond_true_left, Bool.cond_false_right, Bool.cond_true_right, Bool.cond_false_left, Bool.or_false, Bool.and_true]
    have hc3 : ¬ k % 16 = 12 := hc3
    rw [if_neg hc3] at H
    refine ⟨fun hc4 => ?_, fun hc4 => ?_⟩
    · have hc4 : k % 16 = 13 := hc4
      rw [if_pos hc4] at H
      have hlp : (l.length : Int) ≠ 0 := by omega
      have hJ : j < l.length := hjl (by omega)
      have hJ2 : (0 : Int) ≤ j ∧ (j : Int) < (l.length : Int) := by omega
      have hb6 : l.length + 1 ≤ 140737488355328 ∧ (l.length + 1) * 104 ≤ 140737488355328 := by omega
      refine ⟨⟨by decide, hb1⟩, hlp, hJ2, hb6, by decide +kernel, H ns (l ++ [m]) [] _ (by rw [List.append_nil]) (by rw [List.length_append]; show l.length + 1 ≤ 10000; omega) (by decide) (Ent_of [(900000000, 900000000), (900000001, 900000001), (900000002, 197)] rfl ?_ ?_)⟩
      · simp only [go_sem, reduceIte, Nat.reduceBEq, Nat.reduceMul, reduceCtorEq, Nat.reduceAdd, Nat.reduceEqDiff, decide_eq_true_eq, decide_eq_false_iff_not, Bool.not_eq_true', Bool.not_eq_false', Bool.and_eq_true, Bool.or_eq_true, Bool.and_eq_false_iff, Bool.or_eq_false_iff, Bool.cond_true_left, Bool.cond_false_right, Bool.cond_true_right, Bool.cond_false_left, Bool.or_false, Bool.and_true]
      · simp only [go_sem, reduceIte, Nat.reduceBEq, Nat.reduceMul, reduceCtorEq, Nat.reduceAdd, Nat.reduceEqDiff, decide_eq_true_eq, decide_eq_false_iff_not, Bool.not_eq_true', Bool.not_eq_false', Bool.and_eq_true, Bool.or_eq_true, Bool.and_eq_false_iff, Bool.or_eq_false_iff, Bool.cond_true_left, Bool.cond_false_right, Bool.cond_true_right, Bool.cond_false_left, Bool.or_false, Bool.and_true]
    have hc4 : ¬ k % 16 = 13 := hc4
    rw [if_neg hc4] at H
    refine ⟨fun hc5 => ?_, fun hc5 => ?_⟩
    · have hc5 : k % 16 = 14 := hc5
      rw [if_pos hc5] at H
      refine ⟨⟨by decide, hb1⟩, hb2, hI2, hrn.2.2, hI2, by decide +kernel, H (ns.set i (wakeN (i : Int) (ns.length : Int) (hard n))) l [] _ (by rw [List.append_nil]) (by omega) (by decide) (Ent_of [(900000000, 900000000), (900000001, 900000001), (900000002, 900000002)] rfl ?_ ?_)⟩
      · simp only [go_sem, reduceIte, Nat.reduceBEq, Nat.reduceMul, reduceCtorEq, Nat.reduceAdd, Nat.reduceEqDiff, decide_eq_true_eq, decide_eq_false_iff_not, Bool.not_eq_true', Bool.not_eq_false', Bool.and_eq_true, Bool.or_eq_true, Bool.and_eq_false_iff, Bool.or_eq_false_iff, Bool.cond_true_left, Bool.cond_false_right, Bool.cond_true_right, Bool.cond_false_left, Bool.or_false, Bool.and_true]
        try rfl
      · simp only [go_sem, reduceIte, Nat.reduceBEq, Nat.reduceMul, reduceCtorEq, Nat.reduceAdd, Nat.reduceEqDiff, decide_eq_true_eq, decide_eq_false_iff_not, Bool.not_eq_true', Bool.not_eq_false', Bool.and_eq_true, Bool.or_eq_true, Bool.and_eq_false_iff, Bool.or_eq_false_iff, Bool.cond_true_left, Bool.cond_false_right, Bool.cond_true_right, Bool.cond_false_left, Bool.or_false, Bool.and_true]
        try rfl
    · have hc5 : ¬ k % 16 = 14 := hc5
      rw [if_neg hc5] at H
      have hb7 : (-9223372036854775808 : Int) ≤ k / 64 ∧ k / 64 ≤ 9223372036854775807 := by omega
      have hb8 : (0 : Int) ≤ k / 64 ∧ k / 64 < 10 ^ 19 := by omega
      refine ⟨hI2, ⟨by decide, hb7⟩, ⟨hb8.1, hb8.2, by decide⟩, ⟨hrn.1.1, hrn.1.2.1⟩, hI2, by decide +kernel, H (ns.set i pn) l pm _ rfl (by omega) (by rw [← hp2]; have := propLen n (digits (k / 64)); omega) (Ent_fz [13901] [(900000000, 900000000), (900000001, 900000001), (900000002, 900000002)] rfl ?_ ?_)⟩
      · simp only [go_sem, reduceIte, Nat.reduceBEq, Nat.reduceMul, reduceCtorEq, Nat.reduceAdd, Nat.reduceEqDiff, decide_eq_true_eq, decide_eq_false_iff_not, Bool.not_eq_true', Bool.not_eq_false', Bool.and_eq_true, Bool.or_eq_true, Bool.and_eq_false_iff, Bool.or_eq_false_iff, Bool.cond_true_left, Bool.cond_false_right, Bool.cond_true_right, Bool.cond_false_left, Bool.or_false, Bool.and_true]
        try rfl
      · simp only [go_sem, reduceIte, Nat.reduceBEq, Nat.reduceMul, reduceCtorEq, Nat.reduceAdd, Nat.reduceEqDiff, decide_eq_true_eq, decide_eq_false_iff_not, Bool.not_eq_true', Bool.not_eq_false', Bool.and_eq_true, Bool.or_eq_true, Bool.and_eq_false_iff, Bool.or_eq_false_iff, Bool.cond_true_left, Bool.cond_false_right, Bool.cond_true_right, Bool.cond_false_left, Bool.or_false, Bool.and_true]
        try rfl
end Go.AM
