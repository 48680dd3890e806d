import Derived.Test.YtbcbgfkojmligaaHI
import Derived.KernelRfl
import Derived.Test.YtbcbgfkojmligaaProg
/- What functions of the program answer, each under the conditions that its contract names. -/
set_option linter.unusedVariables false
set_option linter.unusedSimpArgs false
set_option maxRecDepth 100000
namespace Go.AM
def c7 : C := (.seq (.reg [⟨(some 12), .mv, [.c (.bool false)], none⟩])
 (.seq (.reg [⟨(some 28), .mv, [.t 0], none⟩,
  ⟨(some 29), .mv, [.t 1], none⟩,
  ⟨(some 30), .mv, [.t 2], none⟩,
  ⟨(some 31), (.call 22), [.t 28, .t 29, .t 30], none⟩,
  ⟨(some 13), (.alloc [.int .i64 0, .int .i64 0, .int .i64 0, .int .i64 0, .int .i64 0, .int .i64 0, .str ⟨#[]⟩, .sl tEntry [] true, .int .i64 0, .int .i64 0, .int .i64 0, .sl .bool [] true, .sl tI [] true, .sl tI [] true, .int .i64 0]), [], none⟩,
  ⟨none, (.store 15), [.t 13, .t 31], none⟩])
 (.seq (.reg [⟨(some 32), .mv, [.t 3], none⟩,
  ⟨(some 33), .mv, [.t 4], none⟩,
  ⟨(some 34), (.load 15 true), [.t 13], none⟩,
  ⟨(some 35), (.call 24), [.t 32, .t 33, .t 34, .c (.sl tI [] true)], none⟩,
  ⟨(some 14), (.alloc [.int .i64 0, .int .i64 0, .int .i64 0, .int .i64 0, .int .i64 0, .int .i64 0, .bool false, .int .i64 0, .sl tEntry [] true, .str ⟨#[]⟩]), [], none⟩,
  ⟨none, (.store 10), [.t 14, .t 35], none⟩])
 (.seq (.reg [⟨(some 37), (.load 15 true), [.t 13], none⟩,
  ⟨(some 38), (.call 27), [.t 37], none⟩,
  ⟨(some 36), .mv, [.t 38], none⟩,
  ⟨(some 39), (.ext 0), [.t 36], none⟩,
  ⟨(some 40), (.ext 1), [.t 36], none⟩,
  ⟨(some 15), (.alloc [.int .i64 0, .int .i64 0, .int .i64 0, .int .i64 0, .int .i64 0, .int .i64 0, .str ⟨#[]⟩, .sl tEntry [] true, .int .i64 0, .int .i64 0, .int .i64 0, .sl .bool [] true, .sl tI [] true, .sl tI [] true, .int .i64 0]), [], none⟩,
  ⟨none, (.store 15), [.t 15, .t 39], none⟩,
  ⟨(some 16), .mv, [.t 40], none⟩])
 (.seq (.reg [⟨(some 42), (.load 15 true), [.t 13], none⟩,
  ⟨(some 43), (.call 38), [.t 42], none⟩,
  ⟨(some 41), .mv, [.t 43], none⟩,
  ⟨(some 44), (.ext 0), [.t 41], none⟩,
  ⟨(some 45), (.ext 1), [.t 41], none⟩,
  ⟨(some 17), (.alloc [.int .i64 0, .int .i64 0, .int .i64 0, .int .i64 0, .int .i64 0, .int .i64 0, .str ⟨#[]⟩, .sl tEntry [] true, .int .i64 0, .int .i64 0, .int .i64 0, .sl .bool [] true, .sl tI [] true, .sl tI [] true, .int .i64 0]), [], none⟩,
  ⟨none, (.store 15), [.t 17, .t 44], none⟩,
  ⟨(some 18), .mv, [.t 45], none⟩])
 (.seq (.reg [⟨(some 47), (.load 15 true), [.t 13], none⟩,
  ⟨(some 48), (.load 10 true), [.t 14], none⟩,
  ⟨(some 49), (.call 25), [.t 47, .t 48], none⟩,
  ⟨(some 46), .mv, [.t 49], none⟩,
  ⟨(some 50), (.ext 0), [.t 46], none⟩,
  ⟨(some 51), (.ext 1), [.t 46], none⟩,
  ⟨(some 19), (.alloc [.int .i64 0, .int .i64 0, .int .i64 0, .int .i64 0, .int .i64 0, .int .i64 0, .str ⟨#[]⟩, .sl tEntry [] true, .int .i64 0, .int .i64 0, .int .i64 0, .sl .bool [] true, .sl tI [] true, .sl tI [] true, .int .i64 0]), [], none⟩,
  ⟨none, (.store 15), [.t 19, .t 50], none⟩,
  ⟨(some 20), .mv, [.t 51], none⟩])
 (.seq (.reg [⟨(some 53), (.load 15 true), [.t 13], none⟩,
  ⟨(some 54), (.load 10 true), [.t 14], none⟩,
  ⟨(some 55), (.call 39), [.t 53, .t 54], none⟩,
  ⟨(some 52), .mv, [.t 55], none⟩,
  ⟨(some 56), (.ext 0), [.t 52], none⟩,
  ⟨(some 57), (.ext 1), [.t 52], none⟩,
  ⟨(some 21), (.alloc [.int .i64 0, .int .i64 0, .int .i64 0, .int .i64 0, .int .i64 0, .int .i64 0, .str ⟨#[]⟩, .sl tEntry [] true, .int .i64 0, .int .i64 0, .int .i64 0, .sl .bool [] true, .sl tI [] true, .sl tI [] true, .int .i64 0]), [], none⟩,
  ⟨none, (.store 15), [.t 21, .t 56], none⟩,
  ⟨(some 22), .mv, [.t 57], none⟩])
 (.seq (.reg [⟨(some 59), (.load 15 true), [.t 13], none⟩,
  ⟨(some 60), (.load 10 true), [.t 14], none⟩,
  ⟨(some 61), (.call 40), [.t 59, .t 60], none⟩,
  ⟨(some 58), .mv, [.t 61], none⟩,
  ⟨(some 62), (.ext 0), [.t 58], none⟩,
  ⟨(some 63), (.ext 1), [.t 58], none⟩,
  ⟨(some 23), (.alloc [.int .i64 0, .int .i64 0, .int .i64 0, .int .i64 0, .int .i64 0, .int .i64 0, .str ⟨#[]⟩, .sl tEntry [] true, .int .i64 0, .int .i64 0, .int .i64 0, .sl .bool [] true, .sl tI [] true, .sl tI [] true, .int .i64 0]), [], none⟩,
  ⟨none, (.store 15), [.t 23, .t 62], none⟩,
  ⟨(some 24), .mv, [.t 63], none⟩])
 (.seq (.reg [⟨(some 65), (.load 15 true), [.t 13], none⟩,
  ⟨(some 66), (.load 10 true), [.t 14], none⟩,
  ⟨(some 67), (.call 41), [.t 65, .t 66], none⟩,
  ⟨(some 64), .mv, [.t 67], none⟩,
  ⟨(some 68), (.ext 0), [.t 64], none⟩,
  ⟨(some 69), (.ext 1), [.t 64], none⟩,
  ⟨(some 25), (.alloc [.int .i64 0, .int .i64 0, .int .i64 0, .int .i64 0, .int .i64 0, .int .i64 0, .str ⟨#[]⟩, .sl tEntry [] true, .int .i64 0, .int .i64 0, .int .i64 0, .sl .bool [] true, .sl tI [] true, .sl tI [] true, .int .i64 0]), [], none⟩,
  ⟨none, (.store 15), [.t 25, .t 68], none⟩,
  ⟨(some 26), .mv, [.t 69], none⟩])
 (.seq (.reg [⟨(some 70), .mv, [.t 5], none⟩,
  ⟨(some 71), (.call 23), [.t 70, .c (.int .i64 40)], none⟩,
  ⟨(some 27), .mv, [.t 71], none⟩])
 (.seq (.regd [⟨(some 72), (.load 15 true), [.t 15], none⟩,
  ⟨(some 73), (.load 15 true), [.t 17], none⟩,
  ⟨(some 74), (.call 33), [.t 72, .t 73], none⟩,
  ⟨(some 75), .mv, [.t 74], none⟩,
  ⟨(some 76), .mv, [.t 16], (some (75, true))⟩,
  ⟨(some 77), .mv, [.t 18], (some (75, true))⟩,
  ⟨(some 78), (.call 42), [.t 76, .t 77], (some (75, true))⟩,
  ⟨(some 79), .pick, [.t 75, .t 78, .c (.bool false)], none⟩,
  ⟨(some 80), .mv, [.t 79], none⟩,
  ⟨(some 81), (.load 15 true), [.t 19], (some (80, true))⟩,
  ⟨(some 82), (.load 15 true), [.t 21], (some (80, true))⟩,
  ⟨(some 83), (.call 33), [.t 81, .t 82], (some (80, true))⟩,
  ⟨(some 84), .pick, [.t 80, .t 83, .c (.bool false)], none⟩,
  ⟨(some 85), .mv, [.t 84], none⟩,
  ⟨(some 86), .mv, [.t 20], (some (85, true))⟩,
  ⟨(some 87), .mv, [.t 22], (some (85, true))⟩,
  ⟨(some 88), (.call 42), [.t 86, .t 87], (some (85, true))⟩,
  ⟨(some 89), .pick, [.t 85, .t 88, .c (.bool false)], none⟩,
  ⟨(some 90), .mv, [.t 89], none⟩,
  ⟨(some 91), (.load 15 true), [.t 23], (some (90, true))⟩,
  ⟨(some 92), (.load 15 true), [.t 25], (some (90, true))⟩,
  ⟨(some 93), (.call 33), [.t 91, .t 92], (some (90, true))⟩,
  ⟨(some 94), .pick, [.t 90, .t 93, .c (.bool false)], none⟩,
  ⟨(some 95), .mv, [.t 94], none⟩,
  ⟨(some 96), .mv, [.t 24], (some (95, true))⟩,
  ⟨(some 97), .mv, [.t 26], (some (95, true))⟩,
  ⟨(some 98), (.binb .eql), [.t 96, .t 97], (some (95, true))⟩,
  ⟨(some 99), .pick, [.t 95, .t 98, .c (.bool false)], none⟩,
  ⟨(some 100), .mv, [.t 99], none⟩,
  ⟨(some 101), (.load 15 true), [.t 13], (some (100, true))⟩,
  ⟨(some 102), .mv, [.t 27], (some (100, true))⟩,
  ⟨(some 103), (.call 32), [.t 101, .t 102], (some (100, true))⟩,
  ⟨(some 104), (.load 15 true), [.t 13], (some (100, true))⟩,
  ⟨(some 105), .mv, [.t 27], (some (100, true))⟩,
  ⟨(some 106), (.call 43), [.t 104, .t 105], (some (100, true))⟩,
  ⟨(some 107), (.call 33), [.t 103, .t 106], (some (100, true))⟩,
  ⟨(some 108), .pick, [.t 100, .t 107, .c (.bool false)], none⟩,
  ⟨(some 109), .mv, [.t 108], none⟩,
  ⟨(some 110), (.load 15 true), [.t 13], (some (109, true))⟩,
  ⟨(some 111), (.call 44), [.t 110], (some (109, true))⟩,
  ⟨(some 112), (.load 15 true), [.t 13], (some (109, true))⟩,
  ⟨(some 113), (.call 45), [.t 112], (some (109, true))⟩,
  ⟨(some 114), (.bin .eql), [.t 111, .t 113], (some (109, true))⟩,
  ⟨(some 115), .pick, [.t 109, .t 114, .c (.bool false)], none⟩,
  ⟨(some 116), .mv, [.t 115], none⟩,
  ⟨(some 117), (.call 26), [], (some (116, true))⟩,
  ⟨(some 118), .pick, [.t 116, .t 117, .c (.bool false)], none⟩,
  ⟨(some 12), .mv, [.t 118], none⟩] [0, 0, 3, 4, 8, 8, 56, 72, 192, 256, 256, 1792, 2304, 6144, 8192, 8192, 57344, 73728, 196608, 262144, 262144, 1835008, 2359296, 6291456, 8388608, 8388608, 58720256, 75497472, 142606336, 268435456, 268435456, 1879048192, 268435456, 268435456, 15300820992, 19595788288, 34628173824, 103079215104, 137438953472, 412316860416, 137438953472, 1786706395136, 2886218022912, 4535485464576, 10995116277760, 17592186044416, 52776558133248, 140737488355327])
 .ret)))))))))))
theorem comp7 : compC Go.Proofs.Try.prog ttL 119 [] (match Go.Proofs.Try.f7.body with | some b => b | none => .skip) = some (c7) := by kernel_rfl
end Go.AM
set_option maxRecDepth 100000
set_option maxHeartbeats 8000000
set_option linter.unusedSimpArgs false
namespace Go.AM
open Go.Proofs
attribute [local congr] vc_congr evOps_congr evTab_congr bind_congr condK_congr tabK_congr
def smallN (n : Node) : Prop := smallL (nLog n) ∧ smallL (nVotes n) ∧ smallL (nNext n) ∧ smallL (nMatch n)
theorem small_down {n : Node} (t : Int) (h : smallN n) : smallN (down n t) := by
  unfold down; split
  · refine ⟨h.1, ?_, h.2.2.1, h.2.2.2⟩
    show smallL (votes n)
    rw [sm, votes_len]; omega
  · exact h
theorem small_start {n : Node} (h : smallN n) : smallN (start1 n) := by
  have := start1_votes n
  refine ⟨?_, by rw [sm]; omega, ?_, ?_⟩
  · rw [start1_log]; exact h.1
  · rw [start1_next]; exact h.2.2.1
  · rw [start1_match]; exact h.2.2.2
theorem small_asked {n : Node} {m : Msg} (h : smallN n) : smallN (asked1 n m) := by
  have := small_down (mTerm m) h
  unfold asked1 asked1'; split
  · exact this
  · exact this
theorem small_given {n : Node} {m : Msg} (h : smallN n) : smallN (given1 n m) := by
  have := small_down (mTerm m) h
  unfold given1 given1'; split
  · refine ⟨this.1, ?_, this.2.2.1, this.2.2.2⟩
    show smallL (List.set _ _ _)
    rw [sm, List.length_set]; exact this.2.1
  · exact this
theorem small_MI {j : Nat} {n : Node} (h : MI j n) (hj : j ≤ 1000000) : smallN n := by
  have hl : last n = nBase n + (nLog n).length := rfl
  simp only [MI] at h
  refine ⟨by rw [sm]; omega, by rw [sm]; omega, by rw [sm]; omega, by rw [sm]; omega⟩
theorem start2_small (n : Node) : smallL (start2 n) ∧ ∀ m ∈ start2 n, smallL (mEntries m) := by
  refine ⟨?_, fun m hm => ?_⟩
  · have := startMsgs_len (start1 n) (nVotes (start1 n)).length
    have := start1_votes n
    rw [sm]; unfold start2; omega
  · unfold start2 startMsgs at hm
    obtain ⟨j, _, rfl⟩ := List.mem_map.1 hm
    rw [sm]; exact Nat.zero_le _
theorem asked2_small (n : Node) (m : Msg) : smallL (asked2 n m) ∧ ∀ m' ∈ asked2 n m, smallL (mEntries m') := by
  refine ⟨by rw [sm]; show 1 ≤ _; omega, fun m' hm => ?_⟩
  rw [List.mem_singleton.1 hm, sm]; exact Nat.zero_le _
def voteNumbersFn : Fn := { a := .pair (.list tI) (.pair tI (.pair tI (.pair tI (.pair tI (.pair tI .unit))))), r := .pair .bool .unit, pre := fun x => preS x.1 ∧ InR .i64 x.2.1 ∧ InR .i64 x.2.2.1 ∧ InR .i64 x.2.2.2.1 ∧ InR .i64 x.2.2.2.2.1 ∧ InR .i64 x.2.2.2.2.2.1, f := fun _ => (true, ()) }
theorem h7  : Holds Try.prog 7 (voteNumbersFn) := by
  refine Holds.of_vc (T := [(22, fn22), (24, fn24), (27, fn27), (38, fn38), (25, fn25), (39, fn39), (40, fn40), (41, fn41), (23, fn23), (33, fn33), (42, fn42), (32, fn32), (43, fn43), (44, fn44), (45, fn45), (26, fn26)]) (TT := ttL) (rowAt := []) (c := c7) (ros := [.t 12]) (.cons _ h22 (.cons _ h24 (.cons _ h27 (.cons _ h38 (.cons _ h25 (.cons _ h39 (.cons _ h40 (.cons _ h41 (.cons _ h23 (.cons _ h33 (.cons _ h42 (.cons _ h32 (.cons _ h43 (.cons _ h44 (.cons _ h45 (.cons _ h26 (.nil _))))))))))))))))) mixed Try.func7 (by decide +kernel) (by rfl) comp7 (by kernel_rfl) rfl rfl (fun h => by cases h) ?_
  rintro ⟨(l : List Int), (id : Int), (nodes : Int), (v : Int), (w : Int), (t : Int), _⟩ hpre
  simp only [voteNumbersFn] at hpre ⊢
  simp (maxSteps := 10000000) only [c7, fn22, fn24, fn27, fn38, fn25, fn39, fn40, fn41, fn23, fn33, fn42, fn32, fn43, fn44, fn45, fn26, go_sem, reduceIte, Nat.reduceBEq, Nat.reduceMul, reduceCtorEq, Nat.reduceAdd, Nat.reduceEqDiff, decide_eq_true_eq, decide_eq_false_iff_not, Bool.not_eq_true', Bool.not_eq_false', Bool.and_eq_true, Bool.or_eq_true, Bool.and_eq_false_iff, Bool.or_eq_false_iff, Bool.cond_true_left, Bool.cond_false_right, Bool.cond_true_right, Bool.cond_false_left, Bool.or_false, Bool.and_true, inR, eqB_self, fn44]
  have hM := MI_made l id nodes
  generalize made l id nodes = n at *
  have hw := wf_of_MI hM (by decide)
  have hsm := small_MI hM (by decide)
  have hn1 : 1 ≤ nNodes n := hw.1
  have hf := message_from v w n [] hn1
  have hl : last n = nBase n + (nLog n).length := rfl
  have hw2 := hw
  simp only [wfN] at hw2
  refine ⟨hw, by omega, by omega, by omega, by omega, ⟨by omega, by omega, hsm.2.1⟩, ⟨by omega, by omega, hw2.2.2.2.2.2.2.2.2.2.2.1, hf.1, hf.2⟩, by decide, small_start hsm, start2_small n, small_asked hsm, asked2_small n _, small_given hsm, fun _ => by omega, fun _ => small_down _ hsm, fun _ => by omega, fun _ => by omega, by rfl, ?_⟩
  simp only [beq_self_eq_true, and_true, true_and]
end Go.AM
