import Derived.Test.YtbcbgfkojmligaaHF
import Derived.KernelRfl
import Derived.Test.YtbcbgfkojmligaaProg
/- What functions of the program answer, each under the conditions that its contract names. -/
set_option linter.unusedVariables false
set_option linter.unusedSimpArgs false
set_option maxRecDepth 100000
namespace Go.AM
def c51 : C := (.seq (.reg [⟨(some 3), .box, [.t 0], none⟩,
  ⟨(some 6), (.alloc [.int .i64 0, .int .i64 0, .int .i64 0, .int .i64 0, .int .i64 0, .int .i64 0, .str ⟨#[]⟩, .sl tEntry [] true, .int .i64 0, .int .i64 0, .int .i64 0, .sl .bool [] true, .sl tI [] true, .sl tI [] true, .int .i64 0]), [], none⟩])
 (.seq (.reg [⟨(some 10), (.load 15 true), [.t 3], none⟩,
  ⟨(some 11), .mv, [.t 1], none⟩,
  ⟨(some 12), (.call 48), [.t 10, .t 11], none⟩,
  ⟨(some 9), .mv, [.t 12], none⟩,
  ⟨(some 13), (.ext 0), [.t 9], none⟩,
  ⟨(some 14), (.ext 1), [.t 9], none⟩,
  ⟨(some 7), .mv, [.t 13], none⟩,
  ⟨(some 8), .mv, [.t 14], none⟩])
 (.seq (.seq (.reg [⟨(some 15), .mv, [.t 1], none⟩,
  ⟨(some 16), (.fld 4), [.t 3], none⟩,
  ⟨(some 17), (.load 1 false), [.t 16], none⟩,
  ⟨(some 18), (.bin .leq), [.t 15, .t 17], none⟩,
  ⟨(some 19), .mv, [.t 18], none⟩,
  ⟨(some 20), .mv, [.t 1], (some (19, false))⟩,
  ⟨(some 21), (.fld 10), [.t 3], (some (19, false))⟩,
  ⟨(some 22), (.load 1 false), [.t 21], (some (19, false))⟩,
  ⟨(some 23), (.bin .gtr), [.t 20, .t 22], (some (19, false))⟩,
  ⟨(some 24), .pick, [.t 19, .c (.bool true), .t 23], none⟩,
  ⟨(some 25), .mv, [.t 24], none⟩,
  ⟨(some 26), .mv, [.t 8], (some (25, false))⟩,
  ⟨(some 27), .not, [.t 26], (some (25, false))⟩,
  ⟨(some 28), .pick, [.t 25, .c (.bool true), .t 27], none⟩])
 (.cond (.t 28) (.seq (.reg [⟨(some 29), (.load 15 true), [.t 3], none⟩,
  ⟨none, (.store 15), [.t 6, .t 29], none⟩])
 .ret) .skip))
 (.seq (.reg [⟨(some 30), (.load 15 true), [.t 3], none⟩,
  ⟨(some 31), .mv, [.t 1], none⟩,
  ⟨(some 32), (.call 53), [.t 30, .t 31], none⟩,
  ⟨(some 33), (.call 105), [.t 32], none⟩,
  ⟨(some 34), (.fld 7), [.t 3], none⟩,
  ⟨none, (.store 1), [.t 34, .t 33], none⟩])
 (.seq (.reg [⟨(some 35), .mv, [.t 1], none⟩,
  ⟨(some 36), .mv, [.t 7], none⟩,
  ⟨(some 37), .mv, [.t 2], none⟩,
  ⟨(some 38), (.fld 4), [.t 3], none⟩,
  ⟨none, (.store 1), [.t 38, .t 35], none⟩,
  ⟨(some 39), (.fld 5), [.t 3], none⟩,
  ⟨none, (.store 1), [.t 39, .t 36], none⟩,
  ⟨(some 40), (.fld 6), [.t 3], none⟩,
  ⟨none, (.store 1), [.t 40, .t 37], none⟩])
 (.seq (.reg [⟨(some 41), (.load 15 true), [.t 3], none⟩,
  ⟨none, (.store 15), [.t 6, .t 41], none⟩])
 .ret))))))
theorem comp51 : compC Go.Proofs.Try.prog ttL 42 [] (match Go.Proofs.Try.f51.body with | some b => b | none => .skip) = some (c51) := by kernel_rfl
def c54 : C := (.seq (.reg [⟨(some 5), .box, [.t 2], none⟩,
  ⟨(some 6), (.alloc [.int .i64 0, .int .i64 0, .int .i64 0, .int .i64 0, .int .i64 0, .int .i64 0, .str ⟨#[]⟩, .sl tEntry [] true, .int .i64 0, .int .i64 0, .int .i64 0, .sl .bool [] true, .sl tI [] true, .sl tI [] true, .int .i64 0]), [], none⟩])
 (.seq (.reg [⟨(some 8), .mv, [.t 0], none⟩,
  ⟨(some 9), .mv, [.t 1], none⟩,
  ⟨(some 10), (.call 64), [.t 8, .t 9], none⟩,
  ⟨(some 7), (.alloc [.int .i64 0, .int .i64 0, .int .i64 0, .int .i64 0, .int .i64 0, .int .i64 0, .str ⟨#[]⟩, .sl tEntry [] true, .int .i64 0, .int .i64 0, .int .i64 0, .sl .bool [] true, .sl tI [] true, .sl tI [] true, .int .i64 0]), [], none⟩,
  ⟨none, (.store 15), [.t 7, .t 10], none⟩])
 (.seq (.regd [⟨(some 11), (.fld 0), [.t 5], none⟩,
  ⟨(some 12), (.load 1 false), [.t 11], none⟩,
  ⟨(some 13), (.fld 1), [.t 5], none⟩,
  ⟨(some 14), (.load 1 false), [.t 13], none⟩,
  ⟨(some 15), (.fld 2), [.t 5], none⟩,
  ⟨(some 16), (.load 1 false), [.t 15], none⟩,
  ⟨(some 17), (.fld 3), [.t 5], none⟩,
  ⟨(some 18), (.load 1 false), [.t 17], none⟩,
  ⟨(some 19), (.fld 4), [.t 5], none⟩,
  ⟨(some 20), (.load 1 false), [.t 19], none⟩,
  ⟨(some 21), (.fld 5), [.t 5], none⟩,
  ⟨(some 22), (.load 1 false), [.t 21], none⟩,
  ⟨(some 23), (.call 105), [.t 22], none⟩,
  ⟨(some 24), (.fld 2), [.t 5], none⟩,
  ⟨(some 25), (.load 1 false), [.t 24], none⟩,
  ⟨(some 26), (.fld 2), [.t 7], none⟩,
  ⟨none, (.store 1), [.t 26, .t 12], none⟩,
  ⟨(some 27), (.fld 3), [.t 7], none⟩,
  ⟨none, (.store 1), [.t 27, .t 14], none⟩,
  ⟨(some 28), (.fld 4), [.t 7], none⟩,
  ⟨none, (.store 1), [.t 28, .t 16], none⟩,
  ⟨(some 29), (.fld 5), [.t 7], none⟩,
  ⟨none, (.store 1), [.t 29, .t 18], none⟩,
  ⟨(some 30), (.fld 6), [.t 7], none⟩,
  ⟨none, (.store 1), [.t 30, .t 20], none⟩,
  ⟨(some 31), (.fld 7), [.t 7], none⟩,
  ⟨none, (.store 1), [.t 31, .t 23], none⟩,
  ⟨(some 32), (.fld 10), [.t 7], none⟩,
  ⟨none, (.store 1), [.t 32, .t 25], none⟩] [0, 1, 0, 4, 0, 16, 0, 64, 0, 256, 0, 1024, 2048, 0, 8192, 3, 36867, 98319, 229391, 491583, 1015871, 2064639, 4161791, 8356863, 16745471, 33529855, 67084287, 134217727, 268435455])
 (.seq (.reg [⟨(some 33), (.load 15 true), [.t 7], none⟩,
  ⟨none, (.store 15), [.t 6, .t 33], none⟩])
 .ret))))
theorem comp54 : compC Go.Proofs.Try.prog ttL 34 [] (match Go.Proofs.Try.f54.body with | some b => b | none => .skip) = some (c54) := by kernel_rfl
def c55 : C := (.seq (.reg [⟨(some 1), .box, [.t 0], none⟩,
  ⟨(some 2), (.alloc [.int .i64 0, .int .i64 0, .int .i64 0, .int .i64 0, .str ⟨#[]⟩, .sl tEntry [] true]), [], none⟩])
 (.seq (.regd [⟨(some 3), (.fld 2), [.t 1], none⟩,
  ⟨(some 4), (.load 1 false), [.t 3], none⟩,
  ⟨(some 5), (.fld 3), [.t 1], none⟩,
  ⟨(some 6), (.load 1 false), [.t 5], none⟩,
  ⟨(some 7), (.fld 4), [.t 1], none⟩,
  ⟨(some 8), (.load 1 false), [.t 7], none⟩,
  ⟨(some 9), (.fld 5), [.t 1], none⟩,
  ⟨(some 10), (.load 1 false), [.t 9], none⟩,
  ⟨(some 11), (.fld 6), [.t 1], none⟩,
  ⟨(some 12), (.load 1 false), [.t 11], none⟩,
  ⟨(some 13), (.fld 7), [.t 1], none⟩,
  ⟨(some 14), (.load 1 false), [.t 13], none⟩,
  ⟨(some 15), (.call 105), [.t 14], none⟩,
  ⟨(some 16), (.build [.int .i64 0, .int .i64 0, .int .i64 0, .int .i64 0, .str ⟨#[]⟩, .sl tEntry [] true] [(0, 1), (1, 1), (2, 1), (3, 1), (4, 1), (5, 1)]), [.t 4, .t 6, .t 8, .t 10, .t 12, .t 15], none⟩,
  ⟨none, (.store 6), [.t 2, .t 16], none⟩] [0, 1, 0, 4, 0, 16, 0, 64, 0, 256, 0, 1024, 2048, 4778, 16383])
 .ret))
theorem comp55 : compC Go.Proofs.Try.prog ttL 17 [] (match Go.Proofs.Try.f55.body with | some b => b | none => .skip) = some (c55) := by kernel_rfl
def c105 : C := (.seq (.reg [⟨(some 2), .mv, [.c (.sl tEntry [] true)], none⟩])
 (.seq (.seq (.reg [⟨(some 3), .mv, [.t 0], none⟩,
  ⟨(some 4), .isnil, [.t 3], none⟩])
 (.cond (.t 4) (.seq (.reg [⟨(some 2), .mv, [.c (.sl tEntry [] true)], none⟩])
 .ret) .skip))
 (.seq (.reg [⟨(some 5), (.bslice tEntry 0), [], none⟩,
  ⟨(some 6), .mv, [.t 0], none⟩,
  ⟨(some 7), (.app 2 24), [.t 5, .t 6], none⟩,
  ⟨(some 2), .mv, [.t 7], none⟩])
 .ret)))
theorem comp105 : compC Go.Proofs.Try.prog ttL 8 [] (match Go.Proofs.Try.f105.body with | some b => b | none => .skip) = some (c105) := by kernel_rfl
end Go.AM
set_option maxRecDepth 100000
set_option maxHeartbeats 8000000
set_option linter.unusedSimpArgs false
namespace Go.AM
open Go.Proofs
attribute [local congr] vc_congr evOps_congr evTab_congr bind_congr condK_congr tabK_congr
def fn105 : Fn := { a := .pair (.list tEntry) .unit, r := .pair (.olist tEntry) .unit, pre := fun x => smallL x.1, f := fun x => (x.1, ()) }
theorem h105  : Holds Try.prog 105 (fn105) := by
  refine Holds.of_vc (T := []) (TT := ttL) (rowAt := []) (c := c105) (ros := [.t 2]) (.nil _) mixed Try.func105 (by decide +kernel) (by rfl) comp105 (by kernel_rfl) rfl rfl (fun h => by cases h) ?_
  rintro ⟨(l : List E), _⟩ hpre
  simp only [fn105] at hpre ⊢
  simp only [c105, go_sem, reduceIte, Nat.reduceBEq, Nat.reduceMul, reduceCtorEq, Nat.reduceAdd, Nat.reduceEqDiff, decide_eq_true_eq, decide_eq_false_iff_not, Bool.not_eq_true', Bool.not_eq_false', Bool.and_eq_true, Bool.or_eq_true, Bool.and_eq_false_iff, Bool.or_eq_false_iff, Bool.cond_true_left, Bool.cond_false_right, Bool.cond_true_right, Bool.cond_false_left, Bool.or_false, Bool.and_true, inR]
  intro b hb
  simp only [sm] at hpre
  refine ⟨fun h => ?_, fun _ => ⟨by omega, by omega⟩⟩
  cases l with
  | nil => rfl
  | cons x l => rw [hb (by intro e; cases e)] at h; cases h
def fn51 : Fn := { a := .pair tNode (.pair tI (.pair .str .unit)), r := .pair tNode .unit, pre := fun x => InR .i64 (x.2.1 - nBase x.1) ∧ InR .i64 (x.2.1 - nBase x.1 - 1) ∧ InR .i64 (last x.1) ∧ smallL (nLog x.1), f := fun x => (cutN x.1 x.2.1 x.2.2.1, ()) }
theorem h51  : Holds Try.prog 51 (fn51) := by
  refine Holds.of_vc (T := [(48, fn48), (53, fn53), (105, fn105)]) (TT := ttL) (rowAt := []) (c := c51) (ros := [.c 6 15]) (.cons _ h48 (.cons _ h53 (.cons _ h105 (.nil _)))) mixed Try.func51 (by decide +kernel) (by rfl) comp51 (by kernel_rfl) rfl rfl (fun h => by cases h) ?_
  rintro ⟨(n : Node), (i : Int), (s : ByteArray), _⟩ hpre
  simp only [fn51] at hpre ⊢
  simp only [c51, fn48, fn53, fn105, go_sem, reduceIte, Nat.reduceBEq, Nat.reduceMul, reduceCtorEq, Nat.reduceAdd, Nat.reduceEqDiff, decide_eq_true_eq, decide_eq_false_iff_not, Bool.not_eq_true', Bool.not_eq_false', Bool.and_eq_true, Bool.or_eq_true, Bool.and_eq_false_iff, Bool.or_eq_false_iff, Bool.cond_true_left, Bool.cond_false_right, Bool.cond_true_right, Bool.cond_false_left, Bool.or_false, Bool.and_true, inR]
  obtain ⟨p1, p2, p3, p4⟩ := hpre
  have hok : termOk n i = decide (nBase n ≤ i ∧ i ≤ last n) := rfl
  refine ⟨⟨p3, p2, p1⟩, fun h => ?_, fun h => ⟨p1, ?_, ?_⟩⟩
  · refine (if_pos ?_).symm
    rcases h with (h | h) | h
    · exact .inl h
    · exact .inr (.inl h)
    · rw [hok, decide_eq_false_iff_not] at h
      by_cases h2 : i ≤ nBase n
      · exact .inl h2
      · refine .inr (.inr ?_)
        show last n < i
        omega
  · rw [sm] at p4 ⊢
    have : (behindN n i).length ≤ (nLog n).length := by unfold behindN; rw [List.length_drop]; omega
    omega
  · have h2 := h.2
    rw [hok, decide_eq_true_eq] at h2
    refine (if_neg ?_).symm
    intro h3
    rcases h3 with h3 | h3 | h3
    · exact h.1.1 h3
    · exact h.1.2 h3
    · have : last n < i := h3
      omega
def fn55 : Fn := { a := .pair tNode .unit, r := .pair tHard .unit, pre := fun x => smallL (nLog x.1), f := fun x => (hard x.1, ()) }
theorem h55  : Holds Try.prog 55 (fn55) := by
  refine Holds.of_vc (T := [(105, fn105)]) (TT := ttL) (rowAt := []) (c := c55) (ros := [.c 2 6]) (.cons _ h105 (.nil _)) mixed Try.func55 (by decide +kernel) (by rfl) comp55 (by kernel_rfl) rfl rfl (fun h => by cases h) ?_
  rintro ⟨(n : Node), _⟩ hpre
  simp only [fn55] at hpre ⊢
  simp only [c55, fn105, go_sem, reduceIte, Nat.reduceBEq, Nat.reduceMul, reduceCtorEq, Nat.reduceAdd, Nat.reduceEqDiff, decide_eq_true_eq, decide_eq_false_iff_not, Bool.not_eq_true', Bool.not_eq_false', Bool.and_eq_true, Bool.or_eq_true, Bool.and_eq_false_iff, Bool.or_eq_false_iff, Bool.cond_true_left, Bool.cond_false_right, Bool.cond_true_right, Bool.cond_false_left, Bool.or_false, Bool.and_true, inR]
  exact ⟨hpre, by rfl, rfl⟩
abbrev hTerm (h : Hrd) : Int := h.1
abbrev hVote (h : Hrd) : Int := h.2.1
abbrev hBase (h : Hrd) : Int := h.2.2.1
abbrev hBT (h : Hrd) : Int := h.2.2.2.1
abbrev hSnap (h : Hrd) : ByteArray := h.2.2.2.2.1
abbrev hLog (h : Hrd) : List E := h.2.2.2.2.2.1
def wakeN (id nodes : Int) (h : Hrd) : Node :=
  mkN (nId (newN id nodes)) (nNodes (newN id nodes)) (hTerm h) (hVote h) (hBase h) (hBT h) (hSnap h) (hLog h) 0 (-1) (hBase h) (nVotes (newN id nodes)) (nNext (newN id nodes)) (nMatch (newN id nodes)) 0
def fn54 : Fn := { a := .pair tI (.pair tI (.pair tHard .unit)), r := .pair tNode .unit, pre := fun x => smallL (hLog x.2.2.1), f := fun x => (wakeN x.1 x.2.1 x.2.2.1, ()) }
theorem h54  : Holds Try.prog 54 (fn54) := by
  refine Holds.of_vc (T := [(64, fn64), (105, fn105)]) (TT := ttL) (rowAt := []) (c := c54) (ros := [.c 6 15]) (.cons _ h64 (.cons _ h105 (.nil _))) mixed Try.func54 (by decide +kernel) (by rfl) comp54 (by kernel_rfl) rfl rfl (fun h => by cases h) ?_
  rintro ⟨(id : Int), (nodes : Int), (h : Hrd), _⟩ hpre
  simp only [fn54] at hpre ⊢
  simp only [c54, fn64, fn105, go_sem, reduceIte, Nat.reduceBEq, Nat.reduceMul, reduceCtorEq, Nat.reduceAdd, Nat.reduceEqDiff, decide_eq_true_eq, decide_eq_false_iff_not, Bool.not_eq_true', Bool.not_eq_false', Bool.and_eq_true, Bool.or_eq_true, Bool.and_eq_false_iff, Bool.or_eq_false_iff, Bool.cond_true_left, Bool.cond_false_right, Bool.cond_true_right, Bool.cond_false_left, Bool.or_false, Bool.and_true, inR]
  exact ⟨hpre, by rfl, rfl⟩
end Go.AM
