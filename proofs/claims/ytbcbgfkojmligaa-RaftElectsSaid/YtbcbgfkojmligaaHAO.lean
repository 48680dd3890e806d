import Derived.Test.YtbcbgfkojmligaaHAN
import Derived.KernelRfl
import Derived.Test.YtbcbgfkojmligaaProg
/- What functions of the program answer, each under the conditions that its contract names. -/
set_option linter.unusedVariables false
set_option linter.unusedSimpArgs false
set_option maxRecDepth 100000
namespace Go.AM
def c90_9 : C := (.seq (.reg [⟨(some 9), .mv, [.c (.int .i64 0)], none⟩])
 (.block 4 (.loop (.seq (.seq (.reg [⟨(some 37), .mv, [.t 9], none⟩,
  ⟨(some 38), .mv, [.t 5], none⟩,
  ⟨(some 39), .len, [.t 38], none⟩,
  ⟨(some 40), (.bin .lss), [.t 37, .t 39], none⟩,
  ⟨(some 41), .mv, [.t 40], none⟩,
  ⟨(some 42), .mv, [.t 9], (some (41, true))⟩,
  ⟨(some 43), (.bin .lss), [.t 42, .c (.int .i64 500)], (some (41, true))⟩,
  ⟨(some 44), .pick, [.t 41, .t 43, .c (.bool false)], none⟩])
 (.cond (.t 44) .skip (.exit 4)))
 (.seq (.block 5 (.seq (.reg [⟨(some 47), .mv, [.t 5], none⟩,
  ⟨(some 48), .mv, [.t 9], none⟩,
  ⟨(some 49), (.idx 10), [.t 47, .t 48], none⟩,
  ⟨(some 50), (.fld 2), [.t 49], none⟩,
  ⟨(some 51), (.load 1 false), [.t 50], none⟩,
  ⟨(some 10), .mv, [.t 51], none⟩])
 (.seq (.reg [⟨(some 52), .mv, [.t 10], none⟩,
  ⟨(some 53), (.bin .gtr), [.t 52, .c (.int .i64 0)], none⟩,
  ⟨(some 54), .mv, [.t 53], none⟩,
  ⟨(some 55), .mv, [.t 10], (some (54, true))⟩,
  ⟨(some 56), (.load 1 false), [.t 0], (some (54, true))⟩,
  ⟨(some 57), (.bin .lss), [.t 55, .t 56], (some (54, true))⟩,
  ⟨(some 58), .pick, [.t 54, .t 57, .c (.bool false)], none⟩])
 (.cond (.t 58) (.seq (.regd [⟨(some 60), (.load 1 false), [.t 1], none⟩,
  ⟨(some 61), .mv, [.t 10], none⟩,
  ⟨(some 62), (.idx 15), [.t 60, .t 61], none⟩,
  ⟨(some 63), (.load 15 true), [.t 62], none⟩,
  ⟨(some 64), .mv, [.t 5], none⟩,
  ⟨(some 65), .mv, [.t 9], none⟩,
  ⟨(some 66), (.idx 10), [.t 64, .t 65], none⟩,
  ⟨(some 67), (.load 10 true), [.t 66], none⟩,
  ⟨(some 68), (.call 80), [.t 63, .t 67], none⟩,
  ⟨(some 59), .mv, [.t 68], none⟩,
  ⟨(some 69), (.ext 0), [.t 59], none⟩,
  ⟨(some 70), (.ext 1), [.t 59], none⟩,
  ⟨(some 11), (.alloc [.int .i64 0, .int .i64 0, .int .i64 0, .int .i64 0, .int .i64 0, .int .i64 0, .str ⟨#[]⟩, .sl tEntry [] true, .int .i64 0, .int .i64 0, .int .i64 0, .sl .bool [] true, .sl tI [] true, .sl tI [] true, .int .i64 0]), [], none⟩,
  ⟨none, (.store 15), [.t 11, .t 69], none⟩,
  ⟨(some 12), .mv, [.t 70], none⟩] [0, 0, 3, 4, 0, 0, 48, 64, 136, 256, 512, 512, 0, 6143, 16383])
 (.regd [⟨(some 71), (.load 1 false), [.t 1], none⟩,
  ⟨(some 72), .mv, [.t 10], none⟩,
  ⟨(some 73), (.load 15 true), [.t 11], none⟩,
  ⟨(some 74), .mv, [.t 5], none⟩,
  ⟨(some 75), .mv, [.t 12], none⟩,
  ⟨(some 76), (.app 10 104), [.t 74, .t 75], none⟩,
  ⟨(some 77), (.idx 15), [.t 71, .t 72], none⟩,
  ⟨none, (.store 15), [.t 77, .t 73], none⟩,
  ⟨(some 5), .mv, [.t 76], none⟩] [0, 0, 0, 0, 0, 24, 39, 103, 255])) .skip))))
 (.reg [⟨(some 45), .mv, [.t 9], none⟩,
  ⟨(some 46), (.bin .add), [.t 45, .c (.int .i64 1)], none⟩,
  ⟨(some 9), .mv, [.t 46], none⟩]))))))
def c90_78 : C := (.seq (.regd [⟨(some 78), (.load 1 false), [.t 1], none⟩,
  ⟨(some 79), (.idx 15), [.t 78, .c (.int .i64 1)], none⟩,
  ⟨(some 80), (.fld 8), [.t 79], none⟩,
  ⟨(some 81), (.load 1 false), [.t 80], none⟩,
  ⟨(some 82), (.bin .eql), [.t 81, .c (.int .i64 2)], none⟩,
  ⟨(some 83), .mv, [.t 82], none⟩,
  ⟨(some 84), (.load 1 false), [.t 1], (some (83, true))⟩,
  ⟨(some 85), (.idx 15), [.t 84, .c (.int .i64 1)], (some (83, true))⟩,
  ⟨(some 86), (.fld 10), [.t 85], (some (83, true))⟩,
  ⟨(some 87), (.load 1 false), [.t 86], (some (83, true))⟩,
  ⟨(some 88), (.load 1 false), [.t 2], (some (83, true))⟩,
  ⟨(some 89), (.bin .add), [.c (.int .i64 2), .t 88], (some (83, true))⟩,
  ⟨(some 90), (.bin .eql), [.t 87, .t 89], (some (83, true))⟩,
  ⟨(some 91), .pick, [.t 83, .t 90, .c (.bool false)], none⟩,
  ⟨(some 92), .mv, [.t 91], none⟩,
  ⟨(some 93), (.load 1 false), [.t 1], (some (92, true))⟩,
  ⟨(some 94), (.idx 15), [.t 93, .c (.int .i64 2)], (some (92, true))⟩,
  ⟨(some 95), (.fld 9), [.t 94], (some (92, true))⟩,
  ⟨(some 96), (.load 1 false), [.t 95], (some (92, true))⟩,
  ⟨(some 97), (.bin .eql), [.t 96, .c (.int .i64 1)], (some (92, true))⟩,
  ⟨(some 98), .pick, [.t 92, .t 97, .c (.bool false)], none⟩,
  ⟨(some 99), .mv, [.t 98], none⟩,
  ⟨(some 100), (.load 1 false), [.t 1], (some (99, true))⟩,
  ⟨(some 101), (.idx 15), [.t 100, .c (.int .i64 2)], (some (99, true))⟩,
  ⟨(some 102), (.fld 7), [.t 101], (some (99, true))⟩,
  ⟨(some 103), (.load 1 false), [.t 102], (some (99, true))⟩,
  ⟨(some 104), .len, [.t 103], (some (99, true))⟩,
  ⟨(some 105), (.load 1 false), [.t 2], (some (99, true))⟩,
  ⟨(some 106), (.bin .add), [.c (.int .i64 2), .t 105], (some (99, true))⟩,
  ⟨(some 107), (.bin .eql), [.t 104, .t 106], (some (99, true))⟩,
  ⟨(some 108), .pick, [.t 99, .t 107, .c (.bool false)], none⟩,
  ⟨(some 3), .mv, [.t 108], none⟩] [0, 1, 2, 4, 8, 16, 32, 96, 160, 288, 32, 1056, 2592, 4128, 8224, 16384, 49152, 81920, 147456, 278528, 540672, 1064960, 2097152, 6291456, 10485760, 18874368, 35651584, 2097152, 136314880, 337641472, 538968064, 2147483647])
 .ret)
def c90 : C := (.seq (.reg [⟨(some 3), .mv, [.c (.bool false)], none⟩])
 (.seq (.seq (.reg [⟨(some 4), .mv, [.c (.int .i64 0)], none⟩])
 (.block 0 (.loop (.seq (.seq (.reg [⟨(some 13), .mv, [.t 4], none⟩,
  ⟨(some 14), (.bin .lss), [.t 13, .c (.int .i64 25)], none⟩])
 (.cond (.t 14) .skip (.exit 0)))
 (.seq (.block 1 (.seq (.reg [⟨(some 5), .mv, [.c (.sl tMsg [] true)], none⟩])
 (.seq (.seq (.reg [⟨(some 6), .mv, [.c (.int .i64 1)], none⟩])
 (.block 2 (.loop (.seq (.seq (.reg [⟨(some 17), .mv, [.t 6], none⟩,
  ⟨(some 18), (.load 1 false), [.t 0], none⟩,
  ⟨(some 19), (.bin .lss), [.t 17, .t 18], none⟩])
 (.cond (.t 19) .skip (.exit 2)))
 (.seq (.block 3 (.seq (.reg [⟨(some 23), (.load 1 false), [.t 1], none⟩,
  ⟨(some 24), .mv, [.t 6], none⟩,
  ⟨(some 25), (.idx 15), [.t 23, .t 24], none⟩,
  ⟨(some 26), (.load 15 true), [.t 25], none⟩,
  ⟨(some 27), (.call 78), [.t 26], none⟩,
  ⟨(some 22), .mv, [.t 27], none⟩,
  ⟨(some 28), (.ext 0), [.t 22], none⟩,
  ⟨(some 29), (.ext 1), [.t 22], none⟩,
  ⟨(some 7), (.alloc [.int .i64 0, .int .i64 0, .int .i64 0, .int .i64 0, .int .i64 0, .int .i64 0, .str ⟨#[]⟩, .sl tEntry [] true, .int .i64 0, .int .i64 0, .int .i64 0, .sl .bool [] true, .sl tI [] true, .sl tI [] true, .int .i64 0]), [], none⟩,
  ⟨none, (.store 15), [.t 7, .t 28], none⟩,
  ⟨(some 8), .mv, [.t 29], none⟩])
 (.regd [⟨(some 30), (.load 1 false), [.t 1], none⟩,
  ⟨(some 31), .mv, [.t 6], none⟩,
  ⟨(some 32), (.load 15 true), [.t 7], none⟩,
  ⟨(some 33), .mv, [.t 5], none⟩,
  ⟨(some 34), .mv, [.t 8], none⟩,
  ⟨(some 35), (.app 10 104), [.t 33, .t 34], none⟩,
  ⟨(some 36), (.idx 15), [.t 30, .t 31], none⟩,
  ⟨none, (.store 15), [.t 36, .t 32], none⟩,
  ⟨(some 5), .mv, [.t 35], none⟩] [0, 0, 0, 0, 0, 24, 39, 103, 255])))
 (.reg [⟨(some 20), .mv, [.t 6], none⟩,
  ⟨(some 21), (.bin .add), [.t 20, .c (.int .i64 1)], none⟩,
  ⟨(some 6), .mv, [.t 21], none⟩]))))))
 (.cut c90_9))))
 (.reg [⟨(some 15), .mv, [.t 4], none⟩,
  ⟨(some 16), (.bin .add), [.t 15, .c (.int .i64 1)], none⟩,
  ⟨(some 4), .mv, [.t 16], none⟩]))))))
 (.cut c90_78)))
theorem comp90 : compC Go.Proofs.Try.prog ttL 109 [] (match Go.Proofs.Try.f90.body with | some b => b | none => .skip) = some (erase c90) := by kernel_rfl
end Go.AM
set_option maxRecDepth 100000
set_option maxHeartbeats 40000000
set_option linter.unusedSimpArgs false
namespace Go.AM
open Go.Proofs
attribute [local congr] vc_congr evOps_congr evTab_congr bind_congr condK_congr tabK_congr
theorem dlv1_len : ∀ (d : Nat) (ns : List Node) (l : List Msg), (dlv1 d ns l).length = ns.length := by
  intro d
  induction d with
  | zero => intro ns l; rfl
  | succ d ih =>
    intro ns l
    cases l with
    | nil => rfl
    | cons m l =>
      unfold dlv1
      split
      · rw [ih, List.length_set]
      · exact ih _ _
def fn90 : Fn := { a := .pair (.ref tI) (.pair (.ref (.olist tNode)) (.pair (.ref tI) .unit)), r := .pair .bool .unit, pre := fun x => x.1 = ((List.length (α := Node) x.2.1 : Nat) : Int) ∧ (List.length (α := Node) x.2.1) ≤ 100 ∧ 3 ≤ (List.length (α := Node) x.2.1) ∧ 0 ≤ x.2.2.1 ∧ x.2.2.1 ≤ 1000 ∧ restsOk 25 x.2.1 = true, f := fun x => (elB x.2.2.1.toNat (rests 25 x.2.1), ()), kd := some [.gone, .gone, .gone] }
theorem h90  : HoldsX Try.prog 90 (fn90) := by
  refine HoldsM.x (ms := [.gone, .gone, .gone]) (HoldsM.of_vcc (T := [(78, fn78), (80, fn80)]) (TT := ttL) (rowAt := []) (c := c90) (ros := [.t 3]) (.cons _ h78 (.cons _ h80 (.nil _))) mixed Try.func90 (by decide +kernel) (by rfl) comp90 (by kernel_rfl) rfl rfl rfl ?_) rfl
  rintro ⟨(k : Int), (ns : List Node), (m : Int), _⟩ hpre b
  simp only [fn90] at hpre ⊢
  simp only [c90, fn78, fn80, go_sem, reduceIte, Nat.reduceBEq, Nat.reduceMul, reduceCtorEq, Nat.reduceAdd, Nat.reduceEqDiff, decide_eq_true_eq, decide_eq_false_iff_not, Bool.not_eq_true', Bool.not_eq_false', Bool.and_eq_true, Bool.or_eq_true, Bool.and_eq_false_iff, Bool.or_eq_false_iff, Bool.cond_true_left, Bool.cond_false_right, Bool.cond_true_right, Bool.cond_false_left, Bool.or_false, Bool.and_true, inR]
  obtain ⟨hk, hl0, hl3, hm0, hm1, hok0⟩ := hpre
  have hk : k = (ns.length : Int) := hk
  have hl0 : ns.length ≤ 100 := hl0
  have hl3 : 3 ≤ ns.length := hl3
  have hm0 : 0 ≤ m := hm0
  have hm1 : m ≤ 1000 := hm1
  generalize hR : rests 25 ns = R
  refine loop_rule (β := (Nat × Nat) × List Node) (fun p => ⟨[(0, .ptr 900000000 0), (1, .ptr 900001000 0), (2, .ptr 900002000 0), (4, .int .i64 p.1.1)], [(900000000, .box [.int .i64 k]), (900001000, .box [.own 900001001 0 p.2.length]), (900002000, .box [.int .i64 m]), (900001001, .row tNode p.2 false)]⟩)
    (fun p => p.1.1 + p.1.2 = 25 ∧ k = (p.2.length : Int) ∧ p.2.length ≤ 100 ∧ 3 ≤ p.2.length ∧ restsOk p.1.2 p.2 = true ∧ rests p.1.2 p.2 = R) (fun p => p.1.2) ((0, 25), ns) ?_ ?_ ?_
  · refine Ent_of [(900000000, 900000000), (900001000, 900001000), (900002000, 900002000), (900001001, 900001001)] rfl ?_ ?_
    · simp only [go_sem, reduceIte, Nat.reduceBEq, Nat.reduceMul, reduceCtorEq, Nat.reduceAdd, Nat.reduceEqDiff, decide_eq_true_eq, decide_eq_false_iff_not, Bool.not_eq_true', Bool.not_eq_false', Bool.and_eq_true, Bool.or_eq_true, Bool.and_eq_false_iff, Bool.or_eq_false_iff, Bool.cond_true_left, Bool.cond_false_right, Bool.cond_true_right, Bool.cond_false_left, Bool.or_false, Bool.and_true]
    · simp only [go_sem, reduceIte, Nat.reduceBEq, Nat.reduceMul, reduceCtorEq, Nat.reduceAdd, Nat.reduceEqDiff, decide_eq_true_eq, decide_eq_false_iff_not, Bool.not_eq_true', Bool.not_eq_false', Bool.and_eq_true, Bool.or_eq_true, Bool.and_eq_false_iff, Bool.or_eq_false_iff, Bool.cond_true_left, Bool.cond_false_right, Bool.cond_true_right, Bool.cond_false_left, Bool.or_false, Bool.and_true]
      rfl
  · exact ⟨rfl, hk, hl0, hl3, hok0, hR⟩
  clear hok0 hl0 hl3 hk
  rintro ⟨⟨t, d⟩, ms⟩ ⟨ht, hk, hl, hl3, hok, hd⟩
  have ht : t + d = 25 := ht
  have hk : k = (ms.length : Int) := hk
  have hl : ms.length ≤ 100 := hl
  have hl3 : 3 ≤ ms.length := hl3
  have hok : restsOk d ms = true := hok
  have hd : rests d ms = R := hd
  simp (maxSteps := 10000000) only [go_sem, reduceIte, Nat.reduceBEq, Nat.reduceMul, reduceCtorEq, Nat.reduceAdd, Nat.reduceEqDiff, decide_eq_true_eq, decide_eq_false_iff_not, Bool.not_eq_true', Bool.not_eq_false', Bool.and_eq_true, Bool.or_eq_true, Bool.and_eq_false_iff, Bool.or_eq_false_iff, Bool.cond_true_left, Bool.cond_false_right, Bool.cond_true_right, Bool.cond_false_left, Bool.or_false, Bool.and_true, inR]
  generalize hV : vc _ (C.cut c90_78) _ = V
  generalize hU : vc _ (C.cut c90_9) _ = U
  refine ⟨fun h => ?_, fun h => ?_⟩
  · obtain ⟨e, rfl⟩ : ∃ e, d = e + 1 := ⟨d - 1, by omega⟩
    unfold rests at hd
    unfold restsOk at hok
    rw [Bool.and_eq_true, Bool.and_eq_true, List.all_eq_true] at hok
    obtain ⟨hok1, hok2, hok3⟩ := hok
    obtain ⟨x, r, rfl⟩ : ∃ x r, ms = x :: r := by
      cases ms with
      | nil => simp at hl3
      | cons x r => exact ⟨x, r, rfl⟩
    have hr1 : (x :: r).drop 1 = r := rfl
    rw [hr1] at hok1 hok2 hok3 hd
    have ht1 : ticks1 (x :: r) = x :: r.map tick1 := rfl
    rw [ht1] at hok2 hok3 hd
    have hlr : (x :: r).length = r.length + 1 := rfl
    refine loop_rule (β := Nat) (fun j => ⟨[(0, .ptr 900000000 0), (1, .ptr 900001000 0), (2, .ptr 900002000 0), (4, .int .i64 t), (5, .own 900009000 0 (tks2 (r.take j)).length), (6, .int .i64 (1 + (j : Int)))], [(900000000, .box [.int .i64 k]), (900001000, .box [.own 900001001 0 (r.length + 1)]), (900002000, .box [.int .i64 m]), (900001001, .row tNode (x :: ((r.take j).map tick1 ++ r.drop j)) false), (900009000, .row tMsg (tks2 (r.take j)) false)]⟩)
      (fun j => j ≤ r.length ∧ (tks2 (r.take j)).length ≤ j * 10) (fun j => r.length - j) 0 ?_ ?_ ?_
    · refine Ent_of [(900000000, 900000000), (900001000, 900001000), (900002000, 900002000), (900001001, 900001001)] rfl ?_ ?_
      · simp only [go_sem, reduceIte, Nat.reduceBEq, Nat.reduceMul, reduceCtorEq, Nat.reduceAdd, Nat.reduceEqDiff, decide_eq_true_eq, decide_eq_false_iff_not, Bool.not_eq_true', Bool.not_eq_false', Bool.and_eq_true, Bool.or_eq_true, Bool.and_eq_false_iff, Bool.or_eq_false_iff, Bool.cond_true_left, Bool.cond_false_right, Bool.cond_true_right, Bool.cond_false_left, Bool.or_false, Bool.and_true]
        exact ⟨rfl, rfl, by decide, by decide⟩
      · simp only [go_sem, reduceIte, Nat.reduceBEq, Nat.reduceMul, reduceCtorEq, Nat.reduceAdd, Nat.reduceEqDiff, decide_eq_true_eq, decide_eq_false_iff_not, Bool.not_eq_true', Bool.not_eq_false', Bool.and_eq_true, Bool.or_eq_true, Bool.and_eq_false_iff, Bool.or_eq_false_iff, Bool.cond_true_left, Bool.cond_false_right, Bool.cond_true_right, Bool.cond_false_left, Bool.or_false, Bool.and_true]
        exact ⟨rfl, rfl⟩
    · exact ⟨Nat.zero_le _, Nat.zero_le _⟩
    rintro j ⟨hj, hjl⟩
    simp (maxSteps := 10000000) only [go_sem, reduceIte, Nat.reduceBEq, Nat.reduceMul, reduceCtorEq, Nat.reduceAdd, Nat.reduceEqDiff, decide_eq_true_eq, decide_eq_false_iff_not, Bool.not_eq_true', Bool.not_eq_false', Bool.and_eq_true, Bool.or_eq_true, Bool.and_eq_false_iff, Bool.or_eq_false_iff, Bool.cond_true_left, Bool.cond_false_right, Bool.cond_true_right, Bool.cond_false_left, Bool.or_false, Bool.and_true, inR]
    have htn : (1 + (j : Int)).toNat = j + 1 := by omega
    simp only [htn, List.getD_cons_succ]
    refine ⟨fun h => ?_, fun h => ?_⟩
    · have hj2 : j < r.length := by omega
      have hii : (0 : Int) ≤ 1 + (j : Int) ∧ 1 + (j : Int) < ((r.length + 1 : Nat) : Int) := by omega
      rw [get_mix tick1 r hj2]
      have hn := nodeB_ok (hok1 _ (List.getElem_mem hj2))
      have ht2 := tick2_len r[j]
      have hsucc := tks2_succ hj2
      have hset := set_mix tick1 r hj2
      generalize r[j] = n at *
      refine ⟨hii, ⟨hn.2.1, hn.2.2.1, hn.2.2.2.1.1, hn.2.2.2.1.2, hn.2.2.2.2.1.1, hn.2.2.2.2.1.2, hn.2.2.2.2.2.1, hn.2.2.2.2.2.2⟩, ⟨by omega, by omega⟩, hii, by decide +kernel, by omega, Again.intro (j + 1) (Ent_of [(900000000, 900000000), (900001000, 900001000), (900002000, 900002000), (900001001, 900001001), (900009000, 35)] rfl ?_ ?_) ?_ (show r.length - (j + 1) < r.length - j by omega)⟩
      · simp only [go_sem, reduceIte, Nat.reduceBEq, Nat.reduceMul, reduceCtorEq, Nat.reduceAdd, Nat.reduceEqDiff, decide_eq_true_eq, decide_eq_false_iff_not, Bool.not_eq_true', Bool.not_eq_false', Bool.and_eq_true, Bool.or_eq_true, Bool.and_eq_false_iff, Bool.or_eq_false_iff, Bool.cond_true_left, Bool.cond_false_right, Bool.cond_true_right, Bool.cond_false_left, Bool.or_false, Bool.and_true, List.set_cons_succ]
        exact ⟨by rw [hset], hsucc⟩
      · simp only [go_sem, reduceIte, Nat.reduceBEq, Nat.reduceMul, reduceCtorEq, Nat.reduceAdd, Nat.reduceEqDiff, decide_eq_true_eq, decide_eq_false_iff_not, Bool.not_eq_true', Bool.not_eq_false', Bool.and_eq_true, Bool.or_eq_true, Bool.and_eq_false_iff, Bool.or_eq_false_iff, Bool.cond_true_left, Bool.cond_false_right, Bool.cond_true_right, Bool.cond_false_left, Bool.or_false, Bool.and_true]
        exact ⟨by rw [hsucc, List.length_append], by omega⟩
      · show j + 1 ≤ r.length ∧ (tks2 (r.take (j + 1))).length ≤ (j + 1) * 10
        rw [hsucc, List.length_append]; omega
    · have hje : j = r.length := by omega
      subst hje
      have e2 : r.take r.length = r := List.take_length
      rw [e2] at hjl
      simp only [e2, List.drop_length, List.append_nil]
      refine cut_at hU ⟨[(0, .ptr 900000000 0), (1, .ptr 900001000 0), (2, .ptr 900002000 0), (4, .int .i64 t), (5, .own 900009000 0 (tks2 r).length)], [(900000000, .box [.int .i64 k]), (900001000, .box [.own 900001001 0 (r.length + 1)]), (900002000, .box [.int .i64 m]), (900001001, .row tNode (x :: r.map tick1) false), (900009000, .row tMsg (tks2 r) false)]⟩ ?_ (Ent_of [(900000000, 900000000), (900001000, 900001000), (900002000, 900002000), (900001001, 900001001), (900009000, 900009000)] rfl ?_ ?_)
      rotate_left
      · simp only [go_sem, reduceIte, Nat.reduceBEq, Nat.reduceMul, reduceCtorEq, Nat.reduceAdd, Nat.reduceEqDiff, decide_eq_true_eq, decide_eq_false_iff_not, Bool.not_eq_true', Bool.not_eq_false', Bool.and_eq_true, Bool.or_eq_true, Bool.and_eq_false_iff, Bool.or_eq_false_iff, Bool.cond_true_left, Bool.cond_false_right, Bool.cond_true_right, Bool.cond_false_left, Bool.or_false, Bool.and_true]
      · simp only [go_sem, reduceIte, Nat.reduceBEq, Nat.reduceMul, reduceCtorEq, Nat.reduceAdd, Nat.reduceEqDiff, decide_eq_true_eq, decide_eq_false_iff_not, Bool.not_eq_true', Bool.not_eq_false', Bool.and_eq_true, Bool.or_eq_true, Bool.and_eq_false_iff, Bool.or_eq_false_iff, Bool.cond_true_left, Bool.cond_false_right, Bool.cond_true_right, Bool.cond_false_left, Bool.or_false, Bool.and_true]
      clear hU U
      simp (maxSteps := 10000000) only [c90_9, go_sem, reduceIte, Nat.reduceBEq, Nat.reduceMul, reduceCtorEq, Nat.reduceAdd, Nat.reduceEqDiff, decide_eq_true_eq, decide_eq_false_iff_not, Bool.not_eq_true', Bool.not_eq_false', Bool.and_eq_true, Bool.or_eq_true, Bool.and_eq_false_iff, Bool.or_eq_false_iff, Bool.cond_true_left, Bool.cond_false_right, Bool.cond_true_right, Bool.cond_false_left, Bool.or_false, Bool.and_true, inR]
      generalize hR2 : dlv1 500 (x :: r.map tick1) (tks2 r) = R2 at hok3 hd
      refine loop_rule (β := (Nat × Nat) × List Node × List Msg) (fun p => ⟨[(0, .ptr 900000000 0), (1, .ptr 900001000 0), (2, .ptr 900002000 0), (4, .int .i64 t), (5, .own 900009000 0 p.2.2.length), (9, .int .i64 p.1.1)], [(900000000, .box [.int .i64 k]), (900001000, .box [.own 900001001 0 p.2.1.length]), (900002000, .box [.int .i64 m]), (900001001, .row tNode p.2.1 false), (900009000, .row tMsg p.2.2 false)]⟩)
        (fun p => p.1.1 + p.1.2 = 500 ∧ p.1.1 ≤ p.2.2.length ∧ p.2.2.length ≤ 1000000 + p.1.1 * 1048576 ∧ dlv1Ok p.1.2 p.2.1 (p.2.2.drop p.1.1) = true ∧ dlv1 p.1.2 p.2.1 (p.2.2.drop p.1.1) = R2 ∧ p.2.1.length = r.length + 1) (fun p => p.1.2) ((0, 500), x :: r.map tick1, tks2 r) ?_ ?_ ?_
      · refine Ent_of [(900000000, 900000000), (900001000, 900001000), (900002000, 900002000), (900001001, 900001001), (900009000, 900009000)] rfl ?_ ?_
        · simp only [go_sem, reduceIte, Nat.reduceBEq, Nat.reduceMul, reduceCtorEq, Nat.reduceAdd, Nat.reduceEqDiff, decide_eq_true_eq, decide_eq_false_iff_not, Bool.not_eq_true', Bool.not_eq_false', Bool.and_eq_true, Bool.or_eq_true, Bool.and_eq_false_iff, Bool.or_eq_false_iff, Bool.cond_true_left, Bool.cond_false_right, Bool.cond_true_right, Bool.cond_false_left, Bool.or_false, Bool.and_true]
          exact List.length_map ..
        · simp only [go_sem, reduceIte, Nat.reduceBEq, Nat.reduceMul, reduceCtorEq, Nat.reduceAdd, Nat.reduceEqDiff, decide_eq_true_eq, decide_eq_false_iff_not, Bool.not_eq_true', Bool.not_eq_false', Bool.and_eq_true, Bool.or_eq_true, Bool.and_eq_false_iff, Bool.or_eq_false_iff, Bool.cond_true_left, Bool.cond_false_right, Bool.cond_true_right, Bool.cond_false_left, Bool.or_false, Bool.and_true]
          rfl
      · refine ⟨rfl, Nat.zero_le _, ?_, hok2, hR2, by rw [List.length_cons, List.length_map]⟩
        show (tks2 r).length ≤ 1000000 + 0 * 1048576
        omega
      clear hR2
      rintro ⟨⟨i, d⟩, ms, q⟩ ⟨hi, hiq, hql, hok, hd', hml⟩
      have hi : i + d = 500 := hi
      have hiq : i ≤ q.length := hiq
      have hql : q.length ≤ 1000000 + i * 1048576 := hql
      have hok : dlv1Ok d ms (q.drop i) = true := hok
      have hd' : dlv1 d ms (q.drop i) = R2 := hd'
      have hml : ms.length = r.length + 1 := hml
      simp (maxSteps := 10000000) only [go_sem, reduceIte, Nat.reduceBEq, Nat.reduceMul, reduceCtorEq, Nat.reduceAdd, Nat.reduceEqDiff, decide_eq_true_eq, decide_eq_false_iff_not, Bool.not_eq_true', Bool.not_eq_false', Bool.and_eq_true, Bool.or_eq_true, Bool.and_eq_false_iff, Bool.or_eq_false_iff, Bool.cond_true_left, Bool.cond_false_right, Bool.cond_true_right, Bool.cond_false_left, Bool.or_false, Bool.and_true, inR]
      refine ⟨fun h => ?_, fun h => ?_⟩
      · have hil : i < q.length := by omega
        obtain ⟨e', rfl⟩ : ∃ e', d = e' + 1 := ⟨d - 1, by omega⟩
        have hdrop : q.drop i = q[i] :: q.drop (i + 1) := List.drop_eq_getElem_cons hil
        have hget : q.getD i (dflt tMsg) = q[i] := by rw [List.getD_eq_getElem?_getD, List.getElem?_eq_getElem hil]; rfl
        rw [hdrop] at hok hd'
        rw [hget]
        generalize q[i] = y at *
        have hty : y.2.2.1 = mTo y := rfl
        simp only [hty]
        have hiq2 : (0 : Int) ≤ (i : Int) ∧ (i : Int) < (q.length : Int) := by omega
        unfold dlv1 at hd'
        unfold dlv1Ok at hok
        refine ⟨hiq2, fun hc => ?_, fun hc => ?_⟩
        · have hc2 : 0 < mTo y ∧ mTo y < ms.length := by omega
          have hc3 : 0 ≤ mTo y ∧ mTo y < ms.length := by omega
          rw [if_pos hc2] at hok hd'
          rw [Bool.and_eq_true] at hok
          have hs2 : (step2 (ms.getD (mTo y).toNat (dflt tNode)) y).length ≤ 1048576 := step2_len _ y
          refine ⟨hc3, hiq2, (nodeB_ok hok.1).1, by decide +kernel, ⟨by omega, by omega⟩, hc3, by decide +kernel, by omega, Again.intro ((i + 1, e'), ms.set (mTo y).toNat (step1 (ms.getD (mTo y).toNat (dflt tNode)) y), q ++ step2 (ms.getD (mTo y).toNat (dflt tNode)) y) (Ent_of [(900000000, 900000000), (900001000, 900001000), (900002000, 900002000), (900001001, 900001001), (900009000, 76)] rfl ?_ ?_) ⟨?_, ?_, ?_, ?_, ?_, ?_⟩ (show e' < e' + 1 by omega)⟩
          · simp only [go_sem, reduceIte, Nat.reduceBEq, Nat.reduceMul, reduceCtorEq, Nat.reduceAdd, Nat.reduceEqDiff, decide_eq_true_eq, decide_eq_false_iff_not, Bool.not_eq_true', Bool.not_eq_false', Bool.and_eq_true, Bool.or_eq_true, Bool.and_eq_false_iff, Bool.or_eq_false_iff, Bool.cond_true_left, Bool.cond_false_right, Bool.cond_true_right, Bool.cond_false_left, Bool.or_false, Bool.and_true]
          · simp only [go_sem, reduceIte, Nat.reduceBEq, Nat.reduceMul, reduceCtorEq, Nat.reduceAdd, Nat.reduceEqDiff, decide_eq_true_eq, decide_eq_false_iff_not, Bool.not_eq_true', Bool.not_eq_false', Bool.and_eq_true, Bool.or_eq_true, Bool.and_eq_false_iff, Bool.or_eq_false_iff, Bool.cond_true_left, Bool.cond_false_right, Bool.cond_true_right, Bool.cond_false_left, Bool.or_false, Bool.and_true]
            rfl
          · show i + 1 + e' = 500; omega
          · show i + 1 ≤ (q ++ _).length
            rw [List.length_append]; omega
          · show (q ++ _).length ≤ 1000000 + (i + 1) * 1048576
            rw [List.length_append]; omega
          · show dlv1Ok e' _ ((q ++ _).drop (i + 1)) = true
            rw [List.drop_append_of_le_length (by omega)]; exact hok.2
          · show dlv1 e' _ ((q ++ _).drop (i + 1)) = R2
            rw [List.drop_append_of_le_length (by omega)]; exact hd'
          · show (ms.set _ _).length = _
            rw [List.length_set]; exact hml
        · have hc' : ¬ (0 < mTo y ∧ mTo y < ms.length) := by omega
          rw [if_neg hc'] at hok hd'
          refine ⟨by omega, Again.intro ((i + 1, e'), ms, q) (Ent_of [(900000000, 900000000), (900001000, 900001000), (900002000, 900002000), (900001001, 900001001), (900009000, 900009000)] rfl ?_ ?_) ⟨?_, ?_, ?_, hok, hd', hml⟩ (show e' < e' + 1 by omega)⟩
          · simp only [go_sem, reduceIte, Nat.reduceBEq, Nat.reduceMul, reduceCtorEq, Nat.reduceAdd, Nat.reduceEqDiff, decide_eq_true_eq, decide_eq_false_iff_not, Bool.not_eq_true', Bool.not_eq_false', Bool.and_eq_true, Bool.or_eq_true, Bool.and_eq_false_iff, Bool.or_eq_false_iff, Bool.cond_true_left, Bool.cond_false_right, Bool.cond_true_right, Bool.cond_false_left, Bool.or_false, Bool.and_true]
          · simp only [go_sem, reduceIte, Nat.reduceBEq, Nat.reduceMul, reduceCtorEq, Nat.reduceAdd, Nat.reduceEqDiff, decide_eq_true_eq, decide_eq_false_iff_not, Bool.not_eq_true', Bool.not_eq_false', Bool.and_eq_true, Bool.or_eq_true, Bool.and_eq_false_iff, Bool.or_eq_false_iff, Bool.cond_true_left, Bool.cond_false_right, Bool.cond_true_right, Bool.cond_false_left, Bool.or_false, Bool.and_true]
            rfl
          · show i + 1 + e' = 500; omega
          · show i + 1 ≤ q.length; omega
          · exact Nat.le_trans hql (Nat.add_le_add_left (Nat.mul_le_mul_right _ (Nat.le_succ i)) _)
      · have hend : dlv1 d ms (q.drop i) = ms := by
          by_cases h5 : d = 0
          · rw [h5]; rfl
          · have : i = q.length := by omega
            obtain ⟨e', rfl⟩ : ∃ e', d = e' + 1 := ⟨d - 1, by omega⟩
            rw [this, List.drop_length]
            rfl
        rw [hend] at hd'
        subst hd'
        refine ⟨by omega, Again.intro ((t + 1, e), ms) (Ent_of [(900000000, 900000000), (900001000, 900001000), (900002000, 900002000), (900001001, 900001001)] rfl ?_ ?_) ⟨?_, ?_, ?_, ?_, hok3, hd⟩ (show e < e + 1 by omega)⟩
        · simp only [go_sem, reduceIte, Nat.reduceBEq, Nat.reduceMul, reduceCtorEq, Nat.reduceAdd, Nat.reduceEqDiff, decide_eq_true_eq, decide_eq_false_iff_not, Bool.not_eq_true', Bool.not_eq_false', Bool.and_eq_true, Bool.or_eq_true, Bool.and_eq_false_iff, Bool.or_eq_false_iff, Bool.cond_true_left, Bool.cond_false_right, Bool.cond_true_right, Bool.cond_false_left, Bool.or_false, Bool.and_true]
        · simp only [go_sem, reduceIte, Nat.reduceBEq, Nat.reduceMul, reduceCtorEq, Nat.reduceAdd, Nat.reduceEqDiff, decide_eq_true_eq, decide_eq_false_iff_not, Bool.not_eq_true', Bool.not_eq_false', Bool.and_eq_true, Bool.or_eq_true, Bool.and_eq_false_iff, Bool.or_eq_false_iff, Bool.cond_true_left, Bool.cond_false_right, Bool.cond_true_right, Bool.cond_false_left, Bool.or_false, Bool.and_true]
          rfl
        · show t + 1 + e = 25; omega
        · show k = ((ms.length : Nat) : Int); omega
        · show ms.length ≤ 100; omega
        · show 3 ≤ ms.length; omega
  · have h0 : d = 0 := by omega
    subst h0
    have hd : ms = R := hd
    subst hd
    refine cut_at hV ⟨[(0, .ptr 900000000 0), (1, .ptr 900001000 0), (2, .ptr 900002000 0)], [(900000000, .box [.int .i64 k]), (900001000, .box [.own 900001001 0 ms.length]), (900002000, .box [.int .i64 m]), (900001001, .row tNode ms false)]⟩ ?_ (Ent_of [(900000000, 900000000), (900001000, 900001000), (900002000, 900002000), (900001001, 900001001)] rfl ?_ ?_)
    rotate_left
    · simp only [go_sem, reduceIte, Nat.reduceBEq, Nat.reduceMul, reduceCtorEq, Nat.reduceAdd, Nat.reduceEqDiff, decide_eq_true_eq, decide_eq_false_iff_not, Bool.not_eq_true', Bool.not_eq_false', Bool.and_eq_true, Bool.or_eq_true, Bool.and_eq_false_iff, Bool.or_eq_false_iff, Bool.cond_true_left, Bool.cond_false_right, Bool.cond_true_right, Bool.cond_false_left, Bool.or_false, Bool.and_true]
    · simp only [go_sem, reduceIte, Nat.reduceBEq, Nat.reduceMul, reduceCtorEq, Nat.reduceAdd, Nat.reduceEqDiff, decide_eq_true_eq, decide_eq_false_iff_not, Bool.not_eq_true', Bool.not_eq_false', Bool.and_eq_true, Bool.or_eq_true, Bool.and_eq_false_iff, Bool.or_eq_false_iff, Bool.cond_true_left, Bool.cond_false_right, Bool.cond_true_right, Bool.cond_false_left, Bool.or_false, Bool.and_true]
    clear hU U hV V
    simp (maxSteps := 10000000) only [c90_78, go_sem, reduceIte, Nat.reduceBEq, Nat.reduceMul, reduceCtorEq, Nat.reduceAdd, Nat.reduceEqDiff, decide_eq_true_eq, decide_eq_false_iff_not, Bool.not_eq_true', Bool.not_eq_false', Bool.and_eq_true, Bool.or_eq_true, Bool.and_eq_false_iff, Bool.or_eq_false_iff, Bool.cond_true_left, Bool.cond_false_right, Bool.cond_true_right, Bool.cond_false_left, Bool.or_false, Bool.and_true, inR]
    refine ⟨by omega, fun _ => by omega, fun _ => by omega, fun _ => by omega, fun _ => by omega, fun _ => by omega, by decide +kernel, ?_⟩
    rw [hR]
    unfold elB
    rw [show ((m.toNat : Nat) : Int) = m by omega]
    simp only [Bool.and_assoc]
    rfl
end Go.AM
