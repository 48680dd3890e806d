import Derived.Test.YtbcbgfkojmligaaHAP
import Derived.KernelRfl
import Derived.Test.YtbcbgfkojmligaaProg
/- What functions of the program answer, each under the conditions that its contract names. -/
set_option linter.unusedVariables false
set_option linter.unusedSimpArgs false
set_option maxRecDepth 100000
namespace Go.AM
def c20_112 : C := (.seq (.reg [⟨(some 112), (.clo 90), [.t 5, .t 6, .t 8], none⟩,
  ⟨(some 14), .mv, [.t 112], none⟩])
 (.seq (.reg [⟨(some 113), .mv, [.t 14], none⟩,
  ⟨(some 114), .callv, [.t 113], none⟩,
  ⟨(some 115), .mv, [.t 114], none⟩,
  ⟨(some 116), (.call 76), [], (some (115, true))⟩,
  ⟨(some 117), .pick, [.t 115, .t 116, .c (.bool false)], none⟩,
  ⟨(some 4), .mv, [.t 117], none⟩])
 .ret))
def c20_109 : C := (.seq (.seq (.reg [⟨(some 109), (.load 1 false), [.t 5], none⟩,
  ⟨(some 110), (.bin .lss), [.t 109, .c (.int .i64 3)], none⟩])
 (.cond (.t 110) (.seq (.reg [⟨(some 111), (.call 76), [], none⟩,
  ⟨(some 4), .mv, [.t 111], none⟩])
 .ret) .skip))
 (.cut c20_112))
def c20_13 : C := (.seq (.seq (.reg [⟨(some 13), .mv, [.c (.int .i64 0)], none⟩])
 (.block 4 (.loop (.seq (.seq (.reg [⟨(some 58), .mv, [.t 13], none⟩,
  ⟨(some 59), (.load 1 false), [.t 5], none⟩,
  ⟨(some 60), (.bin .lss), [.t 58, .t 59], none⟩])
 (.cond (.t 60) .skip (.exit 4)))
 (.seq (.block 5 (.seq (.regd [⟨(some 63), (.load 1 false), [.t 6], none⟩,
  ⟨(some 64), .mv, [.t 13], none⟩,
  ⟨(some 65), (.idx 15), [.t 63, .t 64], none⟩,
  ⟨(some 66), (.fld 9), [.t 65], none⟩,
  ⟨(some 67), (.load 1 false), [.t 66], none⟩,
  ⟨(some 68), (.bin .neq), [.t 67, .c (.int .i64 0)], none⟩,
  ⟨(some 69), .mv, [.t 68], none⟩,
  ⟨(some 70), (.load 1 false), [.t 6], (some (69, false))⟩,
  ⟨(some 71), .mv, [.t 13], (some (69, false))⟩,
  ⟨(some 72), (.idx 15), [.t 70, .t 71], (some (69, false))⟩,
  ⟨(some 73), (.fld 8), [.t 72], (some (69, false))⟩,
  ⟨(some 74), (.load 1 false), [.t 73], (some (69, false))⟩,
  ⟨(some 75), (.bin .eql), [.t 74, .c (.int .i64 2)], (some (69, false))⟩,
  ⟨(some 76), .mv, [.t 13], (some (69, false))⟩,
  ⟨(some 77), (.bin .eql), [.t 76, .c (.int .i64 0)], (some (69, false))⟩,
  ⟨(some 78), (.binb .neq), [.t 75, .t 77], (some (69, false))⟩,
  ⟨(some 79), .pick, [.t 69, .c (.bool true), .t 78], none⟩,
  ⟨(some 80), .mv, [.t 79], none⟩,
  ⟨(some 81), (.load 1 false), [.t 6], (some (80, false))⟩,
  ⟨(some 82), .mv, [.t 13], (some (80, false))⟩,
  ⟨(some 83), (.idx 15), [.t 81, .t 82], (some (80, false))⟩,
  ⟨(some 84), (.fld 10), [.t 83], (some (80, false))⟩,
  ⟨(some 85), (.load 1 false), [.t 84], (some (80, false))⟩,
  ⟨(some 86), (.load 1 false), [.t 8], (some (80, false))⟩,
  ⟨(some 87), (.bin .add), [.c (.int .i64 1), .t 86], (some (80, false))⟩,
  ⟨(some 88), (.bin .neq), [.t 85, .t 87], (some (80, false))⟩,
  ⟨(some 89), .pick, [.t 80, .c (.bool true), .t 88], none⟩,
  ⟨(some 90), .mv, [.t 89], none⟩,
  ⟨(some 91), (.load 1 false), [.t 6], (some (90, false))⟩,
  ⟨(some 92), .mv, [.t 13], (some (90, false))⟩,
  ⟨(some 93), (.idx 15), [.t 91, .t 92], (some (90, false))⟩,
  ⟨(some 94), (.fld 7), [.t 93], (some (90, false))⟩,
  ⟨(some 95), (.load 1 false), [.t 94], (some (90, false))⟩,
  ⟨(some 96), .len, [.t 95], (some (90, false))⟩,
  ⟨(some 97), (.load 1 false), [.t 8], (some (90, false))⟩,
  ⟨(some 98), (.bin .add), [.c (.int .i64 1), .t 97], (some (90, false))⟩,
  ⟨(some 99), (.bin .neq), [.t 96, .t 98], (some (90, false))⟩,
  ⟨(some 100), .pick, [.t 90, .c (.bool true), .t 99], none⟩,
  ⟨(some 101), .mv, [.t 100], none⟩,
  ⟨(some 102), (.load 1 false), [.t 6], (some (101, false))⟩,
  ⟨(some 103), .mv, [.t 13], (some (101, false))⟩,
  ⟨(some 104), (.idx 15), [.t 102, .t 103], (some (101, false))⟩,
  ⟨(some 105), (.fld 2), [.t 104], (some (101, false))⟩,
  ⟨(some 106), (.load 1 false), [.t 105], (some (101, false))⟩,
  ⟨(some 107), (.bin .neq), [.t 106, .c (.int .i64 1)], (some (101, false))⟩,
  ⟨(some 108), .pick, [.t 101, .c (.bool true), .t 107], none⟩] [0, 0, 3, 4, 8, 16, 32, 64, 64, 448, 576, 1088, 2112, 64, 8256, 20544, 32832, 65600, 131072, 131072, 917504, 1179648, 2228224, 131072, 8519680, 21102592, 33685504, 67239936, 134217728, 134217728, 939524096, 1207959552, 2281701376, 4429185024, 134217728, 17314086912, 43083890688, 68853694464, 137573171200, 274877906944, 274877906944, 1924145348608, 2473901162496, 4672924418048, 9070970929152, 17867063951360])
 (.cond (.t 108) (.seq (.reg [⟨(some 4), .mv, [.c (.bool false)], none⟩])
 .ret) .skip)))
 (.reg [⟨(some 61), .mv, [.t 13], none⟩,
  ⟨(some 62), (.bin .add), [.t 61, .c (.int .i64 1)], none⟩,
  ⟨(some 13), .mv, [.t 62], none⟩]))))))
 (.cut c20_109))
def c20_56 : C := (.seq (.reg [⟨(some 56), (.load 1 false), [.t 6], none⟩,
  ⟨(some 57), (.call 88), [.t 56, .c (.int .i64 4)], none⟩,
  ⟨none, (.store 1), [.t 6, .t 57], none⟩])
 (.cut c20_13))
def c20_9 : C := (.seq (.seq (.reg [⟨(some 9), .mv, [.c (.int .i64 0)], none⟩])
 (.block 2 (.loop (.seq (.seq (.reg [⟨(some 33), .mv, [.t 9], none⟩,
  ⟨(some 34), (.load 1 false), [.t 8], none⟩,
  ⟨(some 35), (.bin .lss), [.t 33, .t 34], none⟩])
 (.cond (.t 35) .skip (.exit 2)))
 (.seq (.block 3 (.seq (.regd [⟨(some 39), (.load 1 false), [.t 6], none⟩,
  ⟨(some 40), (.idx 15), [.t 39, .c (.int .i64 0)], none⟩,
  ⟨(some 41), (.load 15 true), [.t 40], none⟩,
  ⟨(some 42), .mv, [.t 9], none⟩,
  ⟨(some 43), (.call 50), [.t 42], none⟩,
  ⟨(some 44), (.call 82), [.t 41, .t 43], none⟩,
  ⟨(some 38), .mv, [.t 44], none⟩,
  ⟨(some 45), (.ext 0), [.t 38], none⟩,
  ⟨(some 46), (.ext 1), [.t 38], none⟩,
  ⟨(some 47), (.ext 2), [.t 38], none⟩,
  ⟨(some 10), (.alloc [.int .i64 0, .int .i64 0, .int .i64 0, .int .i64 0, .int .i64 0, .int .i64 0, .str ⟨#[]⟩, .sl tEntry [] true, .int .i64 0, .int .i64 0, .int .i64 0, .sl .bool [] true, .sl tI [] true, .sl tI [] true, .int .i64 0]), [], none⟩,
  ⟨none, (.store 15), [.t 10, .t 45], none⟩,
  ⟨(some 11), .mv, [.t 46], none⟩,
  ⟨(some 12), .mv, [.t 47], none⟩] [0, 1, 2, 0, 8, 20, 32, 64, 64, 64, 0, 1279, 3583, 8191])
 (.seq (.seq (.reg [⟨(some 48), .mv, [.t 12], none⟩,
  ⟨(some 49), (.bin .neq), [.t 48, .c (.int .i64 0)], none⟩])
 (.cond (.t 49) (.seq (.reg [⟨(some 4), .mv, [.c (.bool false)], none⟩])
 .ret) .skip))
 (.seq (.reg [⟨(some 50), (.load 1 false), [.t 6], none⟩,
  ⟨(some 51), (.load 15 true), [.t 10], none⟩,
  ⟨(some 52), (.idx 15), [.t 50, .c (.int .i64 0)], none⟩,
  ⟨none, (.store 15), [.t 52, .t 51], none⟩])
 (.reg [⟨(some 53), (.load 1 false), [.t 6], none⟩,
  ⟨(some 54), .mv, [.t 11], none⟩,
  ⟨(some 55), (.call 89), [.t 53, .t 54], none⟩,
  ⟨none, (.store 1), [.t 6, .t 55], none⟩])))))
 (.reg [⟨(some 36), .mv, [.t 9], none⟩,
  ⟨(some 37), (.bin .add), [.t 36, .c (.int .i64 1)], none⟩,
  ⟨(some 9), .mv, [.t 37], none⟩]))))))
 (.cut c20_56))
def c20_31 : C := (.seq (.reg [⟨(some 31), .mv, [.t 1], none⟩,
  ⟨(some 32), (.call 23), [.t 31, .c (.int .i64 30)], none⟩,
  ⟨(some 8), (.alloc [.int .i64 0]), [], none⟩,
  ⟨none, (.store 1), [.t 8, .t 32], none⟩])
 (.cut c20_9))
def c20_29 : C := (.seq (.reg [⟨(some 29), (.load 1 false), [.t 6], none⟩,
  ⟨(some 30), (.call 88), [.t 29, .c (.int .i64 12)], none⟩,
  ⟨none, (.store 1), [.t 6, .t 30], none⟩])
 (.cut c20_31))
def c20 : C := (.seq (.reg [⟨(some 4), .mv, [.c (.bool false)], none⟩])
 (.seq (.reg [⟨(some 15), .mv, [.t 0], none⟩,
  ⟨(some 16), (.call 23), [.t 15, .c (.int .i64 5)], none⟩,
  ⟨(some 17), (.bin .add), [.c (.int .i64 1), .t 16], none⟩,
  ⟨(some 5), (.alloc [.int .i64 0]), [], none⟩,
  ⟨none, (.store 1), [.t 5, .t 17], none⟩])
 (.seq (.reg [⟨(some 6), (.alloc [.sl tNode [] true]), [], none⟩])
 (.seq (.seq (.reg [⟨(some 7), .mv, [.c (.int .i64 0)], none⟩])
 (.block 0 (.loop (.seq (.seq (.reg [⟨(some 18), .mv, [.t 7], none⟩,
  ⟨(some 19), (.load 1 false), [.t 5], none⟩,
  ⟨(some 20), (.bin .lss), [.t 18, .t 19], none⟩])
 (.cond (.t 20) .skip (.exit 0)))
 (.seq (.block 1 (.regd [⟨(some 23), (.load 1 false), [.t 6], none⟩,
  ⟨(some 24), .mv, [.t 7], none⟩,
  ⟨(some 25), (.load 1 false), [.t 5], none⟩,
  ⟨(some 26), (.call 31), [.t 24, .t 25], none⟩,
  ⟨(some 27), (.bslice tNode 1), [.t 26], none⟩,
  ⟨(some 28), (.app 15 192), [.t 23, .t 27], none⟩,
  ⟨none, (.store 1), [.t 6, .t 28], none⟩] [0, 0, 0, 6, 8, 25, 63]))
 (.reg [⟨(some 21), .mv, [.t 7], none⟩,
  ⟨(some 22), (.bin .add), [.t 21, .c (.int .i64 1)], none⟩,
  ⟨(some 7), .mv, [.t 22], none⟩]))))))
 (.cut c20_29)))))
theorem comp20 : compC Go.Proofs.Try.prog ttL 118 [] (match Go.Proofs.Try.f20.body with | some b => b | none => .skip) = some (erase c20) := by kernel_rfl
end Go.AM
set_option maxRecDepth 100000
set_option maxHeartbeats 40000000
set_option linter.unusedSimpArgs false
namespace Go.AM
open Go.Proofs
attribute [local congr] vc_congr evOps_congr evTab_congr bind_congr condK_congr tabK_congr
theorem propsOk_at : ∀ {m : Nat} {ns : List Node}, propsOk m ns = true → ∀ i, i < m → prop0Ok (propsN i ns) i = true := by
  intro m
  induction m with
  | zero => intro ns _ i hi; omega
  | succ m ih =>
    intro ns h i hi
    unfold propsOk at h
    rw [Bool.and_eq_true] at h
    by_cases e : i = m
    · subst e; exact h.2
    · exact ih h.1 i (by omega)
theorem propsN_len : ∀ (m : Nat) (ns : List Node), (propsN m ns).length = ns.length := by
  intro m
  induction m with
  | zero => intro ns; rfl
  | succ m ih =>
    intro ns
    unfold propsN prop0
    rw [dlv_len, List.length_set, ih]
theorem news_len (k : Nat) : (news k).length = k := by unfold news; rw [List.length_map, List.length_range]
theorem news_succ (k i : Nat) : (List.range (i + 1)).map (fun j : Nat => newN (j : Int) (k : Int)) = (List.range i).map (fun j : Nat => newN (j : Int) (k : Int)) ++ [newN (i : Int) (k : Int)] := by rw [List.range_succ, List.map_append]; rfl
theorem elA_at {m : Nat} {ns : List Node} (h : elA m ns = true) {t : Nat} (ht : t < ns.length) :
    nLead (ns.getD t (dflt tNode)) = 0 ∧ (decide (nRole (ns.getD t (dflt tNode)) = 2) == decide ((t : Int) = 0)) = true ∧ nCommit (ns.getD t (dflt tNode)) = 1 + m ∧ ((nLog (ns.getD t (dflt tNode))).length : Int) = 1 + m ∧ nTerm (ns.getD t (dflt tNode)) = 1 := by
  unfold elA at h
  rw [List.all_eq_true] at h
  have hg : ns.getD t (dflt tNode) = ns[t] := by rw [List.getD_eq_getElem?_getD, List.getElem?_eq_getElem ht]; rfl
  have := h (ns[t], t) (by rw [List.mem_iff_getElem]; exact ⟨t, by simpa using ht, by simp⟩)
  simp only [Bool.and_eq_true, decide_eq_true_eq] at this
  rw [hg]
  obtain ⟨⟨⟨⟨h1, h2⟩, h3⟩, h4⟩, h5⟩ := this
  refine ⟨h1, ?_, h3, h4, h5⟩
  have e : decide ((t : Int) = 0) = decide (t = 0) := by
    by_cases h0 : t = 0
    · subst h0; rfl
    · rw [decide_eq_false h0, decide_eq_false (by omega)]
  rw [e]; exact h2
theorem el_ok {k m : Nat} (h1 : 1 ≤ k) (h2 : k ≤ 5) (h3 : m < 30) : elAll k m = true := by
  have hk : k = 1 ∨ k = 2 ∨ k = 3 ∨ k = 4 ∨ k = 5 := by omega
  rcases hk with rfl | rfl | rfl | rfl | rfl
  · exact List.all_eq_true.1 el_k1 m (List.mem_range.2 h3)
  · exact List.all_eq_true.1 el_k2 m (List.mem_range.2 h3)
  · exact List.all_eq_true.1 el_k3 m (List.mem_range.2 h3)
  · exact List.all_eq_true.1 el_k4 m (List.mem_range.2 h3)
  · exact List.all_eq_true.1 el_k5 m (List.mem_range.2 h3)
def raftElectsFn : Fn := { a := .pair tI (.pair tI .unit), r := .pair .bool .unit, pre := fun _ => True, f := fun _ => (true, ()) }
theorem h20  : Holds Try.prog 20 (raftElectsFn) := by
  refine Holds.of_vcc (T := [(23, fn23), (31, fn31), (88, fn88), (50, fn50), (82, fn82), (89, fn89), (76, fn76), (90, fn90)]) (TT := ttL) (rowAt := []) (c := c20) (ros := [.t 4]) (.cons _ h23 (.cons _ h31 (.cons _ h88 (.cons _ h50 (.cons _ h82 (.cons _ h89 (.cons _ h76 (.cons _ h90 (.nil _))))))))) mixed Try.func20 (by decide +kernel) (by rfl) comp20 (by kernel_rfl) rfl rfl (fun h => by cases h) ?_
  rintro ⟨(nodes : Int), (cmds : Int), _⟩ hpre
  simp only [raftElectsFn] at hpre ⊢
  simp only [c20, fn23, fn31, fn88, fn50, fn82, fn89, fn76, fn90, go_sem, reduceIte, Nat.reduceBEq, Nat.reduceMul, reduceCtorEq, Nat.reduceAdd, Nat.reduceEqDiff, decide_eq_true_eq, decide_eq_false_iff_not, Bool.not_eq_true', Bool.not_eq_false', Bool.and_eq_true, Bool.or_eq_true, Bool.and_eq_false_iff, Bool.or_eq_false_iff, Bool.cond_true_left, Bool.cond_false_right, Bool.cond_true_right, Bool.cond_false_left, Bool.or_false, Bool.and_true, inR, fn23, p19]
  have hk0 := Int.emod_nonneg nodes (show (5 : Int) ≠ 0 by decide)
  have hk1 := Int.emod_lt_of_pos nodes (show (0 : Int) < 5 by decide)
  obtain ⟨K, hK⟩ : ∃ K : Nat, (K : Int) = 1 + nodes % 5 := ⟨(1 + nodes % 5).toNat, by omega⟩
  simp only [← hK]
  refine ⟨by decide, by omega, ?_⟩
  have hK1 : 1 ≤ K ∧ K ≤ 5 := by omega
  clear hK hk0 hk1
  refine loop_rule (β := Nat) (fun i => ⟨[(1, .int .i64 cmds), (5, .ptr 5 0), (6, .ptr 6 0), (7, .int .i64 i)], [(5, .box [.int .i64 K]), (6, .box [.own 28 0 i]), (28, .row tNode ((List.range i).map fun j : Nat => newN (j : Int) (K : Int)) false)]⟩) (fun i => i ≤ K) (fun i => K - i) 0 ?_ ?_ ?_
  · refine Ent_of [(5, 5), (6, 6)] rfl ?_ ?_
    · simp only [go_sem, reduceIte, Nat.reduceBEq, Nat.reduceMul, reduceCtorEq, Nat.reduceAdd, Nat.reduceEqDiff, decide_eq_true_eq, decide_eq_false_iff_not, Bool.not_eq_true', Bool.not_eq_false', Bool.and_eq_true, Bool.or_eq_true, Bool.and_eq_false_iff, Bool.or_eq_false_iff, Bool.cond_true_left, Bool.cond_false_right, Bool.cond_true_right, Bool.cond_false_left, Bool.or_false, Bool.and_true]
      exact ⟨rfl, by decide, by decide⟩
    · simp only [go_sem, reduceIte, Nat.reduceBEq, Nat.reduceMul, reduceCtorEq, Nat.reduceAdd, Nat.reduceEqDiff, decide_eq_true_eq, decide_eq_false_iff_not, Bool.not_eq_true', Bool.not_eq_false', Bool.and_eq_true, Bool.or_eq_true, Bool.and_eq_false_iff, Bool.or_eq_false_iff, Bool.cond_true_left, Bool.cond_false_right, Bool.cond_true_right, Bool.cond_false_left, Bool.or_false, Bool.and_true]
      rfl
  · exact Nat.zero_le _
  intro i hi
  simp (maxSteps := 10000000) only [go_sem, reduceIte, Nat.reduceBEq, Nat.reduceMul, reduceCtorEq, Nat.reduceAdd, Nat.reduceEqDiff, decide_eq_true_eq, decide_eq_false_iff_not, Bool.not_eq_true', Bool.not_eq_false', Bool.and_eq_true, Bool.or_eq_true, Bool.and_eq_false_iff, Bool.or_eq_false_iff, Bool.cond_true_left, Bool.cond_false_right, Bool.cond_true_right, Bool.cond_false_left, Bool.or_false, Bool.and_true, inR]
  generalize hV : vc _ (C.cut c20_29) _ = V
  refine ⟨fun h => ⟨⟨by omega, by omega⟩, by decide +kernel, by omega, Again.intro (i + 1) (Ent_of [(5, 5), (6, 6), (28, 28)] rfl ?_ ?_) (show i + 1 ≤ K by omega) (show K - (i + 1) < K - i by omega)⟩, fun h => ?_⟩
  · simp only [go_sem, reduceIte, Nat.reduceBEq, Nat.reduceMul, reduceCtorEq, Nat.reduceAdd, Nat.reduceEqDiff, decide_eq_true_eq, decide_eq_false_iff_not, Bool.not_eq_true', Bool.not_eq_false', Bool.and_eq_true, Bool.or_eq_true, Bool.and_eq_false_iff, Bool.or_eq_false_iff, Bool.cond_true_left, Bool.cond_false_right, Bool.cond_true_right, Bool.cond_false_left, Bool.or_false, Bool.and_true, List.range_succ]
    rw [List.map_append, List.take_of_length_le (by rw [List.length_map, List.length_range]; exact Nat.le_refl _)]
    rfl
  · simp only [go_sem, reduceIte, Nat.reduceBEq, Nat.reduceMul, reduceCtorEq, Nat.reduceAdd, Nat.reduceEqDiff, decide_eq_true_eq, decide_eq_false_iff_not, Bool.not_eq_true', Bool.not_eq_false', Bool.and_eq_true, Bool.or_eq_true, Bool.and_eq_false_iff, Bool.or_eq_false_iff, Bool.cond_true_left, Bool.cond_false_right, Bool.cond_true_right, Bool.cond_false_left, Bool.or_false, Bool.and_true]
    rfl
  have hiK : i = K := by omega
  subst hiK
  have hM0 := Int.emod_nonneg cmds (show (30 : Int) ≠ 0 by decide)
  have hM1 := Int.emod_lt_of_pos cmds (show (0 : Int) < 30 by decide)
  obtain ⟨M, hM⟩ : ∃ M : Nat, (M : Int) = cmds % 30 := ⟨(cmds % 30).toNat, by omega⟩
  have hall := el_ok hK1.1 hK1.2 (show M < 30 by omega)
  unfold elAll at hall
  simp only [Bool.and_eq_true, decide_eq_true_eq, Bool.or_eq_true] at hall
  obtain ⟨q1, q2, q3, q4, q5, q6, q7, q8⟩ := hall
  have hnl := news_len i
  refine cut_at hV ⟨[(1, .int .i64 cmds), (5, .ptr 5 0), (6, .ptr 6 0)], [(5, .box [.int .i64 i]), (6, .box [.own 28 0 i]), (28, .row tNode (news i) false)]⟩ ?_ (Ent_of [(5, 5), (6, 6), (28, 28)] rfl ?_ ?_)
  rotate_left
  · simp only [go_sem, reduceIte, Nat.reduceBEq, Nat.reduceMul, reduceCtorEq, Nat.reduceAdd, Nat.reduceEqDiff, decide_eq_true_eq, decide_eq_false_iff_not, Bool.not_eq_true', Bool.not_eq_false', Bool.and_eq_true, Bool.or_eq_true, Bool.and_eq_false_iff, Bool.or_eq_false_iff, Bool.cond_true_left, Bool.cond_false_right, Bool.cond_true_right, Bool.cond_false_left, Bool.or_false, Bool.and_true]
    rfl
  · simp only [go_sem, reduceIte, Nat.reduceBEq, Nat.reduceMul, reduceCtorEq, Nat.reduceAdd, Nat.reduceEqDiff, decide_eq_true_eq, decide_eq_false_iff_not, Bool.not_eq_true', Bool.not_eq_false', Bool.and_eq_true, Bool.or_eq_true, Bool.and_eq_false_iff, Bool.or_eq_false_iff, Bool.cond_true_left, Bool.cond_false_right, Bool.cond_true_right, Bool.cond_false_left, Bool.or_false, Bool.and_true]
  clear hV V
  simp (maxSteps := 10000000) only [c20_29, go_sem, reduceIte, Nat.reduceBEq, Nat.reduceMul, reduceCtorEq, Nat.reduceAdd, Nat.reduceEqDiff, decide_eq_true_eq, decide_eq_false_iff_not, Bool.not_eq_true', Bool.not_eq_false', Bool.and_eq_true, Bool.or_eq_true, Bool.and_eq_false_iff, Bool.or_eq_false_iff, Bool.cond_true_left, Bool.cond_false_right, Bool.cond_true_right, Bool.cond_false_left, Bool.or_false, Bool.and_true, inR]
  generalize hV : vc _ (C.cut c20_31) _ = V
  have etk : (news i).take i = news i := List.take_of_length_le (by omega)
  simp only [etk]
  have h1l : (el1 i).length = i := q1
  refine ⟨⟨by omega, by decide, by decide, q2⟩, ?_⟩
  refine cut_at hV ⟨[(1, .int .i64 cmds), (5, .ptr 5 0), (6, .ptr 6 0)], [(5, .box [.int .i64 i]), (6, .box [.own 13000 0 (el1 i).length]), (13000, .row tNode (el1 i) false)]⟩ ?_ (Ent_of [(5, 5), (6, 6), (13000, 13000)] rfl ?_ ?_)
  rotate_left
  · simp only [go_sem, reduceIte, Nat.reduceBEq, Nat.reduceMul, reduceCtorEq, Nat.reduceAdd, Nat.reduceEqDiff, decide_eq_true_eq, decide_eq_false_iff_not, Bool.not_eq_true', Bool.not_eq_false', Bool.and_eq_true, Bool.or_eq_true, Bool.and_eq_false_iff, Bool.or_eq_false_iff, Bool.cond_true_left, Bool.cond_false_right, Bool.cond_true_right, Bool.cond_false_left, Bool.or_false, Bool.and_true]
    exact ⟨rfl, rfl⟩
  · simp only [go_sem, reduceIte, Nat.reduceBEq, Nat.reduceMul, reduceCtorEq, Nat.reduceAdd, Nat.reduceEqDiff, decide_eq_true_eq, decide_eq_false_iff_not, Bool.not_eq_true', Bool.not_eq_false', Bool.and_eq_true, Bool.or_eq_true, Bool.and_eq_false_iff, Bool.or_eq_false_iff, Bool.cond_true_left, Bool.cond_false_right, Bool.cond_true_right, Bool.cond_false_left, Bool.or_false, Bool.and_true]
  clear hV V etk hnl q2
  simp (maxSteps := 10000000) only [c20_31, go_sem, reduceIte, Nat.reduceBEq, Nat.reduceMul, reduceCtorEq, Nat.reduceAdd, Nat.reduceEqDiff, decide_eq_true_eq, decide_eq_false_iff_not, Bool.not_eq_true', Bool.not_eq_false', Bool.and_eq_true, Bool.or_eq_true, Bool.and_eq_false_iff, Bool.or_eq_false_iff, Bool.cond_true_left, Bool.cond_false_right, Bool.cond_true_right, Bool.cond_false_left, Bool.or_false, Bool.and_true, inR, fn23, p19]
  simp only [← hM]
  generalize hV : vc _ (C.cut c20_9) _ = V
  refine ⟨show (0 : Int) < 30 ∧ (30 : Int) ≤ 1099511627776 by decide, ?_⟩
  refine cut_at hV ⟨[(5, .ptr 5 0), (6, .ptr 6 0), (8, .ptr 8 0)], [(5, .box [.int .i64 i]), (6, .box [.own 13000 0 (el1 i).length]), (8, .box [.int .i64 M]), (13000, .row tNode (el1 i) false)]⟩ ?_ (Ent_of [(5, 5), (6, 6), (8, 8), (13000, 13000)] rfl ?_ ?_)
  rotate_left
  · simp only [go_sem, reduceIte, Nat.reduceBEq, Nat.reduceMul, reduceCtorEq, Nat.reduceAdd, Nat.reduceEqDiff, decide_eq_true_eq, decide_eq_false_iff_not, Bool.not_eq_true', Bool.not_eq_false', Bool.and_eq_true, Bool.or_eq_true, Bool.and_eq_false_iff, Bool.or_eq_false_iff, Bool.cond_true_left, Bool.cond_false_right, Bool.cond_true_right, Bool.cond_false_left, Bool.or_false, Bool.and_true]
  · simp only [go_sem, reduceIte, Nat.reduceBEq, Nat.reduceMul, reduceCtorEq, Nat.reduceAdd, Nat.reduceEqDiff, decide_eq_true_eq, decide_eq_false_iff_not, Bool.not_eq_true', Bool.not_eq_false', Bool.and_eq_true, Bool.or_eq_true, Bool.and_eq_false_iff, Bool.or_eq_false_iff, Bool.cond_true_left, Bool.cond_false_right, Bool.cond_true_right, Bool.cond_false_left, Bool.or_false, Bool.and_true]
  clear hV V
  simp (maxSteps := 10000000) only [c20_9, go_sem, reduceIte, Nat.reduceBEq, Nat.reduceMul, reduceCtorEq, Nat.reduceAdd, Nat.reduceEqDiff, decide_eq_true_eq, decide_eq_false_iff_not, Bool.not_eq_true', Bool.not_eq_false', Bool.and_eq_true, Bool.or_eq_true, Bool.and_eq_false_iff, Bool.or_eq_false_iff, Bool.cond_true_left, Bool.cond_false_right, Bool.cond_true_right, Bool.cond_false_left, Bool.or_false, Bool.and_true, inR]
  refine loop_rule (β := Nat) (fun j => ⟨[(5, .ptr 5 0), (6, .ptr 6 0), (8, .ptr 8 0), (9, .int .i64 j)], [(5, .box [.int .i64 i]), (6, .box [.own 13000 0 (propsN j (el1 i)).length]), (8, .box [.int .i64 M]), (13000, .row tNode (propsN j (el1 i)) false)]⟩) (fun j => j ≤ M) (fun j => M - j) 0 ?_ ?_ ?_
  · refine Ent_of [(5, 5), (6, 6), (8, 8), (13000, 13000)] rfl ?_ ?_
    · simp only [go_sem, reduceIte, Nat.reduceBEq, Nat.reduceMul, reduceCtorEq, Nat.reduceAdd, Nat.reduceEqDiff, decide_eq_true_eq, decide_eq_false_iff_not, Bool.not_eq_true', Bool.not_eq_false', Bool.and_eq_true, Bool.or_eq_true, Bool.and_eq_false_iff, Bool.or_eq_false_iff, Bool.cond_true_left, Bool.cond_false_right, Bool.cond_true_right, Bool.cond_false_left, Bool.or_false, Bool.and_true]
      exact ⟨rfl, rfl⟩
    · simp only [go_sem, reduceIte, Nat.reduceBEq, Nat.reduceMul, reduceCtorEq, Nat.reduceAdd, Nat.reduceEqDiff, decide_eq_true_eq, decide_eq_false_iff_not, Bool.not_eq_true', Bool.not_eq_false', Bool.and_eq_true, Bool.or_eq_true, Bool.and_eq_false_iff, Bool.or_eq_false_iff, Bool.cond_true_left, Bool.cond_false_right, Bool.cond_true_right, Bool.cond_false_left, Bool.or_false, Bool.and_true]
      rfl
  · exact Nat.zero_le _
  intro j hj
  have hpl := propsN_len j (el1 i)
  simp (maxSteps := 10000000) only [go_sem, reduceIte, Nat.reduceBEq, Nat.reduceMul, reduceCtorEq, Nat.reduceAdd, Nat.reduceEqDiff, decide_eq_true_eq, decide_eq_false_iff_not, Bool.not_eq_true', Bool.not_eq_false', Bool.and_eq_true, Bool.or_eq_true, Bool.and_eq_false_iff, Bool.or_eq_false_iff, Bool.cond_true_left, Bool.cond_false_right, Bool.cond_true_right, Bool.cond_false_left, Bool.or_false, Bool.and_true, inR]
  generalize hV : vc _ (C.cut c20_56) _ = V
  refine ⟨fun h => ?_, fun h => ?_⟩
  · have hp := propsOk_at q3 j (by omega)
    unfold prop0Ok at hp
    rw [Bool.and_eq_true, Bool.and_eq_true, decide_eq_true_eq] at hp
    obtain ⟨p1, p2, p3⟩ := hp
    have hn := nodeB_ok p1
    have hA : (0 : Int) ≤ 0 ∧ (0 : Int) < ((propsN j (el1 i)).length : Int) := by omega
    have hp2 : (prop2 ((propsN j (el1 i)).getD 0 (dflt tNode)) (digits j)).length ≤ 1000000 := by
      have h2 : (prop2 ((propsN j (el1 i)).getD 0 (dflt tNode)) (digits j)).length ≤ 5 := by
        unfold prop2
        split
        · exact others_len _
        · exact Nat.zero_le _
      omega
    refine ⟨hA, ⟨show (0 : Int) ≤ (j : Int) by omega, show (j : Int) < 10000000000000000000 by omega, by decide⟩, ⟨hn.2.1, hn.2.2.1⟩, by decide +kernel, fun hx => hx p2, fun _ => ⟨hA, ⟨hp2, p3⟩, by omega, Again.intro (j + 1) (Ent_of [(5, 5), (6, 6), (8, 8), (13000, 15500)] rfl ?_ ?_) (show j + 1 ≤ M by omega) (show M - (j + 1) < M - j by omega)⟩⟩
    · simp only [go_sem, reduceIte, Nat.reduceBEq, Nat.reduceMul, reduceCtorEq, Nat.reduceAdd, Nat.reduceEqDiff, decide_eq_true_eq, decide_eq_false_iff_not, Bool.not_eq_true', Bool.not_eq_false', Bool.and_eq_true, Bool.or_eq_true, Bool.and_eq_false_iff, Bool.or_eq_false_iff, Bool.cond_true_left, Bool.cond_false_right, Bool.cond_true_right, Bool.cond_false_left, Bool.or_false, Bool.and_true]
      exact ⟨rfl, rfl⟩
    · simp only [go_sem, reduceIte, Nat.reduceBEq, Nat.reduceMul, reduceCtorEq, Nat.reduceAdd, Nat.reduceEqDiff, decide_eq_true_eq, decide_eq_false_iff_not, Bool.not_eq_true', Bool.not_eq_false', Bool.and_eq_true, Bool.or_eq_true, Bool.and_eq_false_iff, Bool.or_eq_false_iff, Bool.cond_true_left, Bool.cond_false_right, Bool.cond_true_right, Bool.cond_false_left, Bool.or_false, Bool.and_true]
      rfl
  have hjM : j = M := by omega
  subst hjM
  refine cut_at hV ⟨[(5, .ptr 5 0), (6, .ptr 6 0), (8, .ptr 8 0)], [(5, .box [.int .i64 i]), (6, .box [.own 13000 0 (el2 i j).length]), (8, .box [.int .i64 j]), (13000, .row tNode (el2 i j) false)]⟩ ?_ (Ent_of [(5, 5), (6, 6), (8, 8), (13000, 13000)] rfl ?_ ?_)
  rotate_left
  · simp only [go_sem, reduceIte, Nat.reduceBEq, Nat.reduceMul, reduceCtorEq, Nat.reduceAdd, Nat.reduceEqDiff, decide_eq_true_eq, decide_eq_false_iff_not, Bool.not_eq_true', Bool.not_eq_false', Bool.and_eq_true, Bool.or_eq_true, Bool.and_eq_false_iff, Bool.or_eq_false_iff, Bool.cond_true_left, Bool.cond_false_right, Bool.cond_true_right, Bool.cond_false_left, Bool.or_false, Bool.and_true]
    exact ⟨rfl, rfl⟩
  · simp only [go_sem, reduceIte, Nat.reduceBEq, Nat.reduceMul, reduceCtorEq, Nat.reduceAdd, Nat.reduceEqDiff, decide_eq_true_eq, decide_eq_false_iff_not, Bool.not_eq_true', Bool.not_eq_false', Bool.and_eq_true, Bool.or_eq_true, Bool.and_eq_false_iff, Bool.or_eq_false_iff, Bool.cond_true_left, Bool.cond_false_right, Bool.cond_true_right, Bool.cond_false_left, Bool.or_false, Bool.and_true]
  clear hV V
  simp (maxSteps := 10000000) only [c20_56, go_sem, reduceIte, Nat.reduceBEq, Nat.reduceMul, reduceCtorEq, Nat.reduceAdd, Nat.reduceEqDiff, decide_eq_true_eq, decide_eq_false_iff_not, Bool.not_eq_true', Bool.not_eq_false', Bool.and_eq_true, Bool.or_eq_true, Bool.and_eq_false_iff, Bool.or_eq_false_iff, Bool.cond_true_left, Bool.cond_false_right, Bool.cond_true_right, Bool.cond_false_left, Bool.or_false, Bool.and_true, inR]
  generalize hV : vc _ (C.cut c20_13) _ = V
  refine ⟨⟨by omega, by decide, by decide, q5⟩, ?_⟩
  refine cut_at hV ⟨[(5, .ptr 5 0), (6, .ptr 6 0), (8, .ptr 8 0)], [(5, .box [.int .i64 i]), (6, .box [.own 15700 0 (el3 i j).length]), (8, .box [.int .i64 j]), (15700, .row tNode (el3 i j) false)]⟩ ?_ (Ent_of [(5, 5), (6, 6), (8, 8), (15700, 15700)] rfl ?_ ?_)
  rotate_left
  · simp only [go_sem, reduceIte, Nat.reduceBEq, Nat.reduceMul, reduceCtorEq, Nat.reduceAdd, Nat.reduceEqDiff, decide_eq_true_eq, decide_eq_false_iff_not, Bool.not_eq_true', Bool.not_eq_false', Bool.and_eq_true, Bool.or_eq_true, Bool.and_eq_false_iff, Bool.or_eq_false_iff, Bool.cond_true_left, Bool.cond_false_right, Bool.cond_true_right, Bool.cond_false_left, Bool.or_false, Bool.and_true]
    exact ⟨rfl, rfl⟩
  · simp only [go_sem, reduceIte, Nat.reduceBEq, Nat.reduceMul, reduceCtorEq, Nat.reduceAdd, Nat.reduceEqDiff, decide_eq_true_eq, decide_eq_false_iff_not, Bool.not_eq_true', Bool.not_eq_false', Bool.and_eq_true, Bool.or_eq_true, Bool.and_eq_false_iff, Bool.or_eq_false_iff, Bool.cond_true_left, Bool.cond_false_right, Bool.cond_true_right, Bool.cond_false_left, Bool.or_false, Bool.and_true]
  clear hV V
  simp (maxSteps := 10000000) only [c20_13, go_sem, reduceIte, Nat.reduceBEq, Nat.reduceMul, reduceCtorEq, Nat.reduceAdd, Nat.reduceEqDiff, decide_eq_true_eq, decide_eq_false_iff_not, Bool.not_eq_true', Bool.not_eq_false', Bool.and_eq_true, Bool.or_eq_true, Bool.and_eq_false_iff, Bool.or_eq_false_iff, Bool.cond_true_left, Bool.cond_false_right, Bool.cond_true_right, Bool.cond_false_left, Bool.or_false, Bool.and_true, inR]
  generalize el3 i j = ns at *
  refine loop_rule (β := Nat) (fun t => ⟨[(5, .ptr 5 0), (6, .ptr 6 0), (8, .ptr 8 0), (13, .int .i64 t)], [(5, .box [.int .i64 i]), (6, .box [.own 15700 0 ns.length]), (8, .box [.int .i64 j]), (15700, .row tNode ns false)]⟩) (fun t => t ≤ i) (fun t => i - t) 0 ?_ ?_ ?_
  · refine Ent_of [(5, 5), (6, 6), (8, 8), (15700, 15700)] rfl ?_ ?_
    · simp only [go_sem, reduceIte, Nat.reduceBEq, Nat.reduceMul, reduceCtorEq, Nat.reduceAdd, Nat.reduceEqDiff, decide_eq_true_eq, decide_eq_false_iff_not, Bool.not_eq_true', Bool.not_eq_false', Bool.and_eq_true, Bool.or_eq_true, Bool.and_eq_false_iff, Bool.or_eq_false_iff, Bool.cond_true_left, Bool.cond_false_right, Bool.cond_true_right, Bool.cond_false_left, Bool.or_false, Bool.and_true]
    · simp only [go_sem, reduceIte, Nat.reduceBEq, Nat.reduceMul, reduceCtorEq, Nat.reduceAdd, Nat.reduceEqDiff, decide_eq_true_eq, decide_eq_false_iff_not, Bool.not_eq_true', Bool.not_eq_false', Bool.and_eq_true, Bool.or_eq_true, Bool.and_eq_false_iff, Bool.or_eq_false_iff, Bool.cond_true_left, Bool.cond_false_right, Bool.cond_true_right, Bool.cond_false_left, Bool.or_false, Bool.and_true]
      rfl
  · exact Nat.zero_le _
  intro t ht
  simp (maxSteps := 10000000) only [go_sem, reduceIte, Nat.reduceBEq, Nat.reduceMul, reduceCtorEq, Nat.reduceAdd, Nat.reduceEqDiff, decide_eq_true_eq, decide_eq_false_iff_not, Bool.not_eq_true', Bool.not_eq_false', Bool.and_eq_true, Bool.or_eq_true, Bool.and_eq_false_iff, Bool.or_eq_false_iff, Bool.cond_true_left, Bool.cond_false_right, Bool.cond_true_right, Bool.cond_false_left, Bool.or_false, Bool.and_true, inR]
  generalize hV : vc _ (C.cut c20_109) _ = V
  have q6 : ns.length = i := q6
  refine ⟨fun h => ?_, fun h => ?_⟩
  · have htl : t < ns.length := by omega
    obtain ⟨f1, f2, f3, f4, f5⟩ := elA_at q7 htl
    have hA : (0 : Int) ≤ (t : Int) ∧ (t : Int) < ((ns.length : Nat) : Int) := by omega
    refine ⟨hA, fun _ => hA, fun _ => hA, fun _ => by omega, fun _ => hA, fun _ => by omega, fun _ => hA, by decide +kernel, fun hb => ?_, fun _ => ⟨by omega, Again.intro (t + 1) (Ent_of [(5, 5), (6, 6), (8, 8), (15700, 15700)] rfl ?_ ?_) (show t + 1 ≤ i by omega) (show i - (t + 1) < i - t by omega)⟩⟩
    · rcases hb with (((hb | hb) | hb) | hb) | hb
      · exact hb f1
      · have f2' := f2
        unfold nRole at f2'
        rw [hb] at f2'
        cases f2'
      · exact hb f3
      · exact hb f4
      · exact hb f5
    · simp only [go_sem, reduceIte, Nat.reduceBEq, Nat.reduceMul, reduceCtorEq, Nat.reduceAdd, Nat.reduceEqDiff, decide_eq_true_eq, decide_eq_false_iff_not, Bool.not_eq_true', Bool.not_eq_false', Bool.and_eq_true, Bool.or_eq_true, Bool.and_eq_false_iff, Bool.or_eq_false_iff, Bool.cond_true_left, Bool.cond_false_right, Bool.cond_true_right, Bool.cond_false_left, Bool.or_false, Bool.and_true]
    · simp only [go_sem, reduceIte, Nat.reduceBEq, Nat.reduceMul, reduceCtorEq, Nat.reduceAdd, Nat.reduceEqDiff, decide_eq_true_eq, decide_eq_false_iff_not, Bool.not_eq_true', Bool.not_eq_false', Bool.and_eq_true, Bool.or_eq_true, Bool.and_eq_false_iff, Bool.or_eq_false_iff, Bool.cond_true_left, Bool.cond_false_right, Bool.cond_true_right, Bool.cond_false_left, Bool.or_false, Bool.and_true]
      rfl
  refine cut_at hV ⟨[(5, .ptr 5 0), (6, .ptr 6 0), (8, .ptr 8 0)], [(5, .box [.int .i64 i]), (6, .box [.own 15700 0 ns.length]), (8, .box [.int .i64 j]), (15700, .row tNode ns false)]⟩ ?_ (Ent_of [(5, 5), (6, 6), (8, 8), (15700, 15700)] rfl ?_ ?_)
  rotate_left
  · simp only [go_sem, reduceIte, Nat.reduceBEq, Nat.reduceMul, reduceCtorEq, Nat.reduceAdd, Nat.reduceEqDiff, decide_eq_true_eq, decide_eq_false_iff_not, Bool.not_eq_true', Bool.not_eq_false', Bool.and_eq_true, Bool.or_eq_true, Bool.and_eq_false_iff, Bool.or_eq_false_iff, Bool.cond_true_left, Bool.cond_false_right, Bool.cond_true_right, Bool.cond_false_left, Bool.or_false, Bool.and_true]
  · simp only [go_sem, reduceIte, Nat.reduceBEq, Nat.reduceMul, reduceCtorEq, Nat.reduceAdd, Nat.reduceEqDiff, decide_eq_true_eq, decide_eq_false_iff_not, Bool.not_eq_true', Bool.not_eq_false', Bool.and_eq_true, Bool.or_eq_true, Bool.and_eq_false_iff, Bool.or_eq_false_iff, Bool.cond_true_left, Bool.cond_false_right, Bool.cond_true_right, Bool.cond_false_left, Bool.or_false, Bool.and_true]
  clear hV V
  simp (maxSteps := 10000000) only [c20_109, go_sem, reduceIte, Nat.reduceBEq, Nat.reduceMul, reduceCtorEq, Nat.reduceAdd, Nat.reduceEqDiff, decide_eq_true_eq, decide_eq_false_iff_not, Bool.not_eq_true', Bool.not_eq_false', Bool.and_eq_true, Bool.or_eq_true, Bool.and_eq_false_iff, Bool.or_eq_false_iff, Bool.cond_true_left, Bool.cond_false_right, Bool.cond_true_right, Bool.cond_false_left, Bool.or_false, Bool.and_true, inR]
  generalize hV : vc _ (C.cut c20_112) _ = V
  intro h3
  have q8' := q8.resolve_left (by omega)
  obtain ⟨r1, r2, r3⟩ := q8'
  refine cut_at hV ⟨[(5, .ptr 5 0), (6, .ptr 6 0), (8, .ptr 8 0)], [(5, .box [.int .i64 i]), (6, .box [.own 15700 0 ns.length]), (8, .box [.int .i64 j]), (15700, .row tNode ns false)]⟩ ?_ (Ent_of [(5, 5), (6, 6), (8, 8), (15700, 15700)] rfl ?_ ?_)
  rotate_left
  · simp only [go_sem, reduceIte, Nat.reduceBEq, Nat.reduceMul, reduceCtorEq, Nat.reduceAdd, Nat.reduceEqDiff, decide_eq_true_eq, decide_eq_false_iff_not, Bool.not_eq_true', Bool.not_eq_false', Bool.and_eq_true, Bool.or_eq_true, Bool.and_eq_false_iff, Bool.or_eq_false_iff, Bool.cond_true_left, Bool.cond_false_right, Bool.cond_true_right, Bool.cond_false_left, Bool.or_false, Bool.and_true]
  · simp only [go_sem, reduceIte, Nat.reduceBEq, Nat.reduceMul, reduceCtorEq, Nat.reduceAdd, Nat.reduceEqDiff, decide_eq_true_eq, decide_eq_false_iff_not, Bool.not_eq_true', Bool.not_eq_false', Bool.and_eq_true, Bool.or_eq_true, Bool.and_eq_false_iff, Bool.or_eq_false_iff, Bool.cond_true_left, Bool.cond_false_right, Bool.cond_true_right, Bool.cond_false_left, Bool.or_false, Bool.and_true]
  clear hV V
  simp (maxSteps := 10000000) only [c20_112, go_sem, reduceIte, Nat.reduceBEq, Nat.reduceMul, reduceCtorEq, Nat.reduceAdd, Nat.reduceEqDiff, decide_eq_true_eq, decide_eq_false_iff_not, Bool.not_eq_true', Bool.not_eq_false', Bool.and_eq_true, Bool.or_eq_true, Bool.and_eq_false_iff, Bool.or_eq_false_iff, Bool.cond_true_left, Bool.cond_false_right, Bool.cond_true_right, Bool.cond_false_left, Bool.or_false, Bool.and_true, inR]
  exact ⟨⟨show (i : Int) = (ns.length : Int) by omega, by omega, by omega, show (0 : Int) ≤ (j : Int) by omega, show (j : Int) ≤ 1000 by omega, r1⟩, r3⟩
end Go.AM
