import Derived.Test.YtbcbgfkojmligaaHAM
import Derived.Test.YtbcbgfkojmligaaAL
import Derived.KernelRfl
import Derived.Test.YtbcbgfkojmligaaProg
/- What functions of the program answer, each under the conditions that its contract names. -/
set_option linter.unusedVariables false
set_option linter.unusedSimpArgs false
set_option maxRecDepth 100000
namespace Go.AM
def c88 : C := (.seq (.reg [⟨(some 4), .mv, [.c (.sl tNode [] true)], none⟩])
 (.seq (.seq (.reg [⟨(some 5), .mv, [.c (.int .i64 0)], none⟩])
 (.block 0 (.loop (.seq (.seq (.reg [⟨(some 10), .mv, [.t 5], none⟩,
  ⟨(some 11), .mv, [.t 1], none⟩,
  ⟨(some 12), (.bin .lss), [.t 10, .t 11], none⟩])
 (.cond (.t 12) .skip (.exit 0)))
 (.seq (.block 1 (.seq (.reg [⟨(some 6), .mv, [.c (.sl tMsg [] true)], none⟩])
 (.seq (.seq (.reg [⟨(some 7), .mv, [.c (.int .i64 0)], none⟩])
 (.block 2 (.loop (.seq (.seq (.reg [⟨(some 15), .mv, [.t 7], none⟩,
  ⟨(some 16), .mv, [.t 0], none⟩,
  ⟨(some 17), .len, [.t 16], none⟩,
  ⟨(some 18), (.bin .lss), [.t 15, .t 17], none⟩])
 (.cond (.t 18) .skip (.exit 2)))
 (.seq (.block 3 (.seq (.reg [⟨(some 22), .mv, [.t 0], none⟩,
  ⟨(some 23), .mv, [.t 7], none⟩,
  ⟨(some 24), (.idx 15), [.t 22, .t 23], none⟩,
  ⟨(some 25), (.load 15 true), [.t 24], none⟩,
  ⟨(some 26), (.call 78), [.t 25], none⟩,
  ⟨(some 21), .mv, [.t 26], none⟩,
  ⟨(some 27), (.ext 0), [.t 21], none⟩,
  ⟨(some 28), (.ext 1), [.t 21], none⟩,
  ⟨(some 8), (.alloc [.int .i64 0, .int .i64 0, .int .i64 0, .int .i64 0, .int .i64 0, .int .i64 0, .str ⟨#[]⟩, .sl tEntry [] true, .int .i64 0, .int .i64 0, .int .i64 0, .sl .bool [] true, .sl tI [] true, .sl tI [] true, .int .i64 0]), [], none⟩,
  ⟨none, (.store 15), [.t 8, .t 27], none⟩,
  ⟨(some 9), .mv, [.t 28], none⟩])
 (.regd [⟨(some 29), .mv, [.t 0], none⟩,
  ⟨(some 30), .mv, [.t 7], none⟩,
  ⟨(some 31), (.load 15 true), [.t 8], none⟩,
  ⟨(some 32), .mv, [.t 6], none⟩,
  ⟨(some 33), .mv, [.t 9], none⟩,
  ⟨(some 34), (.app 10 104), [.t 32, .t 33], none⟩,
  ⟨(some 35), (.idx 15), [.t 29, .t 30], none⟩,
  ⟨none, (.store 15), [.t 35, .t 31], none⟩,
  ⟨(some 6), .mv, [.t 34], none⟩] [0, 0, 0, 0, 0, 24, 39, 103, 255])))
 (.reg [⟨(some 19), .mv, [.t 7], none⟩,
  ⟨(some 20), (.bin .add), [.t 19, .c (.int .i64 1)], none⟩,
  ⟨(some 7), .mv, [.t 20], none⟩]))))))
 (.reg [⟨(some 36), .mv, [.t 0], none⟩,
  ⟨(some 37), .mv, [.t 6], none⟩,
  ⟨(some 38), (.call 89), [.t 36, .t 37], none⟩,
  ⟨(some 0), .mv, [.t 38], none⟩]))))
 (.reg [⟨(some 13), .mv, [.t 5], none⟩,
  ⟨(some 14), (.bin .add), [.t 13, .c (.int .i64 1)], none⟩,
  ⟨(some 5), .mv, [.t 14], none⟩]))))))
 (.seq (.reg [⟨(some 39), .mv, [.t 0], none⟩,
  ⟨(some 4), .mv, [.t 39], none⟩])
 .ret)))
theorem comp88 : compC Go.Proofs.Try.prog ttL 40 [] (match Go.Proofs.Try.f88.body with | some b => b | none => .skip) = some (c88) := by kernel_rfl
def c89 : C := (.seq (.reg [⟨(some 4), .mv, [.c (.sl tNode [] true)], none⟩])
 (.seq (.seq (.reg [⟨(some 5), .mv, [.c (.int .i64 0)], none⟩])
 (.block 0 (.loop (.seq (.seq (.reg [⟨(some 9), .mv, [.t 5], none⟩,
  ⟨(some 10), .mv, [.t 1], none⟩,
  ⟨(some 11), .len, [.t 10], none⟩,
  ⟨(some 12), (.bin .lss), [.t 9, .t 11], none⟩,
  ⟨(some 13), .mv, [.t 12], none⟩,
  ⟨(some 14), .mv, [.t 5], (some (13, true))⟩,
  ⟨(some 15), (.bin .lss), [.t 14, .c (.int .i64 500)], (some (13, true))⟩,
  ⟨(some 16), .pick, [.t 13, .t 15, .c (.bool false)], none⟩])
 (.cond (.t 16) .skip (.exit 0)))
 (.seq (.block 1 (.seq (.reg [⟨(some 19), .mv, [.t 1], none⟩,
  ⟨(some 20), .mv, [.t 5], none⟩,
  ⟨(some 21), (.idx 10), [.t 19, .t 20], none⟩,
  ⟨(some 22), (.fld 2), [.t 21], none⟩,
  ⟨(some 23), (.load 1 false), [.t 22], none⟩,
  ⟨(some 6), .mv, [.t 23], none⟩])
 (.seq (.reg [⟨(some 24), .mv, [.t 6], none⟩,
  ⟨(some 25), (.bin .geq), [.t 24, .c (.int .i64 0)], none⟩,
  ⟨(some 26), .mv, [.t 25], none⟩,
  ⟨(some 27), .mv, [.t 6], (some (26, true))⟩,
  ⟨(some 28), .mv, [.t 0], (some (26, true))⟩,
  ⟨(some 29), .len, [.t 28], (some (26, true))⟩,
  ⟨(some 30), (.bin .lss), [.t 27, .t 29], (some (26, true))⟩,
  ⟨(some 31), .pick, [.t 26, .t 30, .c (.bool false)], none⟩])
 (.cond (.t 31) (.seq (.regd [⟨(some 33), .mv, [.t 0], none⟩,
  ⟨(some 34), .mv, [.t 6], none⟩,
  ⟨(some 35), (.idx 15), [.t 33, .t 34], none⟩,
  ⟨(some 36), (.load 15 true), [.t 35], none⟩,
  ⟨(some 37), .mv, [.t 1], none⟩,
  ⟨(some 38), .mv, [.t 5], none⟩,
  ⟨(some 39), (.idx 10), [.t 37, .t 38], none⟩,
  ⟨(some 40), (.load 10 true), [.t 39], none⟩,
  ⟨(some 41), (.call 80), [.t 36, .t 40], none⟩,
  ⟨(some 32), .mv, [.t 41], none⟩,
  ⟨(some 42), (.ext 0), [.t 32], none⟩,
  ⟨(some 43), (.ext 1), [.t 32], none⟩,
  ⟨(some 7), (.alloc [.int .i64 0, .int .i64 0, .int .i64 0, .int .i64 0, .int .i64 0, .int .i64 0, .str ⟨#[]⟩, .sl tEntry [] true, .int .i64 0, .int .i64 0, .int .i64 0, .sl .bool [] true, .sl tI [] true, .sl tI [] true, .int .i64 0]), [], none⟩,
  ⟨none, (.store 15), [.t 7, .t 42], none⟩,
  ⟨(some 8), .mv, [.t 43], none⟩] [0, 0, 3, 4, 0, 0, 48, 64, 136, 256, 512, 512, 0, 6143, 16383])
 (.regd [⟨(some 44), .mv, [.t 0], none⟩,
  ⟨(some 45), .mv, [.t 6], none⟩,
  ⟨(some 46), (.load 15 true), [.t 7], none⟩,
  ⟨(some 47), .mv, [.t 1], none⟩,
  ⟨(some 48), .mv, [.t 8], none⟩,
  ⟨(some 49), (.app 10 104), [.t 47, .t 48], none⟩,
  ⟨(some 50), (.idx 15), [.t 44, .t 45], none⟩,
  ⟨none, (.store 15), [.t 50, .t 46], none⟩,
  ⟨(some 1), .mv, [.t 49], none⟩] [0, 0, 0, 0, 0, 24, 39, 103, 255])) .skip))))
 (.reg [⟨(some 17), .mv, [.t 5], none⟩,
  ⟨(some 18), (.bin .add), [.t 17, .c (.int .i64 1)], none⟩,
  ⟨(some 5), .mv, [.t 18], none⟩]))))))
 (.seq (.reg [⟨(some 51), .mv, [.t 0], none⟩,
  ⟨(some 4), .mv, [.t 51], none⟩])
 .ret)))
theorem comp89 : compC Go.Proofs.Try.prog ttL 52 [] (match Go.Proofs.Try.f89.body with | some b => b | none => .skip) = some (c89) := by kernel_rfl
end Go.AM
set_option maxRecDepth 100000
set_option maxHeartbeats 40000000
set_option linter.unusedSimpArgs false
namespace Go.AM
open Go.Proofs
attribute [local congr] vc_congr evOps_congr evTab_congr bind_congr condK_congr tabK_congr
def fn89 : Fn := { a := .pair (.olist tNode) (.pair (.olist tMsg) .unit), r := .pair (.olist tNode) .unit, pre := fun x => (List.length (α := Msg) x.2.1) ≤ 1000000 ∧ dlvOk 500 x.1 x.2.1 = true, f := fun x => (dlv 500 x.1 x.2.1, ()), kd := some [.own, .own] }
theorem h89  : HoldsX Try.prog 89 (fn89) := by
  refine HoldsM.x (ms := [.own, .own]) (HoldsM.of_vc (T := [(80, fn80)]) (TT := ttL) (rowAt := []) (c := c89) (ros := [.t 4]) (.cons _ h80 (.nil _)) mixed Try.func89 (by decide +kernel) (by rfl) comp89 (by kernel_rfl) rfl rfl rfl ?_) rfl
  rintro ⟨(ns : List Node), (l : List Msg), _⟩ hpre b
  simp only [fn89] at hpre ⊢
  simp only [c89, fn80, go_sem, reduceIte, Nat.reduceBEq, Nat.reduceMul, reduceCtorEq, Nat.reduceAdd, Nat.reduceEqDiff, decide_eq_true_eq, decide_eq_false_iff_not, Bool.not_eq_true', Bool.not_eq_false', Bool.and_eq_true, Bool.or_eq_true, Bool.and_eq_false_iff, Bool.or_eq_false_iff, Bool.cond_true_left, Bool.cond_false_right, Bool.cond_true_right, Bool.cond_false_left, Bool.or_false, Bool.and_true, inR]
  generalize hR : dlv 500 ns l = R
  have hok0 := hpre.2
  have hl0 := hpre.1
  clear hpre
  refine loop_rule (β := (Nat × Nat) × List Node × List Msg) (fun p => ⟨[(0, .own 900000000 0 p.2.1.length), (1, .own 900001000 0 p.2.2.length), (5, .int .i64 p.1.1)], [(900000000, .row tNode p.2.1 false), (900001000, .row tMsg p.2.2 false)]⟩)
    (fun p => p.1.1 + p.1.2 = 500 ∧ p.1.1 ≤ p.2.2.length ∧ p.2.2.length ≤ 1000000 + p.1.1 * 1048576 ∧ dlvOk p.1.2 p.2.1 (p.2.2.drop p.1.1) = true ∧ dlv p.1.2 p.2.1 (p.2.2.drop p.1.1) = R) (fun p => p.1.2) ((0, 500), ns, l) ?_ ?_ ?_
  · refine Ent_of [(900000000, 900000000), (900001000, 900001000)] rfl ?_ ?_
    · simp only [go_sem, reduceIte, Nat.reduceBEq, Nat.reduceMul, reduceCtorEq, Nat.reduceAdd, Nat.reduceEqDiff, decide_eq_true_eq, decide_eq_false_iff_not, Bool.not_eq_true', Bool.not_eq_false', Bool.and_eq_true, Bool.or_eq_true, Bool.and_eq_false_iff, Bool.or_eq_false_iff, Bool.cond_true_left, Bool.cond_false_right, Bool.cond_true_right, Bool.cond_false_left, Bool.or_false, Bool.and_true]
    · simp only [go_sem, reduceIte, Nat.reduceBEq, Nat.reduceMul, reduceCtorEq, Nat.reduceAdd, Nat.reduceEqDiff, decide_eq_true_eq, decide_eq_false_iff_not, Bool.not_eq_true', Bool.not_eq_false', Bool.and_eq_true, Bool.or_eq_true, Bool.and_eq_false_iff, Bool.or_eq_false_iff, Bool.cond_true_left, Bool.cond_false_right, Bool.cond_true_right, Bool.cond_false_left, Bool.or_false, Bool.and_true]
      rfl
  · refine ⟨rfl, Nat.zero_le _, ?_, hok0, hR⟩
    show l.length ≤ 1000000 + 0 * 1048576
    omega
  rintro ⟨⟨i, d⟩, ms, q⟩ ⟨hi, hiq, hql, hok, hd⟩
  have hi : i + d = 500 := hi
  have hiq : i ≤ q.length := hiq
  have hql : q.length ≤ 1000000 + i * 1048576 := hql
  have hok : dlvOk d ms (q.drop i) = true := hok
  have hd : dlv d ms (q.drop i) = R := hd
  simp (maxSteps := 10000000) only [go_sem, reduceIte, Nat.reduceBEq, Nat.reduceMul, reduceCtorEq, Nat.reduceAdd, Nat.reduceEqDiff, decide_eq_true_eq, decide_eq_false_iff_not, Bool.not_eq_true', Bool.not_eq_false', Bool.and_eq_true, Bool.or_eq_true, Bool.and_eq_false_iff, Bool.or_eq_false_iff, Bool.cond_true_left, Bool.cond_false_right, Bool.cond_true_right, Bool.cond_false_left, Bool.or_false, Bool.and_true, inR]
  refine ⟨fun h => ?_, fun h => ?_⟩
  · have hil : i < q.length := by omega
    obtain ⟨e, rfl⟩ : ∃ e, d = e + 1 := ⟨d - 1, by omega⟩
    have hdrop : q.drop i = q[i] :: q.drop (i + 1) := List.drop_eq_getElem_cons hil
    have hget : q.getD i (dflt tMsg) = q[i] := by rw [List.getD_eq_getElem?_getD, List.getElem?_eq_getElem hil]; rfl
    rw [hdrop] at hok hd
    rw [hget]
    generalize q[i] = m at *
    have ht : m.2.2.1 = mTo m := rfl
    simp only [ht]
    have hiq2 : (0 : Int) ≤ (i : Int) ∧ (i : Int) < (q.length : Int) := by omega
    unfold dlv at hd
    unfold dlvOk at hok
    refine ⟨hiq2, fun hc => ?_, fun hc => ?_⟩
    · rw [if_pos hc] at hok hd
      rw [Bool.and_eq_true] at hok
      have hs2 : (step2 (ms.getD (mTo m).toNat (dflt tNode)) m).length ≤ 1048576 := step2_len _ m
      refine ⟨hiq2, (nodeB_ok hok.1).1, by decide +kernel, ⟨by omega, by omega⟩, hc, by decide +kernel, by omega, Again.intro ((i + 1, e), ms.set (mTo m).toNat (step1 (ms.getD (mTo m).toNat (dflt tNode)) m), q ++ step2 (ms.getD (mTo m).toNat (dflt tNode)) m) (Ent_of [(900000000, 900000000), (900001000, 49)] rfl ?_ ?_) ⟨by show i + 1 + e = 500; omega, ?_, ?_, ?_, ?_⟩ (show e < e + 1 by omega)⟩
      · simp only [go_sem, reduceIte, Nat.reduceBEq, Nat.reduceMul, reduceCtorEq, Nat.reduceAdd, Nat.reduceEqDiff, decide_eq_true_eq, decide_eq_false_iff_not, Bool.not_eq_true', Bool.not_eq_false', Bool.and_eq_true, Bool.or_eq_true, Bool.and_eq_false_iff, Bool.or_eq_false_iff, Bool.cond_true_left, Bool.cond_false_right, Bool.cond_true_right, Bool.cond_false_left, Bool.or_false, Bool.and_true]
      · simp only [go_sem, reduceIte, Nat.reduceBEq, Nat.reduceMul, reduceCtorEq, Nat.reduceAdd, Nat.reduceEqDiff, decide_eq_true_eq, decide_eq_false_iff_not, Bool.not_eq_true', Bool.not_eq_false', Bool.and_eq_true, Bool.or_eq_true, Bool.and_eq_false_iff, Bool.or_eq_false_iff, Bool.cond_true_left, Bool.cond_false_right, Bool.cond_true_right, Bool.cond_false_left, Bool.or_false, Bool.and_true]
        rfl
      · show i + 1 ≤ (q ++ _).length
        rw [List.length_append]; omega
      · show (q ++ _).length ≤ 1000000 + (i + 1) * 1048576
        rw [List.length_append]; omega
      · show dlvOk e _ ((q ++ _).drop (i + 1)) = true
        rw [List.drop_append_of_le_length (by omega)]; exact hok.2
      · show dlv e _ ((q ++ _).drop (i + 1)) = R
        rw [List.drop_append_of_le_length (by omega)]; exact hd
    · have hc' : ¬ (0 ≤ mTo m ∧ mTo m < ms.length) := by omega
      rw [if_neg hc'] at hok hd
      refine ⟨by omega, Again.intro ((i + 1, e), ms, q) (Ent_of [(900000000, 900000000), (900001000, 900001000)] rfl ?_ ?_) ⟨?_, ?_, ?_, hok, hd⟩ (show e < e + 1 by omega)⟩
      · simp only [go_sem, reduceIte, Nat.reduceBEq, Nat.reduceMul, reduceCtorEq, Nat.reduceAdd, Nat.reduceEqDiff, decide_eq_true_eq, decide_eq_false_iff_not, Bool.not_eq_true', Bool.not_eq_false', Bool.and_eq_true, Bool.or_eq_true, Bool.and_eq_false_iff, Bool.or_eq_false_iff, Bool.cond_true_left, Bool.cond_false_right, Bool.cond_true_right, Bool.cond_false_left, Bool.or_false, Bool.and_true]
      · simp only [go_sem, reduceIte, Nat.reduceBEq, Nat.reduceMul, reduceCtorEq, Nat.reduceAdd, Nat.reduceEqDiff, decide_eq_true_eq, decide_eq_false_iff_not, Bool.not_eq_true', Bool.not_eq_false', Bool.and_eq_true, Bool.or_eq_true, Bool.and_eq_false_iff, Bool.or_eq_false_iff, Bool.cond_true_left, Bool.cond_false_right, Bool.cond_true_right, Bool.cond_false_left, Bool.or_false, Bool.and_true]
        rfl
      · show i + 1 + e = 500; omega
      · show i + 1 ≤ q.length; omega
      · exact Nat.le_trans hql (Nat.add_le_add_left (Nat.mul_le_mul_right _ (Nat.le_succ i)) _)
  · have hend : dlv d ms (q.drop i) = ms := by
      by_cases h5 : d = 0
      · rw [h5]; rfl
      · have : i = q.length := by omega
        obtain ⟨e, rfl⟩ : ∃ e, d = e + 1 := ⟨d - 1, by omega⟩
        rw [this, List.drop_length]
        rfl
    rw [hR, ← hd, hend]
    rfl
end Go.AM

set_option maxRecDepth 100000
set_option maxHeartbeats 40000000
set_option linter.unusedSimpArgs false
namespace Go.AM
open Go.Proofs
attribute [local congr] vc_congr evOps_congr evTab_congr bind_congr condK_congr tabK_congr
theorem dlv_len : ∀ (d : Nat) (ns : List Node) (l : List Msg), (dlv d ns l).length = ns.length := by
  intro d
  induction d with
  | zero => intro ns l; rfl
  | succ d ih =>
    intro ns l
    cases l with
    | nil => rfl
    | cons m l =>
      unfold dlv
      split
      · rw [ih, List.length_set]
      · exact ih _ _
theorem set_mix {α : Type} (f : α → α) (l : List α) {i : Nat} (hi : i < l.length) : ((l.take i).map f ++ l.drop i).set i (f l[i]) = (l.take (i + 1)).map f ++ l.drop (i + 1) := by
  have e : ((l.take i).map f).length = i := by rw [List.length_map, List.length_take]; omega
  rw [List.set_append_right _ _ (by omega), e, Nat.sub_self, List.drop_eq_getElem_cons hi, List.set_cons_zero, List.take_add_one, List.getElem?_eq_getElem hi, List.map_append, List.append_assoc]
  rfl
theorem get_mix {α : Type} (f : α → α) (l : List α) {i : Nat} (hi : i < l.length) (d : α) : ((l.take i).map f ++ l.drop i).getD i d = l[i] := by
  have e : ((l.take i).map f).length = i := by rw [List.length_map, List.length_take]; omega
  rw [List.getD_eq_getElem?_getD, List.getElem?_append_right (by omega), e, Nat.sub_self, List.getElem?_drop, Nat.add_zero, List.getElem?_eq_getElem hi]
  rfl
theorem len_mix {α : Type} (f : α → α) (l : List α) (i : Nat) : ((l.take i).map f ++ l.drop i).length = l.length := by
  rw [List.length_append, List.length_map, List.length_take, List.length_drop]; omega
theorem tks2_succ {l : List Node} {i : Nat} (hi : i < l.length) : tks2 (l.take (i + 1)) = tks2 (l.take i) ++ tick2 l[i] := by
  unfold tks2
  rw [List.take_add_one, List.getElem?_eq_getElem hi, List.flatMap_append]
  simp
theorem tick2_len (n : Node) : (tick2 n).length ≤ 10 := by
  unfold tick2
  split
  · have := others_len (setClock n 0); omega
  split
  · exact Nat.zero_le _
  have h1 := start2_len (setClock n (nClock n + 1))
  split
  · have h2 : (lead2 (start1 (setClock n (nClock n + 1)))).length ≤ 5 := others_len _
    rw [List.length_append]; omega
  · omega
def fn88 : Fn := { a := .pair (.olist tNode) (.pair tI .unit), r := .pair (.olist tNode) .unit, pre := fun x => (List.length (α := Node) x.1) ≤ 100 ∧ 0 ≤ x.2.1 ∧ x.2.1 ≤ 1000 ∧ runsOk x.2.1.toNat x.1 = true, f := fun x => (runs x.2.1.toNat x.1, ()), kd := some [.own, .no] }
theorem h88  : HoldsX Try.prog 88 (fn88) := by
  refine HoldsM.x (ms := [.own, .no]) (HoldsM.of_vc (T := [(78, fn78), (89, fn89)]) (TT := ttL) (rowAt := []) (c := c88) (ros := [.t 4]) (.cons _ h78 (.cons _ h89 (.nil _))) mixed Try.func88 (by decide +kernel) (by rfl) comp88 (by kernel_rfl) rfl rfl rfl ?_) rfl
  rintro ⟨(ns : List Node), (T : Int), _⟩ hpre b
  simp only [fn88] at hpre ⊢
  simp only [c88, fn78, fn89, go_sem, reduceIte, Nat.reduceBEq, Nat.reduceMul, reduceCtorEq, Nat.reduceAdd, Nat.reduceEqDiff, decide_eq_true_eq, decide_eq_false_iff_not, Bool.not_eq_true', Bool.not_eq_false', Bool.and_eq_true, Bool.or_eq_true, Bool.and_eq_false_iff, Bool.or_eq_false_iff, Bool.cond_true_left, Bool.cond_false_right, Bool.cond_true_right, Bool.cond_false_left, Bool.or_false, Bool.and_true, inR]
  have hT0 : 0 ≤ T := hpre.2.1
  have hT1 : T ≤ 1000 := hpre.2.2.1
  have hok0 := hpre.2.2.2
  have hl0 := hpre.1
  generalize hR : runs T.toNat ns = R
  clear hpre
  refine loop_rule (β := (Nat × Nat) × List Node) (fun p => ⟨[(0, .own 900000000 0 p.2.length), (1, .int .i64 T), (5, .int .i64 p.1.1)], [(900000000, .row tNode p.2 false)]⟩)
    (fun p => p.1.1 + p.1.2 = T.toNat ∧ p.2.length ≤ 100 ∧ runsOk p.1.2 p.2 = true ∧ runs p.1.2 p.2 = R) (fun p => p.1.2) ((0, T.toNat), ns) ?_ ?_ ?_
  · refine Ent_of [(900000000, 900000000)] rfl ?_ ?_
    · simp only [go_sem, reduceIte, Nat.reduceBEq, Nat.reduceMul, reduceCtorEq, Nat.reduceAdd, Nat.reduceEqDiff, decide_eq_true_eq, decide_eq_false_iff_not, Bool.not_eq_true', Bool.not_eq_false', Bool.and_eq_true, Bool.or_eq_true, Bool.and_eq_false_iff, Bool.or_eq_false_iff, Bool.cond_true_left, Bool.cond_false_right, Bool.cond_true_right, Bool.cond_false_left, Bool.or_false, Bool.and_true]
    · simp only [go_sem, reduceIte, Nat.reduceBEq, Nat.reduceMul, reduceCtorEq, Nat.reduceAdd, Nat.reduceEqDiff, decide_eq_true_eq, decide_eq_false_iff_not, Bool.not_eq_true', Bool.not_eq_false', Bool.and_eq_true, Bool.or_eq_true, Bool.and_eq_false_iff, Bool.or_eq_false_iff, Bool.cond_true_left, Bool.cond_false_right, Bool.cond_true_right, Bool.cond_false_left, Bool.or_false, Bool.and_true]
      rfl
  · exact ⟨Nat.zero_add _, hl0, hok0, hR⟩
  rintro ⟨⟨t, d⟩, ms⟩ ⟨ht, hl, hok, hd⟩
  have ht : t + d = T.toNat := ht
  have hl : ms.length ≤ 100 := hl
  have hok : runsOk d ms = true := hok
  have hd : runs d ms = R := hd
  simp (maxSteps := 10000000) only [go_sem, reduceIte, Nat.reduceBEq, Nat.reduceMul, reduceCtorEq, Nat.reduceAdd, Nat.reduceEqDiff, decide_eq_true_eq, decide_eq_false_iff_not, Bool.not_eq_true', Bool.not_eq_false', Bool.and_eq_true, Bool.or_eq_true, Bool.and_eq_false_iff, Bool.or_eq_false_iff, Bool.cond_true_left, Bool.cond_false_right, Bool.cond_true_right, Bool.cond_false_left, Bool.or_false, Bool.and_true, inR]
  refine ⟨fun h => ?_, fun h => ?_⟩
  · obtain ⟨e, rfl⟩ : ∃ e, d = e + 1 := ⟨d - 1, by omega⟩
    unfold runs at hd
    unfold runsOk at hok
    rw [Bool.and_eq_true, Bool.and_eq_true, List.all_eq_true] at hok
    obtain ⟨hok1, hok2, hok3⟩ := hok
    refine loop_rule (β := Nat) (fun i => ⟨[(0, .own 900000000 0 ms.length), (1, .int .i64 T), (5, .int .i64 t), (6, .own 900001000 0 (tks2 (ms.take i)).length), (7, .int .i64 i)], [(900000000, .row tNode ((ms.take i).map tick1 ++ ms.drop i) false), (900001000, .row tMsg (tks2 (ms.take i)) false)]⟩)
      (fun i => i ≤ ms.length ∧ (tks2 (ms.take i)).length ≤ i * 10) (fun i => ms.length - i) 0 ?_ ?_ ?_
    · refine Ent_of [(900000000, 900000000)] rfl ?_ ?_
      · simp only [go_sem, reduceIte, Nat.reduceBEq, Nat.reduceMul, reduceCtorEq, Nat.reduceAdd, Nat.reduceEqDiff, decide_eq_true_eq, decide_eq_false_iff_not, Bool.not_eq_true', Bool.not_eq_false', Bool.and_eq_true, Bool.or_eq_true, Bool.and_eq_false_iff, Bool.or_eq_false_iff, Bool.cond_true_left, Bool.cond_false_right, Bool.cond_true_right, Bool.cond_false_left, Bool.or_false, Bool.and_true]
        exact ⟨rfl, rfl, by decide, by decide⟩
      · simp only [go_sem, reduceIte, Nat.reduceBEq, Nat.reduceMul, reduceCtorEq, Nat.reduceAdd, Nat.reduceEqDiff, decide_eq_true_eq, decide_eq_false_iff_not, Bool.not_eq_true', Bool.not_eq_false', Bool.and_eq_true, Bool.or_eq_true, Bool.and_eq_false_iff, Bool.or_eq_false_iff, Bool.cond_true_left, Bool.cond_false_right, Bool.cond_true_right, Bool.cond_false_left, Bool.or_false, Bool.and_true]
        exact ⟨rfl, rfl⟩
    · exact ⟨Nat.zero_le _, Nat.zero_le _⟩
    rintro i ⟨hi, hil⟩
    simp (maxSteps := 10000000) only [go_sem, reduceIte, Nat.reduceBEq, Nat.reduceMul, reduceCtorEq, Nat.reduceAdd, Nat.reduceEqDiff, decide_eq_true_eq, decide_eq_false_iff_not, Bool.not_eq_true', Bool.not_eq_false', Bool.and_eq_true, Bool.or_eq_true, Bool.and_eq_false_iff, Bool.or_eq_false_iff, Bool.cond_true_left, Bool.cond_false_right, Bool.cond_true_right, Bool.cond_false_left, Bool.or_false, Bool.and_true, inR]
    refine ⟨fun h => ?_, fun h => ?_⟩
    · have hi2 : i < ms.length := by omega
      have hii : (0 : Int) ≤ (i : Int) ∧ (i : Int) < (ms.length : Int) := by omega
      rw [get_mix tick1 ms hi2]
      have hn := nodeB_ok (hok1 _ (List.getElem_mem hi2))
      have ht2 := tick2_len ms[i]
      have hsucc := tks2_succ hi2
      have hset := set_mix tick1 ms hi2
      have hlm := len_mix tick1 ms i
      generalize ms[i] = n at *
      refine ⟨hii, ⟨hn.2.1, hn.2.2.1, hn.2.2.2.1.1, hn.2.2.2.1.2, hn.2.2.2.2.1.1, hn.2.2.2.2.1.2, hn.2.2.2.2.2.1, hn.2.2.2.2.2.2⟩, ⟨by omega, by omega⟩, hii, by decide +kernel, by omega, Again.intro (i + 1) (Ent_of [(900000000, 900000000), (900001000, 34)] rfl ?_ ?_) ?_ (show ms.length - (i + 1) < ms.length - i by omega)⟩
      · simp only [go_sem, reduceIte, Nat.reduceBEq, Nat.reduceMul, reduceCtorEq, Nat.reduceAdd, Nat.reduceEqDiff, decide_eq_true_eq, decide_eq_false_iff_not, Bool.not_eq_true', Bool.not_eq_false', Bool.and_eq_true, Bool.or_eq_true, Bool.and_eq_false_iff, Bool.or_eq_false_iff, Bool.cond_true_left, Bool.cond_false_right, Bool.cond_true_right, Bool.cond_false_left, Bool.or_false, Bool.and_true]
        exact ⟨hset.symm, hsucc⟩
      · simp only [go_sem, reduceIte, Nat.reduceBEq, Nat.reduceMul, reduceCtorEq, Nat.reduceAdd, Nat.reduceEqDiff, decide_eq_true_eq, decide_eq_false_iff_not, Bool.not_eq_true', Bool.not_eq_false', Bool.and_eq_true, Bool.or_eq_true, Bool.and_eq_false_iff, Bool.or_eq_false_iff, Bool.cond_true_left, Bool.cond_false_right, Bool.cond_true_right, Bool.cond_false_left, Bool.or_false, Bool.and_true]
        exact ⟨by rw [hsucc, List.length_append], rfl⟩
      · show i + 1 ≤ ms.length ∧ (tks2 (ms.take (i + 1))).length ≤ (i + 1) * 10
        rw [hsucc, List.length_append]; omega
    · have hie : i = ms.length := by omega
      subst hie
      have e1 : (ms.take ms.length).map tick1 ++ ms.drop ms.length = ms.map tick1 := by rw [List.take_length, List.drop_length, List.append_nil]
      have e2 : ms.take ms.length = ms := List.take_length
      rw [e2] at hil
      have e3 : (ms.map tick1).take ms.length = ms.map tick1 := List.take_of_length_le (by rw [List.length_map]; exact Nat.le_refl _)
      simp only [e2, List.drop_length, List.append_nil, e3]
      refine ⟨⟨by omega, hok2⟩, by omega, Again.intro ((t + 1, e), dlv 500 (ms.map tick1) (tks2 ms)) (Ent_of [(900000000, 13800)] rfl ?_ ?_) ⟨?_, ?_, hok3, hd⟩ (show e < e + 1 by omega)⟩
      · simp only [go_sem, reduceIte, Nat.reduceBEq, Nat.reduceMul, reduceCtorEq, Nat.reduceAdd, Nat.reduceEqDiff, decide_eq_true_eq, decide_eq_false_iff_not, Bool.not_eq_true', Bool.not_eq_false', Bool.and_eq_true, Bool.or_eq_true, Bool.and_eq_false_iff, Bool.or_eq_false_iff, Bool.cond_true_left, Bool.cond_false_right, Bool.cond_true_right, Bool.cond_false_left, Bool.or_false, Bool.and_true]
      · simp only [go_sem, reduceIte, Nat.reduceBEq, Nat.reduceMul, reduceCtorEq, Nat.reduceAdd, Nat.reduceEqDiff, decide_eq_true_eq, decide_eq_false_iff_not, Bool.not_eq_true', Bool.not_eq_false', Bool.and_eq_true, Bool.or_eq_true, Bool.and_eq_false_iff, Bool.or_eq_false_iff, Bool.cond_true_left, Bool.cond_false_right, Bool.cond_true_right, Bool.cond_false_left, Bool.or_false, Bool.and_true]
        rfl
      · show t + 1 + e = T.toNat; omega
      · show (dlv 500 (ms.map tick1) (tks2 ms)).length ≤ 100
        rw [dlv_len, List.length_map]; exact hl
  · have h0 : d = 0 := by omega
    subst h0
    rw [hR, ← hd]
    rfl
end Go.AM
