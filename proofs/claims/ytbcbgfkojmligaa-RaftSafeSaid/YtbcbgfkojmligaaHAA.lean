import Derived.Test.YtbcbgfkojmligaaHZ
import Derived.KernelRfl
import Derived.Test.YtbcbgfkojmligaaProg
/- What functions of the program answer, each under the conditions that its contract names. -/
set_option linter.unusedVariables false
set_option linter.unusedSimpArgs false
set_option maxRecDepth 100000
namespace Go.AM
def c78_42 : C := (.seq (.seq (.reg [⟨(some 42), (.load 15 true), [.t 1], none⟩,
  ⟨(some 43), (.call 44), [.t 42], none⟩,
  ⟨(some 44), (.bin .neq), [.t 43, .c (.int .i64 1)], none⟩])
 (.cond (.t 44) (.seq (.reg [⟨(some 45), (.load 15 true), [.t 1], none⟩,
  ⟨(some 46), .mv, [.t 4], none⟩,
  ⟨none, (.store 15), [.t 2, .t 45], none⟩,
  ⟨(some 3), .mv, [.t 46], none⟩])
 .ret) .skip))
 (.seq (.reg [⟨(some 48), (.load 15 true), [.t 1], none⟩,
  ⟨(some 49), (.call 67), [.t 48], none⟩,
  ⟨(some 47), .mv, [.t 49], none⟩,
  ⟨(some 50), (.ext 0), [.t 47], none⟩,
  ⟨(some 51), (.ext 1), [.t 47], none⟩,
  ⟨none, (.store 15), [.t 1, .t 50], none⟩,
  ⟨(some 5), .mv, [.t 51], none⟩])
 (.seq (.regd [⟨(some 52), (.load 15 true), [.t 1], none⟩,
  ⟨(some 53), .mv, [.t 4], none⟩,
  ⟨(some 54), .mv, [.t 5], none⟩,
  ⟨(some 55), (.app 10 104), [.t 53, .t 54], none⟩,
  ⟨none, (.store 15), [.t 2, .t 52], none⟩,
  ⟨(some 3), .mv, [.t 55], none⟩] [0, 0, 0, 6, 9, 31])
 .ret)))
def c78_38 : C := (.seq (.reg [⟨(some 38), (.load 15 true), [.t 1], none⟩,
  ⟨(some 39), (.call 27), [.t 38], none⟩,
  ⟨(some 37), .mv, [.t 39], none⟩,
  ⟨(some 40), (.ext 0), [.t 37], none⟩,
  ⟨(some 41), (.ext 1), [.t 37], none⟩,
  ⟨none, (.store 15), [.t 1, .t 40], none⟩,
  ⟨(some 4), .mv, [.t 41], none⟩])
 (.cut c78_42))
def c78 : C := (.seq (.reg [⟨(some 1), .box, [.t 0], none⟩,
  ⟨(some 2), (.alloc [.int .i64 0, .int .i64 0, .int .i64 0, .int .i64 0, .int .i64 0, .int .i64 0, .str ⟨#[]⟩, .sl tEntry [] true, .int .i64 0, .int .i64 0, .int .i64 0, .sl .bool [] true, .sl tI [] true, .sl tI [] true, .int .i64 0]), [], none⟩,
  ⟨(some 3), .mv, [.c (.sl tMsg [] true)], none⟩])
 (.seq (.reg [⟨(some 6), (.fld 14), [.t 1], none⟩,
  ⟨(some 7), (.load 1 false), [.t 6], none⟩,
  ⟨(some 8), (.bin .add), [.t 7, .c (.int .i64 1)], none⟩,
  ⟨(some 9), (.fld 14), [.t 1], none⟩,
  ⟨none, (.store 1), [.t 9, .t 8], none⟩])
 (.seq (.block 0 (.seq (.reg [⟨(some 11), (.fld 8), [.t 1], none⟩,
  ⟨(some 12), (.load 1 false), [.t 11], none⟩,
  ⟨(some 13), (.bin .eql), [.t 12, .c (.int .i64 2)], none⟩,
  ⟨(some 14), .mv, [.t 13], none⟩,
  ⟨(some 15), (.fld 14), [.t 1], (some (14, true))⟩,
  ⟨(some 16), (.load 1 false), [.t 15], (some (14, true))⟩,
  ⟨(some 17), (.bin .geq), [.t 16, .c (.int .i64 3)], (some (14, true))⟩,
  ⟨(some 18), .pick, [.t 14, .t 17, .c (.bool false)], none⟩,
  ⟨(some 10), .mv, [.t 18], none⟩])
 (.cond (.t 10) (.seq (.reg [⟨(some 19), (.fld 14), [.t 1], none⟩,
  ⟨none, (.store 1), [.t 19, .c (.int .i64 0)], none⟩])
 (.seq (.regd [⟨(some 20), (.load 15 true), [.t 1], none⟩,
  ⟨(some 21), (.load 15 true), [.t 1], none⟩,
  ⟨(some 22), (.call 117), [.t 21], none⟩,
  ⟨none, (.store 15), [.t 2, .t 20], none⟩,
  ⟨(some 3), .mv, [.t 22], none⟩] [0, 0, 2, 5, 15])
 .ret)) (.seq (.reg [⟨(some 24), (.fld 8), [.t 1], none⟩,
  ⟨(some 25), (.load 1 false), [.t 24], none⟩,
  ⟨(some 26), (.bin .eql), [.t 25, .c (.int .i64 2)], none⟩,
  ⟨(some 27), .mv, [.t 26], none⟩,
  ⟨(some 28), (.fld 14), [.t 1], (some (27, false))⟩,
  ⟨(some 29), (.load 1 false), [.t 28], (some (27, false))⟩,
  ⟨(some 30), (.fld 0), [.t 1], (some (27, false))⟩,
  ⟨(some 31), (.load 1 false), [.t 30], (some (27, false))⟩,
  ⟨(some 32), (.bin .mul), [.c (.int .i64 5), .t 31], (some (27, false))⟩,
  ⟨(some 33), (.bin .add), [.c (.int .i64 10), .t 32], (some (27, false))⟩,
  ⟨(some 34), (.bin .lss), [.t 29, .t 33], (some (27, false))⟩,
  ⟨(some 35), .pick, [.t 27, .c (.bool true), .t 34], none⟩,
  ⟨(some 23), .mv, [.t 35], none⟩])
 (.cond (.t 23) (.seq (.reg [⟨(some 36), (.load 15 true), [.t 1], none⟩,
  ⟨none, (.store 15), [.t 2, .t 36], none⟩,
  ⟨(some 3), .mv, [.c (.sl tMsg [] true)], none⟩])
 .ret) .skip)))))
 (.cut c78_38))))
theorem comp78 : compC Go.Proofs.Try.prog ttL 56 [] (match Go.Proofs.Try.f78.body with | some b => b | none => .skip) = some (erase c78) := by kernel_rfl
def c82_50 : C := (.seq (.reg [⟨(some 50), (.load 15 true), [.t 2], none⟩,
  ⟨(some 51), (.call 56), [.t 50], none⟩,
  ⟨none, (.store 15), [.t 2, .t 51], none⟩])
 (.seq (.regd [⟨(some 52), (.load 15 true), [.t 2], none⟩,
  ⟨(some 53), (.load 15 true), [.t 2], none⟩,
  ⟨(some 54), (.call 117), [.t 53], none⟩,
  ⟨none, (.store 15), [.t 4, .t 52], none⟩,
  ⟨(some 5), .mv, [.t 54], none⟩,
  ⟨(some 6), .mv, [.c (.int .i64 0)], none⟩] [0, 0, 2, 5, 15, 31])
 .ret))
def c82_28 : C := (.seq (.reg [⟨(some 28), (.fld 13), [.t 2], none⟩,
  ⟨(some 29), (.load 1 false), [.t 28], none⟩,
  ⟨(some 30), (.call 120), [.t 29], none⟩,
  ⟨(some 31), (.fld 13), [.t 2], none⟩,
  ⟨none, (.store 1), [.t 31, .t 30], none⟩])
 (.seq (.seq (.reg [⟨(some 32), (.fld 0), [.t 2], none⟩,
  ⟨(some 33), (.load 1 false), [.t 32], none⟩,
  ⟨(some 34), (.bin .geq), [.t 33, .c (.int .i64 0)], none⟩,
  ⟨(some 35), .mv, [.t 34], none⟩,
  ⟨(some 36), (.fld 0), [.t 2], (some (35, true))⟩,
  ⟨(some 37), (.load 1 false), [.t 36], (some (35, true))⟩,
  ⟨(some 38), (.fld 13), [.t 2], (some (35, true))⟩,
  ⟨(some 39), (.load 1 false), [.t 38], (some (35, true))⟩,
  ⟨(some 40), .len, [.t 39], (some (35, true))⟩,
  ⟨(some 41), (.bin .lss), [.t 37, .t 40], (some (35, true))⟩,
  ⟨(some 42), .pick, [.t 35, .t 41, .c (.bool false)], none⟩])
 (.cond (.t 42) (.regd [⟨(some 43), (.fld 13), [.t 2], none⟩,
  ⟨(some 44), (.load 1 false), [.t 43], none⟩,
  ⟨(some 45), (.fld 0), [.t 2], none⟩,
  ⟨(some 46), (.load 1 false), [.t 45], none⟩,
  ⟨(some 47), (.load 15 true), [.t 2], none⟩,
  ⟨(some 48), (.call 52), [.t 47], none⟩,
  ⟨(some 49), (.idx 1), [.t 44, .t 46], none⟩,
  ⟨none, (.store 1), [.t 49, .t 48], none⟩] [0, 1, 0, 4, 0, 16, 63, 127]) .skip))
 (.cut c82_50)))
def c82_18 : C := (.seq (.regd [⟨(some 18), (.fld 7), [.t 2], none⟩,
  ⟨(some 19), (.load 1 false), [.t 18], none⟩,
  ⟨(some 20), (.call 109), [.t 19], none⟩,
  ⟨(some 21), (.fld 2), [.t 2], none⟩,
  ⟨(some 22), (.load 1 false), [.t 21], none⟩,
  ⟨(some 23), .mv, [.t 1], none⟩,
  ⟨(some 24), (.build [.int .i64 0, .str ⟨#[]⟩] [(0, 1), (1, 1)]), [.t 22, .t 23], none⟩,
  ⟨(some 25), (.bslice tEntry 1), [.t 24], none⟩,
  ⟨(some 26), (.app 2 24), [.t 20, .t 25], none⟩,
  ⟨(some 27), (.fld 7), [.t 2], none⟩,
  ⟨none, (.store 1), [.t 27, .t 26], none⟩] [0, 1, 2, 0, 8, 0, 48, 64, 132, 511, 1023])
 (.cut c82_28))
def c82 : C := (.seq (.reg [⟨(some 2), .box, [.t 0], none⟩,
  ⟨(some 4), (.alloc [.int .i64 0, .int .i64 0, .int .i64 0, .int .i64 0, .int .i64 0, .int .i64 0, .str ⟨#[]⟩, .sl tEntry [] true, .int .i64 0, .int .i64 0, .int .i64 0, .sl .bool [] true, .sl tI [] true, .sl tI [] true, .int .i64 0]), [], none⟩,
  ⟨(some 5), .mv, [.c (.sl tMsg [] true)], none⟩,
  ⟨(some 6), .mv, [.c (.int .i64 0)], none⟩])
 (.seq (.block 0 (.seq (.reg [⟨(some 8), (.fld 8), [.t 2], none⟩,
  ⟨(some 9), (.load 1 false), [.t 8], none⟩,
  ⟨(some 10), (.bin .neq), [.t 9, .c (.int .i64 2)], none⟩,
  ⟨(some 7), .mv, [.t 10], none⟩])
 (.cond (.t 7) (.seq (.reg [⟨(some 11), (.load 15 true), [.t 2], none⟩,
  ⟨none, (.store 15), [.t 4, .t 11], none⟩,
  ⟨(some 5), .mv, [.c (.sl tMsg [] true)], none⟩,
  ⟨(some 6), .mv, [.c (.int .i64 13)], none⟩])
 .ret) (.seq (.reg [⟨(some 13), (.fld 7), [.t 2], none⟩,
  ⟨(some 14), (.load 1 false), [.t 13], none⟩,
  ⟨(some 15), .len, [.t 14], none⟩,
  ⟨(some 16), (.bin .geq), [.t 15, .c (.int .i64 200)], none⟩,
  ⟨(some 12), .mv, [.t 16], none⟩])
 (.cond (.t 12) (.seq (.reg [⟨(some 17), (.load 15 true), [.t 2], none⟩,
  ⟨none, (.store 15), [.t 4, .t 17], none⟩,
  ⟨(some 5), .mv, [.c (.sl tMsg [] true)], none⟩,
  ⟨(some 6), .mv, [.c (.int .i64 7)], none⟩])
 .ret) .skip)))))
 (.cut c82_18)))
theorem comp82 : compC Go.Proofs.Try.prog ttL 55 [] (match Go.Proofs.Try.f82.body with | some b => b | none => .skip) = some (erase c82) := by kernel_rfl
end Go.AM
set_option maxRecDepth 100000
set_option maxHeartbeats 40000000
set_option linter.unusedSimpArgs false
namespace Go.AM
open Go.Proofs
attribute [local congr] vc_congr evOps_congr evTab_congr bind_congr condK_congr tabK_congr
def setClock (n : Node) (c : Int) : Node := mkN (nId n) (nNodes n) (nTerm n) (nVote n) (nBase n) (nBT n) (nSnap n) (nLog n) (nRole n) (nLead n) (nCommit n) (nVotes n) (nNext n) (nMatch n) c
def tick1 (n : Node) : Node :=
  if nRole n = 2 ∧ 3 ≤ nClock n + 1 then setClock n 0
  else if nRole n = 2 ∨ nClock n + 1 < 10 + 5 * nId n then setClock n (nClock n + 1)
  else if most (start1 (setClock n (nClock n + 1))) = 1 then lead1 (start1 (setClock n (nClock n + 1))) else start1 (setClock n (nClock n + 1))
def tick2 (n : Node) : List Msg :=
  if nRole n = 2 ∧ 3 ≤ nClock n + 1 then othersN (setClock n 0)
  else if nRole n = 2 ∨ nClock n + 1 < 10 + 5 * nId n then []
  else if most (start1 (setClock n (nClock n + 1))) = 1 then start2 (setClock n (nClock n + 1)) ++ lead2 (start1 (setClock n (nClock n + 1))) else start2 (setClock n (nClock n + 1))
def fn78 : Fn := { a := .pair tNode .unit, r := .pair tNode (.pair (.olist tMsg) .unit), pre := fun x => rgL x.1 ∧ nextsOk x.1 ∧ 0 ≤ nId x.1 ∧ nId x.1 ≤ 100 ∧ 0 ≤ nTerm x.1 ∧ nTerm x.1 ≤ 4398046511000 ∧ 0 ≤ nClock x.1 ∧ nClock x.1 ≤ 4398046511000, f := fun x => (tick1 x.1, tick2 x.1, ()) }
theorem rgN_start {n : Node} (h : rgN n) : rgN (start1 n) := by
  unfold start1 Go.AM.own
  split
  · exact h
  · exact h
theorem rgL_start {n : Node} (h : rgL n) : rgL (start1 n) := by
  refine ⟨rgN_start h.1, ?_, ?_⟩
  · rw [start1_last]; exact h.2.1
  · have : nLog (start1 n) = nLog n := by unfold start1 Go.AM.own; split <;> rfl
    rw [this]; exact h.2.2
theorem start2_len (n : Node) : (start2 n).length ≤ 5 := by
  unfold start2
  exact Nat.le_trans (startMsgs_len _ _) (start1_votes n)
theorem others_len (n : Node) : (othersN n).length ≤ 5 := by
  have hq : (nodesN n).toNat ≤ 5 := by unfold nodesN; omega
  have := sendsN_len n (nodesN n).toNat
  unfold othersN; omega
theorem h78  : Holds Try.prog 78 (fn78) := by
  refine Holds.of_vcc (T := [(117, fn117), (27, fn27), (44, fn44), (67, fn67)]) (TT := ttL) (rowAt := []) (c := c78) (ros := [.c 2 15, .t 3]) (.cons _ h117 (.cons _ h27 (.cons _ h44 (.cons _ h67 (.nil _))))) mixed Try.func78 (by decide +kernel) (by rfl) comp78 (by kernel_rfl) rfl rfl (fun h => by cases h) ?_
  rintro ⟨(n : Node), _⟩ hpre
  simp only [fn78] at hpre ⊢
  simp only [c78, fn117, fn27, fn44, fn67, go_sem, reduceIte, Nat.reduceBEq, Nat.reduceMul, reduceCtorEq, Nat.reduceAdd, Nat.reduceEqDiff, decide_eq_true_eq, decide_eq_false_iff_not, Bool.not_eq_true', Bool.not_eq_false', Bool.and_eq_true, Bool.or_eq_true, Bool.and_eq_false_iff, Bool.or_eq_false_iff, Bool.cond_true_left, Bool.cond_false_right, Bool.cond_true_right, Bool.cond_false_left, Bool.or_false, Bool.and_true, inR, fn111]
  simp only [mkPr]
  generalize hV : vc _ (C.cut c78_38) _ = V
  generalize hq : mkN _ _ _ _ _ _ _ _ _ _ _ _ _ _ 0 = q
  have eq : q = setClock n 0 := by rw [← hq]; rfl
  clear hq
  subst eq
  generalize hp : mkN _ _ _ _ _ _ _ _ _ _ _ _ _ _ (_ + 1) = p
  have ep : p = setClock n (nClock n + 1) := by rw [← hp]; rfl
  clear hp
  obtain ⟨hL, hx, hi0, hi1, ht0, ht1, hc0, hc1⟩ := hpre
  have hi0 : 0 ≤ nId n := hi0
  have hi1 : nId n ≤ 100 := hi1
  have hI : nId n = n.1 := rfl
  have hC : nClock n = n.2.2.2.2.2.2.2.2.2.2.2.2.2.2.1 := rfl
  have hc0 : 0 ≤ nClock n := hc0
  have hc1 : nClock n ≤ 4398046511000 := hc1
  refine ⟨by omega, fun h => ⟨⟨hL.1, hx⟩, by rfl, (if_pos h).symm, (if_pos h).symm⟩, fun h => ?_⟩
  have hn : ¬ (nRole n = 2 ∧ 3 ≤ nClock n + 1) := fun hc => h.elim (fun h => h hc.1) (fun h => h hc.2)
  have e1 : tick1 n = if nRole n = 2 ∨ nClock n + 1 < 10 + 5 * nId n then setClock n (nClock n + 1) else if most (start1 (setClock n (nClock n + 1))) = 1 then lead1 (start1 (setClock n (nClock n + 1))) else start1 (setClock n (nClock n + 1)) := if_neg hn
  have e2 : tick2 n = if nRole n = 2 ∨ nClock n + 1 < 10 + 5 * nId n then [] else if most (start1 (setClock n (nClock n + 1))) = 1 then start2 (setClock n (nClock n + 1)) ++ lead2 (start1 (setClock n (nClock n + 1))) else start2 (setClock n (nClock n + 1)) := if_neg hn
  rw [e1, e2] at hV
  rw [e1, e2]
  refine ⟨fun _ => by omega, fun _ => by omega, fun h2 => ⟨by rw [if_pos h2]; exact ep, (if_pos h2).symm⟩, fun h2 => ?_⟩
  have h3 : ¬ (nRole n = 2 ∨ nClock n + 1 < 10 + 5 * nId n) := fun hc => hc.elim h2.1 h2.2
  rw [if_neg h3, if_neg h3] at hV
  refine cut_at hV ⟨[(1, .ptr 1 0), (2, .ptr 2 0)], [(1, .box (cellsA tNode (setClock n (nClock n + 1)) [])), (2, .box zN)]⟩ ?_ (Ent_of [(1, 1), (2, 2)] rfl ?_ ?_)
  rotate_left
  · simp only [go_sem, reduceIte, Nat.reduceBEq, Nat.reduceMul, reduceCtorEq, Nat.reduceAdd, Nat.reduceEqDiff, decide_eq_true_eq, decide_eq_false_iff_not, Bool.not_eq_true', Bool.not_eq_false', Bool.and_eq_true, Bool.or_eq_true, Bool.and_eq_false_iff, Bool.or_eq_false_iff, Bool.cond_true_left, Bool.cond_false_right, Bool.cond_true_right, Bool.cond_false_left, Bool.or_false, Bool.and_true]
    repeat (first | exact rfl | refine ⟨rfl, ?_⟩)
  · simp only [go_sem, reduceIte, Nat.reduceBEq, Nat.reduceMul, reduceCtorEq, Nat.reduceAdd, Nat.reduceEqDiff, decide_eq_true_eq, decide_eq_false_iff_not, Bool.not_eq_true', Bool.not_eq_false', Bool.and_eq_true, Bool.or_eq_true, Bool.and_eq_false_iff, Bool.or_eq_false_iff, Bool.cond_true_left, Bool.cond_false_right, Bool.cond_true_right, Bool.cond_false_left, Bool.or_false, Bool.and_true]
  clear hV V ep e1 e2
  have hLc : rgL (setClock n (nClock n + 1)) := hL
  have htc : 0 ≤ nTerm (setClock n (nClock n + 1)) ∧ nTerm (setClock n (nClock n + 1)) ≤ 4398046511000 := ⟨ht0, ht1⟩
  generalize setClock n (nClock n + 1) = c at *
  simp (maxSteps := 10000000) only [c78_38, go_sem, reduceIte, Nat.reduceBEq, Nat.reduceMul, reduceCtorEq, Nat.reduceAdd, Nat.reduceEqDiff, decide_eq_true_eq, decide_eq_false_iff_not, Bool.not_eq_true', Bool.not_eq_false', Bool.and_eq_true, Bool.or_eq_true, Bool.and_eq_false_iff, Bool.or_eq_false_iff, Bool.cond_true_left, Bool.cond_false_right, Bool.cond_true_right, Bool.cond_false_left, Bool.or_false, Bool.and_true, inR]
  generalize hV : vc _ (C.cut c78_42) _ = V
  have hLs := rgL_start hLc
  have hs5 := start2_len c
  have hLc2 := hLc
  simp only [rgL, rgN] at hLc2
  generalize start1 c = s at *
  generalize start2 c = sl at *
  refine ⟨⟨hLc2.1.1, by omega, by omega, by omega⟩, ?_⟩
  refine cut_at hV ⟨[(1, .ptr 1 0), (2, .ptr 2 0), (4, .own 13901 0 sl.length)], [(1, .box (cellsA tNode s [])), (2, .box zN), (13901, .row tMsg sl false)]⟩ ?_ (Ent_of [(1, 1), (2, 2), (13901, 13901)] rfl ?_ ?_)
  rotate_left
  · simp only [go_sem, reduceIte, Nat.reduceBEq, Nat.reduceMul, reduceCtorEq, Nat.reduceAdd, Nat.reduceEqDiff, decide_eq_true_eq, decide_eq_false_iff_not, Bool.not_eq_true', Bool.not_eq_false', Bool.and_eq_true, Bool.or_eq_true, Bool.and_eq_false_iff, Bool.or_eq_false_iff, Bool.cond_true_left, Bool.cond_false_right, Bool.cond_true_right, Bool.cond_false_left, Bool.or_false, Bool.and_true]
  · simp only [go_sem, reduceIte, Nat.reduceBEq, Nat.reduceMul, reduceCtorEq, Nat.reduceAdd, Nat.reduceEqDiff, decide_eq_true_eq, decide_eq_false_iff_not, Bool.not_eq_true', Bool.not_eq_false', Bool.and_eq_true, Bool.or_eq_true, Bool.and_eq_false_iff, Bool.or_eq_false_iff, Bool.cond_true_left, Bool.cond_false_right, Bool.cond_true_right, Bool.cond_false_left, Bool.or_false, Bool.and_true]
  clear hV V
  simp (maxSteps := 10000000) only [c78_42, go_sem, reduceIte, Nat.reduceBEq, Nat.reduceMul, reduceCtorEq, Nat.reduceAdd, Nat.reduceEqDiff, decide_eq_true_eq, decide_eq_false_iff_not, Bool.not_eq_true', Bool.not_eq_false', Bool.and_eq_true, Bool.or_eq_true, Bool.and_eq_false_iff, Bool.or_eq_false_iff, Bool.cond_true_left, Bool.cond_false_right, Bool.cond_true_right, Bool.cond_false_left, Bool.or_false, Bool.and_true, inR]
  have hl2 : (lead2 s).length ≤ 5 := others_len (lead1 s)
  have hn5 : 0 ≤ nNodes s ∧ nNodes s ≤ 100 := ⟨hLs.1.2.2.2.2.2.1, hLs.1.2.2.2.2.2.2.1⟩
  exact ⟨hn5, fun h => ⟨(if_neg h).symm, (if_neg h).symm⟩, fun h => ⟨hLs, by omega, by decide +kernel, (if_pos h).symm, by rw [List.take_of_length_le (by rw [List.length_append]; exact Nat.le_refl _)]; exact (if_pos h).symm⟩⟩
def prop1 (n : Node) (cmd : ByteArray) : Node := if nRole n = 2 ∧ (nLog n).length < 200 then moreN n cmd else n
def prop2 (n : Node) (cmd : ByteArray) : List Msg := if nRole n = 2 ∧ (nLog n).length < 200 then othersN (moreN n cmd) else []
def prop3 (n : Node) : Int := if nRole n = 2 then (if (nLog n).length < 200 then 0 else 7) else 13
def fn82 : Fn := { a := .pair tNode (.pair .str .unit), r := .pair tNode (.pair (.olist tMsg) (.pair tI .unit)), pre := fun x => rgL x.1 ∧ nextsOk x.1, f := fun x => (prop1 x.1 x.2.1, prop2 x.1 x.2.1, prop3 x.1, ()) }
theorem h82  : Holds Try.prog 82 (fn82) := by
  refine Holds.of_vcc (T := [(109, fn109), (120, fn120), (52, fn52), (56, fn56), (117, fn117)]) (TT := ttL) (rowAt := []) (c := c82) (ros := [.c 4 15, .t 5, .t 6]) (.cons _ h109 (.cons _ h120 (.cons _ h52 (.cons _ h56 (.cons _ h117 (.nil _)))))) mixed Try.func82 (by decide +kernel) (by rfl) comp82 (by kernel_rfl) rfl rfl (fun h => by cases h) ?_
  rintro ⟨(n : Node), (cmd : ByteArray), _⟩ hpre
  simp only [fn82] at hpre ⊢
  simp only [c82, fn109, fn120, fn52, fn56, fn117, go_sem, reduceIte, Nat.reduceBEq, Nat.reduceMul, reduceCtorEq, Nat.reduceAdd, Nat.reduceEqDiff, decide_eq_true_eq, decide_eq_false_iff_not, Bool.not_eq_true', Bool.not_eq_false', Bool.and_eq_true, Bool.or_eq_true, Bool.and_eq_false_iff, Bool.or_eq_false_iff, Bool.cond_true_left, Bool.cond_false_right, Bool.cond_true_right, Bool.cond_false_left, Bool.or_false, Bool.and_true, inR, fn111]
  generalize hV : vc _ (C.cut c82_18) _ = V
  have hLl : (nLog n).length = n.2.2.2.2.2.2.2.1.length := rfl
  refine ⟨fun h => ?_, fun h => ⟨fun h2 => ?_, fun h2 => ?_⟩⟩
  · have hn : ¬ (nRole n = 2 ∧ (nLog n).length < 200) := fun hc => h hc.1
    exact ⟨(if_neg hn).symm, (if_neg hn).symm, (if_neg h).symm⟩
  · have hlt : ¬ (nLog n).length < 200 := by omega
    have hn : ¬ (nRole n = 2 ∧ (nLog n).length < 200) := fun hc => hlt hc.2
    have e3 : prop3 n = if (nLog n).length < 200 then 0 else 7 := if_pos h
    exact ⟨(if_neg hn).symm, (if_neg hn).symm, by rw [e3, if_neg hlt]⟩
  have hlt : (nLog n).length < 200 := by omega
  have e1 : prop1 n cmd = moreN n cmd := if_pos ⟨h, hlt⟩
  have e2 : prop2 n cmd = othersN (moreN n cmd) := if_pos ⟨h, hlt⟩
  have e3 : prop3 n = 0 := by
    have : prop3 n = if (nLog n).length < 200 then 0 else 7 := if_pos h
    rw [this, if_pos hlt]
  rw [e1, e2, e3] at hV
  refine cut_at hV ⟨[(1, .str cmd), (2, .ptr 2 0), (4, .ptr 4 0)], [(2, .box (cellsA tNode n [])), (4, .box zN)]⟩ ?_ (Ent_of [(2, 2), (4, 4)] rfl ?_ ?_)
  rotate_left
  · simp only [go_sem, reduceIte, Nat.reduceBEq, Nat.reduceMul, reduceCtorEq, Nat.reduceAdd, Nat.reduceEqDiff, decide_eq_true_eq, decide_eq_false_iff_not, Bool.not_eq_true', Bool.not_eq_false', Bool.and_eq_true, Bool.or_eq_true, Bool.and_eq_false_iff, Bool.or_eq_false_iff, Bool.cond_true_left, Bool.cond_false_right, Bool.cond_true_right, Bool.cond_false_left, Bool.or_false, Bool.and_true]
  · simp only [go_sem, reduceIte, Nat.reduceBEq, Nat.reduceMul, reduceCtorEq, Nat.reduceAdd, Nat.reduceEqDiff, decide_eq_true_eq, decide_eq_false_iff_not, Bool.not_eq_true', Bool.not_eq_false', Bool.and_eq_true, Bool.or_eq_true, Bool.and_eq_false_iff, Bool.or_eq_false_iff, Bool.cond_true_left, Bool.cond_false_right, Bool.cond_true_right, Bool.cond_false_left, Bool.or_false, Bool.and_true]
  clear hV V e1 e2 e3
  simp (maxSteps := 10000000) only [c82_18, go_sem, reduceIte, Nat.reduceBEq, Nat.reduceMul, reduceCtorEq, Nat.reduceAdd, Nat.reduceEqDiff, decide_eq_true_eq, decide_eq_false_iff_not, Bool.not_eq_true', Bool.not_eq_false', Bool.and_eq_true, Bool.or_eq_true, Bool.and_eq_false_iff, Bool.or_eq_false_iff, Bool.cond_true_left, Bool.cond_false_right, Bool.cond_true_right, Bool.cond_false_left, Bool.or_false, Bool.and_true, inR]
  generalize hV : vc _ (C.cut c82_28) _ = V
  obtain ⟨hL, hx⟩ := hpre
  have hL2 := hL
  simp only [rgL, rgN, sm] at hL2
  have hsl : smallL (nLog n) := by rw [sm]; omega
  refine ⟨hsl, ⟨.inr (by intro e; cases e), by omega, by omega⟩, by decide +kernel, ?_⟩
  refine cut_at hV ⟨[(2, .ptr 2 0), (4, .ptr 4 0)], [(2, .box [.int .i64 (nId n), .int .i64 (nNodes n), .int .i64 (nTerm n), .int .i64 (nVote n), .int .i64 (nBase n), .int .i64 (nBT n), .str (nSnap n), .own 26 0 ((nLog n).length + 1), .int .i64 (nRole n), .int .i64 (nLead n), .int .i64 (nCommit n), .sl .bool (nVotes n) false, .sl tI (nNext n) false, .sl tI (nMatch n) false, .int .i64 (nClock n)]), (4, .box zN), (26, .row tEntry (nLog n ++ [mkE (nTerm n) cmd]) false)]⟩ ?_ (Ent_of [(2, 2), (4, 4), (26, 26)] rfl ?_ ?_)
  rotate_left
  · simp only [go_sem, reduceIte, Nat.reduceBEq, Nat.reduceMul, reduceCtorEq, Nat.reduceAdd, Nat.reduceEqDiff, decide_eq_true_eq, decide_eq_false_iff_not, Bool.not_eq_true', Bool.not_eq_false', Bool.and_eq_true, Bool.or_eq_true, Bool.and_eq_false_iff, Bool.or_eq_false_iff, Bool.cond_true_left, Bool.cond_false_right, Bool.cond_true_right, Bool.cond_false_left, Bool.or_false, Bool.and_true]
    repeat (first | exact rfl | refine ⟨rfl, ?_⟩)
  · simp only [go_sem, reduceIte, Nat.reduceBEq, Nat.reduceMul, reduceCtorEq, Nat.reduceAdd, Nat.reduceEqDiff, decide_eq_true_eq, decide_eq_false_iff_not, Bool.not_eq_true', Bool.not_eq_false', Bool.and_eq_true, Bool.or_eq_true, Bool.and_eq_false_iff, Bool.or_eq_false_iff, Bool.cond_true_left, Bool.cond_false_right, Bool.cond_true_right, Bool.cond_false_left, Bool.or_false, Bool.and_true]
  clear hV V
  simp (maxSteps := 10000000) only [c82_28, go_sem, reduceIte, Nat.reduceBEq, Nat.reduceMul, reduceCtorEq, Nat.reduceAdd, Nat.reduceEqDiff, decide_eq_true_eq, decide_eq_false_iff_not, Bool.not_eq_true', Bool.not_eq_false', Bool.and_eq_true, Bool.or_eq_true, Bool.and_eq_false_iff, Bool.or_eq_false_iff, Bool.cond_true_left, Bool.cond_false_right, Bool.cond_true_right, Bool.cond_false_left, Bool.or_false, Bool.and_true, inR]
  generalize hV : vc _ (C.cut c82_50) _ = V
  have ha := rgN_addE hL cmd
  have hla := last_addE n cmd
  have hna : nNext (addE n cmd) = nNext n := rfl
  have hma : nMatch (addE n cmd) = nMatch n := rfl
  have hia : nId (addE n cmd) = nId n := rfl
  have H : ∀ l : List Int, l = putL (nMatch n) (nId n) (last (addE n cmd)) → ∀ σ, Ent σ ⟨[(2, .ptr 2 0), (4, .ptr 4 0)], [(2, .box [.int .i64 (nId n), .int .i64 (nNodes n), .int .i64 (nTerm n), .int .i64 (nVote n), .int .i64 (nBase n), .int .i64 (nBT n), .str (nSnap n), .own 26 0 ((nLog n).length + 1), .int .i64 (nRole n), .int .i64 (nLead n), .int .i64 (nCommit n), .sl .bool (nVotes n) false, .sl tI (nNext n) false, .own 30 0 l.length, .int .i64 (nClock n)]), (4, .box zN), (26, .row tEntry (nLog n ++ [mkE (nTerm n) cmd]) false), (30, .row tI l false)]⟩ → V σ := by
    intro l hl σ hσ
    refine cut_at hV _ ?_ hσ
    clear hV hσ
    simp (maxSteps := 10000000) only [c82_50, go_sem, reduceIte, Nat.reduceBEq, Nat.reduceMul, reduceCtorEq, Nat.reduceAdd, Nat.reduceEqDiff, decide_eq_true_eq, decide_eq_false_iff_not, Bool.not_eq_true', Bool.not_eq_false', Bool.and_eq_true, Bool.or_eq_true, Bool.and_eq_false_iff, Bool.or_eq_false_iff, Bool.cond_true_left, Bool.cond_false_right, Bool.cond_true_right, Bool.cond_false_left, Bool.or_false, Bool.and_true, inR]
    simp only [mkPr]
    generalize hq : mkN _ _ _ _ _ _ _ _ _ _ _ _ _ _ _ = q
    have eq : q = setMatch (addE n cmd) (putL (nMatch (addE n cmd)) (nId (addE n cmd)) (last (addE n cmd))) := by
      rw [← hq, List.take_of_length_le (by rw [List.length_append]; exact Nat.le_refl _), hma, hia, ← hl]
      rfl
    clear hq
    have ea : adv q = moreN n cmd := by rw [eq]; rfl
    have hrq : rgN q := by rw [eq]; exact rgN_setMatch ha (putL_len ..)
    have hrm : rgN (moreN n cmd) := by rw [← ea]; exact rgN_adv hrq
    have hxm : nextsOk (moreN n cmd) := by unfold nextsOk; rw [more_next]; exact hx
    simp only [ea]
    exact ⟨hrq, ⟨hrm, hxm⟩, by decide +kernel, trivial, trivial⟩
  clear hV
  simp only [mkPr]
  generalize hq : mkN _ _ _ _ _ _ _ (List.take _ _) _ _ _ _ _ _ _ = q
  have eq : q = addE n cmd := by
    rw [← hq, List.take_of_length_le (by rw [List.length_append]; exact Nat.le_refl _)]
    rfl
  clear hq
  subst eq
  have hl : last n = nBase n + (nLog n).length := rfl
  have hsm : smallL (nMatch n) := by rw [sm]; omega
  refine ⟨hsm, fun h => ⟨by omega, h, by decide +kernel, H _ (if_pos h).symm _ (Ent_of [(2, 2), (4, 4), (26, 26), (30, 30)] rfl ?_ ?_)⟩, fun h => H (nMatch n) (if_neg (by omega)).symm _ (Ent_of [(2, 2), (4, 4), (26, 26), (30, 30)] rfl ?_ ?_)⟩
  · simp only [go_sem, reduceIte, Nat.reduceBEq, Nat.reduceMul, reduceCtorEq, Nat.reduceAdd, Nat.reduceEqDiff, decide_eq_true_eq, decide_eq_false_iff_not, Bool.not_eq_true', Bool.not_eq_false', Bool.and_eq_true, Bool.or_eq_true, Bool.and_eq_false_iff, Bool.or_eq_false_iff, Bool.cond_true_left, Bool.cond_false_right, Bool.cond_true_right, Bool.cond_false_left, Bool.or_false, Bool.and_true]
  · simp only [go_sem, reduceIte, Nat.reduceBEq, Nat.reduceMul, reduceCtorEq, Nat.reduceAdd, Nat.reduceEqDiff, decide_eq_true_eq, decide_eq_false_iff_not, Bool.not_eq_true', Bool.not_eq_false', Bool.and_eq_true, Bool.or_eq_true, Bool.and_eq_false_iff, Bool.or_eq_false_iff, Bool.cond_true_left, Bool.cond_false_right, Bool.cond_true_right, Bool.cond_false_left, Bool.or_false, Bool.and_true]
  · simp only [go_sem, reduceIte, Nat.reduceBEq, Nat.reduceMul, reduceCtorEq, Nat.reduceAdd, Nat.reduceEqDiff, decide_eq_true_eq, decide_eq_false_iff_not, Bool.not_eq_true', Bool.not_eq_false', Bool.and_eq_true, Bool.or_eq_true, Bool.and_eq_false_iff, Bool.or_eq_false_iff, Bool.cond_true_left, Bool.cond_false_right, Bool.cond_true_right, Bool.cond_false_left, Bool.or_false, Bool.and_true]
  · simp only [go_sem, reduceIte, Nat.reduceBEq, Nat.reduceMul, reduceCtorEq, Nat.reduceAdd, Nat.reduceEqDiff, decide_eq_true_eq, decide_eq_false_iff_not, Bool.not_eq_true', Bool.not_eq_false', Bool.and_eq_true, Bool.or_eq_true, Bool.and_eq_false_iff, Bool.or_eq_false_iff, Bool.cond_true_left, Bool.cond_false_right, Bool.cond_true_right, Bool.cond_false_left, Bool.or_false, Bool.and_true]
end Go.AM
