import Derived.Test.YtbcbgfkojmligaaHA
import Derived.KernelRfl
import Derived.Test.YtbcbgfkojmligaaProg
/- What functions of the program answer, each under the conditions that its contract names. -/
set_option linter.unusedVariables false
set_option linter.unusedSimpArgs false
set_option maxRecDepth 100000
namespace Go.AM
def c4 : C := (.seq (.reg [⟨(some 4), .mv, [.c (.bool false)], none⟩])
 (.seq (.reg [⟨(some 16), .mv, [.t 0], none⟩,
  ⟨(some 17), (.call 22), [.t 16, .c (.int .i64 0), .c (.int .i64 3)], none⟩,
  ⟨(some 18), .mv, [.t 1], none⟩,
  ⟨(some 19), (.call 22), [.t 18, .c (.int .i64 1), .c (.int .i64 3)], none⟩,
  ⟨(some 5), (.alloc [.int .i64 0, .int .i64 0, .int .i64 0, .int .i64 0, .int .i64 0, .int .i64 0, .str ⟨#[]⟩, .sl tEntry [] true, .int .i64 0, .int .i64 0, .int .i64 0, .sl .bool [] true, .sl tI [] true, .sl tI [] true, .int .i64 0]), [], none⟩,
  ⟨(some 6), (.alloc [.int .i64 0, .int .i64 0, .int .i64 0, .int .i64 0, .int .i64 0, .int .i64 0, .str ⟨#[]⟩, .sl tEntry [] true, .int .i64 0, .int .i64 0, .int .i64 0, .sl .bool [] true, .sl tI [] true, .sl tI [] true, .int .i64 0]), [], none⟩,
  ⟨none, (.store 15), [.t 5, .t 17], none⟩,
  ⟨none, (.store 15), [.t 6, .t 19], none⟩])
 (.seq (.reg [⟨(some 20), (.fld 2), [.t 6], none⟩,
  ⟨(some 21), (.load 1 false), [.t 20], none⟩,
  ⟨(some 22), (.fld 2), [.t 5], none⟩,
  ⟨(some 23), (.load 1 false), [.t 22], none⟩,
  ⟨(some 24), .mx, [.t 21, .t 23], none⟩,
  ⟨(some 25), (.fld 2), [.t 6], none⟩,
  ⟨none, (.store 1), [.t 25, .t 24], none⟩])
 (.seq (.reg [⟨(some 27), (.load 15 true), [.t 6], none⟩,
  ⟨(some 28), (.call 27), [.t 27], none⟩,
  ⟨(some 26), .mv, [.t 28], none⟩,
  ⟨(some 29), (.ext 0), [.t 26], none⟩,
  ⟨(some 30), (.ext 1), [.t 26], none⟩,
  ⟨(some 7), (.alloc [.int .i64 0, .int .i64 0, .int .i64 0, .int .i64 0, .int .i64 0, .int .i64 0, .str ⟨#[]⟩, .sl tEntry [] true, .int .i64 0, .int .i64 0, .int .i64 0, .sl .bool [] true, .sl tI [] true, .sl tI [] true, .int .i64 0]), [], none⟩,
  ⟨none, (.store 15), [.t 7, .t 29], none⟩,
  ⟨(some 8), .mv, [.t 30], none⟩])
 (.seq (.regd [⟨(some 32), (.load 15 true), [.t 5], none⟩,
  ⟨(some 33), .mv, [.t 8], none⟩,
  ⟨(some 34), (.call 28), [.t 33], none⟩,
  ⟨(some 35), (.call 25), [.t 32, .t 34], none⟩,
  ⟨(some 31), .mv, [.t 35], none⟩,
  ⟨(some 36), (.ext 0), [.t 31], none⟩,
  ⟨(some 37), (.ext 1), [.t 31], none⟩,
  ⟨(some 9), (.alloc [.int .i64 0, .int .i64 0, .int .i64 0, .int .i64 0, .int .i64 0, .int .i64 0, .str ⟨#[]⟩, .sl tEntry [] true, .int .i64 0, .int .i64 0, .int .i64 0, .sl .bool [] true, .sl tI [] true, .sl tI [] true, .int .i64 0]), [], none⟩,
  ⟨none, (.store 15), [.t 9, .t 36], none⟩,
  ⟨(some 10), .mv, [.t 37], none⟩] [0, 0, 2, 5, 8, 16, 16, 0, 191, 511])
 (.seq (.regd [⟨(some 39), (.load 15 true), [.t 5], none⟩,
  ⟨(some 40), (.load 15 true), [.t 5], none⟩,
  ⟨(some 41), (.call 30), [.t 40], none⟩,
  ⟨(some 42), (.call 29), [.t 39, .t 41], none⟩,
  ⟨(some 38), .mv, [.t 42], none⟩,
  ⟨(some 43), (.ext 0), [.t 38], none⟩,
  ⟨(some 44), (.ext 1), [.t 38], none⟩,
  ⟨(some 11), .mv, [.t 43], none⟩,
  ⟨(some 12), .mv, [.t 44], none⟩] [0, 0, 2, 5, 8, 16, 16, 63, 255])
 (.seq (.regd [⟨(some 46), (.load 15 true), [.t 6], none⟩,
  ⟨(some 47), (.load 15 true), [.t 6], none⟩,
  ⟨(some 48), (.call 30), [.t 47], none⟩,
  ⟨(some 49), (.call 29), [.t 46, .t 48], none⟩,
  ⟨(some 45), .mv, [.t 49], none⟩,
  ⟨(some 50), (.ext 0), [.t 45], none⟩,
  ⟨(some 51), (.ext 1), [.t 45], none⟩,
  ⟨(some 13), .mv, [.t 50], none⟩,
  ⟨(some 14), .mv, [.t 51], none⟩] [0, 0, 2, 5, 8, 16, 16, 63, 255])
 (.seq (.regd [⟨(some 52), .mv, [.t 13], none⟩,
  ⟨(some 53), .mv, [.t 11], none⟩,
  ⟨(some 54), (.bin .gtr), [.t 52, .t 53], none⟩,
  ⟨(some 55), .mv, [.t 54], none⟩,
  ⟨(some 56), .mv, [.t 13], (some (55, false))⟩,
  ⟨(some 57), .mv, [.t 11], (some (55, false))⟩,
  ⟨(some 58), (.bin .eql), [.t 56, .t 57], (some (55, false))⟩,
  ⟨(some 59), .mv, [.t 58], (some (55, false))⟩,
  ⟨(some 60), (.load 15 true), [.t 6], (some (59, true))⟩,
  ⟨(some 61), (.call 30), [.t 60], (some (59, true))⟩,
  ⟨(some 62), (.load 15 true), [.t 5], (some (59, true))⟩,
  ⟨(some 63), (.call 30), [.t 62], (some (59, true))⟩,
  ⟨(some 64), (.bin .geq), [.t 61, .t 63], (some (59, true))⟩,
  ⟨(some 65), .pick, [.t 59, .t 64, .c (.bool false)], (some (55, false))⟩,
  ⟨(some 66), .pick, [.t 55, .c (.bool true), .t 65], none⟩,
  ⟨(some 15), .mv, [.t 66], none⟩] [0, 0, 3, 4, 8, 8, 56, 72, 128, 384, 128, 1664, 2688, 4232, 8200, 32767])
 (.seq (.reg [⟨(some 67), .mv, [.t 8], none⟩,
  ⟨(some 68), .len, [.t 67], none⟩,
  ⟨(some 69), (.bin .eql), [.t 68, .c (.int .i64 2)], none⟩,
  ⟨(some 70), .mv, [.t 69], none⟩,
  ⟨(some 71), .mv, [.t 10], (some (70, true))⟩,
  ⟨(some 72), .len, [.t 71], (some (70, true))⟩,
  ⟨(some 73), (.bin .eql), [.t 72, .c (.int .i64 1)], (some (70, true))⟩,
  ⟨(some 74), .pick, [.t 70, .t 73, .c (.bool false)], none⟩,
  ⟨(some 75), .mv, [.t 74], none⟩,
  ⟨(some 76), .mv, [.t 10], (some (75, true))⟩,
  ⟨(some 77), (.idx 10), [.t 76, .c (.int .i64 0)], (some (75, true))⟩,
  ⟨(some 78), (.fld 6), [.t 77], (some (75, true))⟩,
  ⟨(some 79), (.load 1 false), [.t 78], (some (75, true))⟩,
  ⟨(some 80), .mv, [.t 15], (some (75, true))⟩,
  ⟨(some 81), (.binb .eql), [.t 79, .t 80], (some (75, true))⟩,
  ⟨(some 82), .pick, [.t 75, .t 81, .c (.bool false)], none⟩,
  ⟨(some 83), .mv, [.t 82], none⟩,
  ⟨(some 84), (.fld 3), [.t 9], (some (83, true))⟩,
  ⟨(some 85), (.load 1 false), [.t 84], (some (83, true))⟩,
  ⟨(some 86), (.bin .eql), [.t 85, .c (.int .i64 1)], (some (83, true))⟩,
  ⟨(some 87), .mv, [.t 15], (some (83, true))⟩,
  ⟨(some 88), (.binb .eql), [.t 86, .t 87], (some (83, true))⟩,
  ⟨(some 89), .pick, [.t 83, .t 88, .c (.bool false)], none⟩,
  ⟨(some 90), .mv, [.t 89], none⟩,
  ⟨(some 91), (.fld 2), [.t 9], (some (90, true))⟩,
  ⟨(some 92), (.load 1 false), [.t 91], (some (90, true))⟩,
  ⟨(some 93), (.fld 2), [.t 7], (some (90, true))⟩,
  ⟨(some 94), (.load 1 false), [.t 93], (some (90, true))⟩,
  ⟨(some 95), (.bin .eql), [.t 92, .t 94], (some (90, true))⟩,
  ⟨(some 96), .pick, [.t 90, .t 95, .c (.bool false)], none⟩,
  ⟨(some 97), .mv, [.t 96], none⟩,
  ⟨(some 98), (.fld 8), [.t 9], (some (97, true))⟩,
  ⟨(some 99), (.load 1 false), [.t 98], (some (97, true))⟩,
  ⟨(some 100), (.bin .eql), [.t 99, .c (.int .i64 0)], (some (97, true))⟩,
  ⟨(some 101), .pick, [.t 97, .t 100, .c (.bool false)], none⟩,
  ⟨(some 102), .mv, [.t 101], none⟩,
  ⟨(some 103), (.call 26), [], (some (102, true))⟩,
  ⟨(some 104), .pick, [.t 102, .t 103, .c (.bool false)], none⟩,
  ⟨(some 4), .mv, [.t 104], none⟩])
 .ret)))))))))
theorem comp4 : compC Go.Proofs.Try.prog ttL 105 [] (match Go.Proofs.Try.f4.body with | some b => b | none => .skip) = some (c4) := by kernel_rfl
end Go.AM
set_option maxRecDepth 100000
set_option maxHeartbeats 4000000
set_option linter.unusedSimpArgs false
namespace Go.AM
open Go.Proofs
attribute [local congr] vc_congr evOps_congr evTab_congr bind_congr condK_congr tabK_congr
def voteUpFn : Fn := { a := .pair (.list tI) (.pair (.list tI) .unit), r := .pair .bool .unit, pre := fun x => preS x.1 ∧ preS x.2.1, f := fun _ => (true, ()) }
def setTerm (n : Node) (t : Int) : Node := mkN (nId n) (nNodes n) t (nVote n) (nBase n) (nBT n) (nSnap n) (nLog n) (nRole n) (nLead n) (nCommit n) (nVotes n) (nNext n) (nMatch n) (nClock n)
theorem step_id (n : Node) (v : Int) : nId (madeStep n v) = nId n := by
  unfold madeStep cutN
  repeat' split
  all_goals rfl
theorem made_id (l : List Int) (id nodes : Int) : nId (made l id nodes) = min (max id 0) (min (max nodes 1) 5 - 1) := by
  unfold made
  have : ∀ (l : List Int) (n : Node), nId (l.foldl madeStep n) = nId n := by
    intro l
    induction l with
    | nil => intro n; rfl
    | cons v l ih => intro n; rw [List.foldl_cons, ih, step_id]
  rw [this]
  rfl
theorem start1_id (n : Node) : nId (start1 n) = nId n := by unfold start1 own; split <;> rfl
theorem start1_term (n : Node) : nTerm (start1 n) = nTerm n + 1 := by unfold start1 own; split <;> rfl
theorem start1_termV (n : Node) (i : Int) : termV (start1 n) i = termV n i := by unfold start1 own; split <;> rfl
theorem start1_vlen (n : Node) (h1 : 1 ≤ nNodes n) (h5 : nNodes n ≤ 5) : (nVotes (start1 n)).length = (nNodes n).toNat := by
  unfold start1; rw [own_votes, votes_len]
  show (max 0 (min (nNodes n) 5)).toNat = _
  omega
def upB (n c : Node) : Bool := decide (termV n (last n) < termV c (last c)) || decide (termV c (last c) = termV n (last n)) && decide (last n ≤ last c)
theorem start2_3 (c : Node) (h3 : nNodes c = 3) (h1 : nId c = 1) : start2 c = [askMsg (start1 c) 0, askMsg (start1 c) 2] := by
  have hl : (nVotes (start1 c)).length = 3 := by rw [start1_vlen c (by omega) (by omega), h3]; rfl
  unfold start2 startMsgs
  rw [hl, start1_id, h1]
  rfl
theorem voteUp_law (n c : Node) (h3 : nNodes c = 3) (h1 : nId c = 1) (ht : nTerm n ≤ nTerm c) :
    (asked2 n (l0 (start2 c))).length = 1 ∧ mYes ((asked2 n (l0 (start2 c))).getD 0 (dflt tMsg)) = upB n c ∧ decide (nVote (asked1 n (l0 (start2 c))) = 1) = upB n c ∧
    nTerm (asked1 n (l0 (start2 c))) = nTerm (start1 c) ∧ nRole (asked1 n (l0 (start2 c))) = 0 := by
  rw [start2_3 c h3 h1]
  have e0 : l0 [askMsg (start1 c) 0, askMsg (start1 c) 2] = askMsg (start1 c) 0 := rfl
  rw [e0]
  unfold asked1 asked2
  have em : mTerm (askMsg (start1 c) 0) = nTerm c + 1 := start1_term c
  rw [em]
  have ed : down n (nTerm c + 1) = mkN (nId n) (nNodes n) (nTerm c + 1) (-1) (nBase n) (nBT n) (nSnap n) (nLog n) 0 (-1) (nCommit n) (votes n) (nNext n) (nMatch n) (nClock n) := by
    unfold down; exact if_pos (by omega)
  have eB : askB (down n (nTerm c + 1)) (askMsg (start1 c) 0) = upB n c := by
    have e1 : mAt (askMsg (start1 c) 0) = termV c (last c) := by
      show termV (start1 c) (last (start1 c)) = _
      rw [start1_termV, start1_last]
    have e2 : mIndex (askMsg (start1 c) 0) = last c := start1_last c
    have e3 : lastT (down n (nTerm c + 1)) = termV n (last n) := by rw [ed]; rfl
    have e4 : last (down n (nTerm c + 1)) = last n := last_down _ _
    have e5 : nTerm (down n (nTerm c + 1)) = nTerm c + 1 := by rw [ed]
    have e6 : nVote (down n (nTerm c + 1)) = -1 := by rw [ed]
    unfold askB upB
    rw [em, e1, e2, e3, e4, e5, e6]
    simp
  have e7 : mFrom (askMsg (start1 c) 0) = 1 := by show nId (start1 c) = 1; rw [start1_id]; exact h1
  unfold asked1' asked2'
  refine ⟨rfl, eB, ?_, ?_, ?_⟩
  · rw [← eB]
    split
    · rename_i h
      rw [h]
      exact decide_eq_true e7
    · rename_i h
      rw [Bool.not_eq_true] at h
      rw [h, ed]
      exact decide_eq_false (show ¬ ((-1 : Int) = 1) by decide)
  · rw [start1_term]
    split <;> (rw [ed])
  · split <;> (rw [ed])
theorem h4  : Holds Try.prog 4 (voteUpFn) := by
  refine Holds.of_vc (T := [(22, fn22), (27, fn27), (28, fn28), (25, fn25), (30, fn30), (29, fn29), (26, fn26)]) (TT := ttL) (rowAt := []) (c := c4) (ros := [.t 4]) (.cons _ h22 (.cons _ h27 (.cons _ h28 (.cons _ h25 (.cons _ h30 (.cons _ h29 (.cons _ h26 (.nil _)))))))) mixed Try.func4 (by decide +kernel) (by rfl) comp4 (by kernel_rfl) rfl rfl (fun h => by cases h) ?_
  rintro ⟨(a : List Int), (b : List Int), _⟩ hpre
  simp only [voteUpFn] at hpre ⊢
  simp only [c4, fn22, fn27, fn28, fn25, fn30, fn29, fn26, go_sem, reduceIte, Nat.reduceBEq, Nat.reduceMul, reduceCtorEq, Nat.reduceAdd, Nat.reduceEqDiff, decide_eq_true_eq, decide_eq_false_iff_not, Bool.not_eq_true', Bool.not_eq_false', Bool.and_eq_true, Bool.or_eq_true, Bool.and_eq_false_iff, Bool.or_eq_false_iff, Bool.cond_true_left, Bool.cond_false_right, Bool.cond_true_right, Bool.cond_false_left, Bool.or_false, Bool.and_true, inR, fn48]
  have hn := MI_made a 0 3
  have hc := MI_made b 1 3
  have hid : nId (made b 1 3) = 1 := made_id b 1 3
  have hn3 := made_nodes a 0 3
  have hc3 := made_nodes b 1 3
  generalize made a 0 3 = n at *
  generalize made b 1 3 = c at *
  generalize hcc : (pr (a := tI) c.1 (pr (a := tI) c.2.1 (pr (a := tI) (max c.2.2.1 n.2.2.1) (pr (a := tI) c.2.2.2.1 (pr (a := tI) c.2.2.2.2.1 (pr (a := tI) c.2.2.2.2.2.1 (pr (a := .str) c.2.2.2.2.2.2.1 (pr (a := .list tEntry) c.2.2.2.2.2.2.2.1 (pr (a := tI) c.2.2.2.2.2.2.2.2.1 (pr (a := tI) c.2.2.2.2.2.2.2.2.2.1 (pr (a := tI) c.2.2.2.2.2.2.2.2.2.2.1 (pr (a := .list .bool) c.2.2.2.2.2.2.2.2.2.2.2.1 (pr (a := .list tI) c.2.2.2.2.2.2.2.2.2.2.2.2.1 (pr (a := .list tI) c.2.2.2.2.2.2.2.2.2.2.2.2.2.1 (pr (a := tI) (b := .unit) c.2.2.2.2.2.2.2.2.2.2.2.2.2.2.1 ()))))))))))))))) = c'
  have c1 : nNodes c' = 3 := by rw [← hcc]; exact hc3
  have c2 : nTerm n ≤ nTerm c' := by rw [← hcc]; show nTerm n ≤ max (nTerm c) (nTerm n); omega
  have c3 : nTerm c' ≤ 40 := by rw [← hcc]; show max (nTerm c) (nTerm n) ≤ 40; simp only [MI] at hn hc; omega
  have c4 : 0 ≤ nTerm c' := by simp only [MI] at hn; omega
  have c5 : nBase c' = nBase c := by rw [← hcc]; rfl
  have c6 : last c' = last c := by rw [← hcc]; rfl
  have c7 : nId c' = nId c := by rw [← hcc]; rfl
  clear hcc
  obtain ⟨l1, l2, l3, l4, l5⟩ := voteUp_law n c' c1 (by rw [c7]; exact hid) c2
  have l0' : (start2 c').length = 2 := by rw [start2_3 c' c1 (by rw [c7]; exact hid)]; rfl
  have e1 : ((asked2 n (l0 (start2 c'))).getD 0 (dflt tMsg)).2.2.2.2.2.2.1 = (decide (termV n (last n) < termV c' (last c')) || decide (termV c' (last c') = termV n (last n)) && decide (last n ≤ last c')) := l2
  have e2 : decide ((asked1 n (l0 (start2 c'))).2.2.2.1 = 1) = (decide (termV n (last n) < termV c' (last c')) || decide (termV c' (last c') = termV n (last n)) && decide (last n ≤ last c')) := l3
  have e3 : (asked1 n (l0 (start2 c'))).2.2.1 = (start1 c').2.2.1 := l4
  have e4 : (asked1 n (l0 (start2 c'))).2.2.2.2.2.2.2.2.1 = 0 := l5
  simp only [l0', l1, e1, e2, e3, e4, beq_self_eq_true, and_true, true_and]
  simp only [MI] at hn hc
  dsimp only [den, nId, nNodes, nTerm, nVote, nBase, nBT, nSnap, nLog, nRole, nLead, nCommit, nVotes, nNext, nMatch, nClock, mKind, mFrom, mTo, mTerm, mIndex, mAt, mYes, mCommit, mEntries, mSnap, eTerm, eCmd, mkN, mkM, mkE, last, inR, sm, lastT] at *
  repeat (first | refine ⟨by omega, ?_⟩ | refine ⟨by rfl, ?_⟩ | refine ⟨fun h => h, ?_⟩ | refine ⟨fun h => ⟨h, by omega⟩, ?_⟩)
  rfl
end Go.AM
