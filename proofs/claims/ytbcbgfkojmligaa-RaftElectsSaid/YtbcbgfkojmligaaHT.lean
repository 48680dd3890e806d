import Derived.Test.YtbcbgfkojmligaaHS
import Derived.KernelRfl
import Derived.Test.YtbcbgfkojmligaaProg
/- What functions of the program answer, each under the conditions that its contract names. -/
set_option linter.unusedVariables false
set_option linter.unusedSimpArgs false
set_option maxRecDepth 100000
namespace Go.AM
def c17_56 : C := (.seq (.reg [⟨(some 56), (.load 15 true), [.t 9], none⟩,
  ⟨(some 57), (.load 15 true), [.t 11], none⟩,
  ⟨(some 58), (.call 33), [.t 56, .t 57], none⟩,
  ⟨(some 59), .mv, [.t 58], none⟩,
  ⟨(some 60), .mv, [.t 12], (some (59, true))⟩,
  ⟨(some 61), .len, [.t 60], (some (59, true))⟩,
  ⟨(some 62), (.bin .eql), [.t 61, .c (.int .i64 1)], (some (59, true))⟩,
  ⟨(some 63), .pick, [.t 59, .t 62, .c (.bool false)], none⟩,
  ⟨(some 64), .mv, [.t 63], none⟩,
  ⟨(some 65), .mv, [.t 12], (some (64, true))⟩,
  ⟨(some 66), (.idx 10), [.t 65, .c (.int .i64 0)], (some (64, true))⟩,
  ⟨(some 67), (.fld 6), [.t 66], (some (64, true))⟩,
  ⟨(some 68), (.load 1 false), [.t 67], (some (64, true))⟩,
  ⟨(some 69), .not, [.t 68], (some (64, true))⟩,
  ⟨(some 70), .pick, [.t 64, .t 69, .c (.bool false)], none⟩,
  ⟨(some 71), .mv, [.t 70], none⟩,
  ⟨(some 72), .mv, [.t 12], (some (71, true))⟩,
  ⟨(some 73), (.idx 10), [.t 72, .c (.int .i64 0)], (some (71, true))⟩,
  ⟨(some 74), (.fld 3), [.t 73], (some (71, true))⟩,
  ⟨(some 75), (.load 1 false), [.t 74], (some (71, true))⟩,
  ⟨(some 76), .mv, [.t 7], (some (71, true))⟩,
  ⟨(some 77), (.bin .eql), [.t 75, .t 76], (some (71, true))⟩,
  ⟨(some 78), .pick, [.t 71, .t 77, .c (.bool false)], none⟩,
  ⟨(some 79), .mv, [.t 78], none⟩,
  ⟨(some 80), .mv, [.t 12], (some (79, true))⟩,
  ⟨(some 81), (.idx 10), [.t 80, .c (.int .i64 0)], (some (79, true))⟩,
  ⟨(some 82), (.fld 2), [.t 81], (some (79, true))⟩,
  ⟨(some 83), (.load 1 false), [.t 82], (some (79, true))⟩,
  ⟨(some 84), (.bin .eql), [.t 83, .c (.int .i64 0)], (some (79, true))⟩,
  ⟨(some 85), .pick, [.t 79, .t 84, .c (.bool false)], none⟩,
  ⟨(some 86), .mv, [.t 85], none⟩,
  ⟨(some 87), (.load 15 true), [.t 13], (some (86, true))⟩,
  ⟨(some 88), (.load 15 true), [.t 15], (some (86, true))⟩,
  ⟨(some 89), (.call 33), [.t 87, .t 88], (some (86, true))⟩,
  ⟨(some 90), .pick, [.t 86, .t 89, .c (.bool false)], none⟩,
  ⟨(some 91), .mv, [.t 90], none⟩,
  ⟨(some 92), .mv, [.t 16], (some (91, true))⟩,
  ⟨(some 93), .len, [.t 92], (some (91, true))⟩,
  ⟨(some 94), (.bin .eql), [.t 93, .c (.int .i64 0)], (some (91, true))⟩,
  ⟨(some 95), .pick, [.t 91, .t 94, .c (.bool false)], none⟩,
  ⟨(some 96), .mv, [.t 95], none⟩,
  ⟨(some 97), (.call 57), [], (some (96, true))⟩,
  ⟨(some 98), .pick, [.t 96, .t 97, .c (.bool false)], none⟩,
  ⟨(some 6), .mv, [.t 98], none⟩])
 .ret)
def c17_50 : C := (.seq (.reg [⟨(some 50), (.load 15 true), [.t 13], none⟩,
  ⟨(some 51), .mv, [.t 8], none⟩,
  ⟨(some 52), (.build [.int .i64 0, .int .i64 0, .int .i64 0, .int .i64 0, .int .i64 0, .int .i64 0, .bool false, .int .i64 0, .sl tEntry [] true, .str ⟨#[]⟩] [(0, 1), (1, 1), (2, 1), (3, 1), (6, 1), (4, 1)]), [.c (.int .i64 4), .c (.int .i64 0), .c (.int .i64 1), .t 51, .c (.bool true), .c (.int .i64 9)], none⟩,
  ⟨(some 53), (.call 74), [.t 50, .t 52], none⟩,
  ⟨(some 49), .mv, [.t 53], none⟩,
  ⟨(some 54), (.ext 0), [.t 49], none⟩,
  ⟨(some 55), (.ext 1), [.t 49], none⟩,
  ⟨(some 15), (.alloc [.int .i64 0, .int .i64 0, .int .i64 0, .int .i64 0, .int .i64 0, .int .i64 0, .str ⟨#[]⟩, .sl tEntry [] true, .int .i64 0, .int .i64 0, .int .i64 0, .sl .bool [] true, .sl tI [] true, .sl tI [] true, .int .i64 0]), [], none⟩,
  ⟨none, (.store 15), [.t 15, .t 54], none⟩,
  ⟨(some 16), .mv, [.t 55], none⟩])
 (.cut c17_56))
def c17_45 : C := (.seq (.reg [⟨(some 45), (.load 15 true), [.t 9], none⟩,
  ⟨(some 46), (.call 67), [.t 45], none⟩,
  ⟨(some 44), .mv, [.t 46], none⟩,
  ⟨(some 47), (.ext 0), [.t 44], none⟩,
  ⟨(some 48), (.ext 1), [.t 44], none⟩,
  ⟨(some 13), (.alloc [.int .i64 0, .int .i64 0, .int .i64 0, .int .i64 0, .int .i64 0, .int .i64 0, .str ⟨#[]⟩, .sl tEntry [] true, .int .i64 0, .int .i64 0, .int .i64 0, .sl .bool [] true, .sl tI [] true, .sl tI [] true, .int .i64 0]), [], none⟩,
  ⟨none, (.store 15), [.t 13, .t 47], none⟩,
  ⟨(some 14), .mv, [.t 48], none⟩])
 (.cut c17_50))
def c17_39 : C := (.seq (.reg [⟨(some 39), (.load 15 true), [.t 9], none⟩,
  ⟨(some 40), (.load 10 true), [.t 10], none⟩,
  ⟨(some 41), (.call 65), [.t 39, .t 40], none⟩,
  ⟨(some 38), .mv, [.t 41], none⟩,
  ⟨(some 42), (.ext 0), [.t 38], none⟩,
  ⟨(some 43), (.ext 1), [.t 38], none⟩,
  ⟨(some 11), (.alloc [.int .i64 0, .int .i64 0, .int .i64 0, .int .i64 0, .int .i64 0, .int .i64 0, .str ⟨#[]⟩, .sl tEntry [] true, .int .i64 0, .int .i64 0, .int .i64 0, .sl .bool [] true, .sl tI [] true, .sl tI [] true, .int .i64 0]), [], none⟩,
  ⟨none, (.store 15), [.t 11, .t 42], none⟩,
  ⟨(some 12), .mv, [.t 43], none⟩])
 (.cut c17_45))
def c17 : C := (.seq (.reg [⟨(some 6), .mv, [.c (.bool false)], none⟩])
 (.seq (.reg [⟨(some 17), .mv, [.t 0], none⟩,
  ⟨(some 18), (.call 23), [.t 17, .c (.int .i64 100)], none⟩,
  ⟨(some 19), (.bin .add), [.c (.int .i64 2), .t 18], none⟩,
  ⟨(some 7), .mv, [.t 19], none⟩])
 (.seq (.reg [⟨(some 20), .mv, [.t 1], none⟩,
  ⟨(some 21), .mv, [.t 7], none⟩,
  ⟨(some 22), (.bin .sub), [.t 21, .c (.int .i64 1)], none⟩,
  ⟨(some 23), (.call 23), [.t 20, .t 22], none⟩,
  ⟨(some 24), (.bin .add), [.c (.int .i64 1), .t 23], none⟩,
  ⟨(some 8), .mv, [.t 24], none⟩])
 (.seq (.reg [⟨(some 25), (.call 31), [.c (.int .i64 1), .c (.int .i64 3)], none⟩,
  ⟨(some 9), (.alloc [.int .i64 0, .int .i64 0, .int .i64 0, .int .i64 0, .int .i64 0, .int .i64 0, .str ⟨#[]⟩, .sl tEntry [] true, .int .i64 0, .int .i64 0, .int .i64 0, .sl .bool [] true, .sl tI [] true, .sl tI [] true, .int .i64 0]), [], none⟩,
  ⟨none, (.store 15), [.t 9, .t 25], none⟩])
 (.seq (.reg [⟨(some 26), .mv, [.t 7], none⟩,
  ⟨(some 27), (.fld 2), [.t 9], none⟩,
  ⟨none, (.store 1), [.t 27, .t 26], none⟩,
  ⟨(some 28), (.fld 3), [.t 9], none⟩,
  ⟨none, (.store 1), [.t 28, .c (.int .i64 2)], none⟩,
  ⟨(some 29), (.fld 14), [.t 9], none⟩,
  ⟨none, (.store 1), [.t 29, .c (.int .i64 4)], none⟩])
 (.seq (.reg [⟨(some 30), .mv, [.t 8], none⟩,
  ⟨(some 31), .mv, [.t 8], none⟩,
  ⟨(some 32), (.build [.int .i64 0, .str ⟨#[]⟩] [(0, 1), (1, 1)]), [.t 31, .c (.str ⟨#[120]⟩)], none⟩,
  ⟨(some 33), (.bslice tEntry 1), [.t 32], none⟩,
  ⟨(some 34), (.build [.int .i64 0, .int .i64 0, .int .i64 0, .int .i64 0, .int .i64 0, .int .i64 0, .bool false, .int .i64 0, .sl tEntry [] true, .str ⟨#[]⟩] [(0, 1), (1, 1), (2, 1), (3, 1), (8, 1), (7, 1)]), [.c (.int .i64 3), .c (.int .i64 0), .c (.int .i64 1), .t 30, .t 33, .c (.int .i64 1)], none⟩,
  ⟨(some 10), (.alloc [.int .i64 0, .int .i64 0, .int .i64 0, .int .i64 0, .int .i64 0, .int .i64 0, .bool false, .int .i64 0, .sl tEntry [] true, .str ⟨#[]⟩]), [], none⟩,
  ⟨none, (.store 10), [.t 10, .t 34], none⟩])
 (.seq (.seq (.reg [⟨(some 35), .mv, [.t 2], none⟩])
 (.cond (.t 35) (.reg [⟨(some 36), .mv, [.t 8], none⟩,
  ⟨(some 37), (.build [.int .i64 0, .int .i64 0, .int .i64 0, .int .i64 0, .int .i64 0, .int .i64 0, .bool false, .int .i64 0, .sl tEntry [] true, .str ⟨#[]⟩] [(0, 1), (1, 1), (2, 1), (3, 1), (4, 1), (5, 1), (9, 1)]), [.c (.int .i64 5), .c (.int .i64 0), .c (.int .i64 1), .t 36, .c (.int .i64 5), .c (.int .i64 1), .c (.str ⟨#[120]⟩)], none⟩,
  ⟨none, (.store 10), [.t 10, .t 37], none⟩]) .skip))
 (.cut c17_39))))))))
theorem comp17 : compC Go.Proofs.Try.prog ttL 99 [] (match Go.Proofs.Try.f17.body with | some b => b | none => .skip) = some (erase c17) := by kernel_rfl
end Go.AM
set_option maxRecDepth 100000
set_option maxHeartbeats 8000000
set_option linter.unusedSimpArgs false
namespace Go.AM
open Go.Proofs
attribute [local congr] vc_congr evOps_congr evTab_congr bind_congr condK_congr tabK_congr
instance {α : Type} (l : List α) : Decidable (smallL l) := inferInstanceAs (Decidable (_ ≤ _))
theorem adv_term (n : Node) : nTerm (adv n) = nTerm n := by unfold adv; split <;> rfl
theorem adv_last (n : Node) : last (adv n) = last n := by unfold adv; split <;> rfl
theorem adv_match (n : Node) : nMatch (adv n) = nMatch n := by unfold adv; split <;> rfl
theorem adv_log (n : Node) : nLog (adv n) = nLog n := by unfold adv; split <;> rfl
theorem adv_votes (n : Node) : nVotes (adv n) = nVotes n := by unfold adv; split <;> rfl
theorem lead1_term (n : Node) : nTerm (lead1 n) = nTerm n := adv_term _
theorem lead1_last (n : Node) : last (lead1 n) = last n + 1 := by
  have h : last (lead1 n) = last (lead0 n) := adv_last _
  rw [h]
  show nBase n + ((nLog n ++ [mkE (nTerm n) noB]).length : Int) = nBase n + (nLog n).length + 1
  rw [List.length_append]
  show nBase n + (((nLog n).length + 1 : Nat) : Int) = _
  omega
theorem lead1_next (n : Node) : nNext (lead1 n) = List.replicate (nodesN n).toNat (last n + 1) := adv_next _
theorem lead1_match (n : Node) : nMatch (lead1 n) = putL (List.replicate (nodesN n).toNat 0) (nId n) (last (lead0 n)) := adv_match _
theorem lead0_last (n : Node) : last (lead0 n) = last n + 1 := by
  show nBase n + ((nLog n ++ [mkE (nTerm n) noB]).length : Int) = nBase n + (nLog n).length + 1
  rw [List.length_append]
  show nBase n + (((nLog n).length + 1 : Nat) : Int) = _
  omega
theorem atL_mem {l : List Int} {i : Int} : atL l i = 0 ∨ atL l i ∈ l := by
  unfold atL
  split
  · exact .inl rfl
  · rename_i h
    right
    have hlt : i.toNat < l.length := by omega
    rw [List.getD_eq_getElem?_getD, List.getElem?_eq_getElem hlt]
    exact List.getElem_mem hlt
theorem putL_mem {l : List Int} {i v x : Int} (h : x ∈ putL l i v) : x = v ∨ x ∈ l := by
  unfold putL at h
  split at h
  · exact (List.mem_or_eq_of_mem_set h).symm.imp id id
  · exact .inr h
theorem lead1_okAt {n : Node} (h : rgL n) (hb : last n ≤ 4398046510000) (i : Int) : okAt (lead1 n) i := by
  have hl := lead0_last n
  simp only [rgL, rgN, sm] at h
  have hll : last n = nBase n + (nLog n).length := rfl
  refine ⟨?_, ?_⟩
  · rw [lead1_next]
    rcases atL_mem (l := List.replicate (nodesN n).toNat (last n + 1)) (i := i) with h1 | h1
    · rw [h1]; unfold okS; decide
    · rw [List.eq_of_mem_replicate h1]; unfold okS; omega
  · rw [lead1_match]
    rcases atL_mem (l := putL (List.replicate (nodesN n).toNat 0) (nId n) (last (lead0 n))) (i := i) with h1 | h1
    · rw [h1]; unfold okS; decide
    · rcases putL_mem h1 with h2 | h2
      · rw [h2, hl]; unfold okS; omega
      · rw [List.eq_of_mem_replicate h2]; unfold okS; decide
theorem take_low {n : Node} {m : Msg} (h : mTerm m < nTerm n) : take1 n m = n ∧ take2 n m = takenM n m false (last n) := by
  unfold take1 take2
  rw [down_same (by omega)]
  exact ⟨if_pos h, if_pos h⟩
theorem heard_low {n : Node} {m : Msg} (h : mTerm m < nTerm n) : heard1 n m = n ∧ heard2 n m = [] := by
  unfold heard1 heard2
  rw [down_same (by omega)]
  have hc : ¬ (nRole n = 2 ∧ mTerm m = nTerm n) := fun hc => by omega
  exact ⟨if_neg hc, if_neg hc⟩
theorem lead1_small {n : Node} (h : rgL n) (hv : smallL (nVotes n)) : smallN (lead1 n) := by
  have h1 : rgN (lead1 n) := rgN_own (rgN_lead0 h)
  have h2 : nVotes (lead1 n) = nVotes n := adv_votes _
  exact ⟨h1.2.2.2.2.1, by rw [h2]; exact hv, h1.2.2.2.2.2.2.2.1, h1.2.2.2.2.2.2.2.2⟩
def oldN (x : Int) : Node := mkN (nId (newN 1 3)) (nNodes (newN 1 3)) x 2 (nBase (newN 1 3)) (nBT (newN 1 3)) (nSnap (newN 1 3)) (nLog (newN 1 3)) (nRole (newN 1 3)) (nLead (newN 1 3)) (nCommit (newN 1 3)) (nVotes (newN 1 3)) (nNext (newN 1 3)) (nMatch (newN 1 3)) 4
def replOldFn : Fn := { a := .pair tI (.pair tI (.pair .bool .unit)), r := .pair .bool .unit, pre := fun _ => True, f := fun _ => (true, ()) }
theorem h17  : Holds Try.prog 17 (replOldFn) := by
  refine Holds.of_vcc (T := [(23, fn23), (31, fn31), (65, fn65), (67, fn67), (74, fn74), (33, fn33), (57, fn57)]) (TT := ttL) (rowAt := []) (c := c17) (ros := [.t 6]) (.cons _ h23 (.cons _ h31 (.cons _ h65 (.cons _ h67 (.cons _ h74 (.cons _ h33 (.cons _ h57 (.nil _)))))))) mixed Try.func17 (by decide +kernel) (by rfl) comp17 (by kernel_rfl) rfl rfl (fun h => by cases h) ?_
  rintro ⟨(a : Int), (b : Int), (ins : Bool), _⟩ hpre
  simp only [replOldFn] at hpre ⊢
  simp only [c17, fn23, fn31, fn65, fn67, fn74, fn33, fn57, go_sem, reduceIte, Nat.reduceBEq, Nat.reduceMul, reduceCtorEq, Nat.reduceAdd, Nat.reduceEqDiff, decide_eq_true_eq, decide_eq_false_iff_not, Bool.not_eq_true', Bool.not_eq_false', Bool.and_eq_true, Bool.or_eq_true, Bool.and_eq_false_iff, Bool.or_eq_false_iff, Bool.cond_true_left, Bool.cond_false_right, Bool.cond_true_right, Bool.cond_false_left, Bool.or_false, Bool.and_true, inR, fn23, p19]
  simp only [mkPrE]
  have ha0 := Int.emod_nonneg a (show (100 : Int) ≠ 0 by decide)
  have ha1 := Int.emod_lt_of_pos a (show (0 : Int) < 100 by decide)
  obtain ⟨x, hx⟩ : ∃ x : Int, x = 2 + a % 100 := ⟨_, rfl⟩
  simp only [← hx]
  have hx0 : 2 ≤ x ∧ x ≤ 102 := by omega
  have hb0 := Int.emod_nonneg b (show x - 1 ≠ 0 by omega)
  have hb1 := Int.emod_lt_of_pos b (show 0 < x - 1 by omega)
  obtain ⟨y, hy⟩ : ∃ y : Int, y = 1 + b % (x - 1) := ⟨_, rfl⟩
  simp only [← hy]
  have hy0 : 1 ≤ y ∧ y < x := by omega
  generalize hV : vc _ (C.cut c17_39) _ = V
  have hlo : last (oldN x) = 0 := rfl
  have hbo : nBase (oldN x) = 0 := rfl
  have hrg : rgN (oldN x) := by
    refine ⟨?_, ?_, ?_, ?_, ?_, ?_, ?_, ?_, ?_⟩
    all_goals exact of_decide_eq_true (by rfl)
  have hrl : rgL (oldN x) := ⟨hrg, of_decide_eq_true (by rfl), of_decide_eq_true (by rfl)⟩
  have hso : smallN (oldN x) := by refine ⟨?_, ?_, ?_, ?_⟩ <;> exact of_decide_eq_true (by rfl)
  have H1 : ∀ m : Msg, mTerm m = y → mFrom m = 0 → okIdx (mIndex m) → smallL (mEntries m) → ∀ σ, Ent σ ⟨[(7, .int .i64 x), (8, .int .i64 y), (9, .ptr 9 0), (10, .ptr 10 0)], [(9, .box (cellsA tNode (oldN x) [])), (10, .box (cellsA tMsg m []))]⟩ → V σ := by
    intro m hm1 hm2 hm3 hm4 σ hσ
    refine cut_at hV _ ?_ hσ
    clear hV hσ
    have ht1 : take1 (oldN x) m = oldN x := (take_low (n := oldN x) (by rw [hm1]; exact hy0.2)).1
    have ht2 : take2 (oldN x) m = takenM (oldN x) m false (last (oldN x)) := (take_low (n := oldN x) (by rw [hm1]; exact hy0.2)).2
    simp (maxSteps := 10000000) only [c17_39, go_sem, reduceIte, Nat.reduceBEq, Nat.reduceMul, reduceCtorEq, Nat.reduceAdd, Nat.reduceEqDiff, decide_eq_true_eq, decide_eq_false_iff_not, Bool.not_eq_true', Bool.not_eq_false', Bool.and_eq_true, Bool.or_eq_true, Bool.and_eq_false_iff, Bool.or_eq_false_iff, Bool.cond_true_left, Bool.cond_false_right, Bool.cond_true_right, Bool.cond_false_left, Bool.or_false, Bool.and_true, inR, ht1, ht2]
    generalize hV : vc _ (C.cut c17_45) _ = V
    have hr1 : (takenM (oldN x) m false (last (oldN x))).length = 1 := rfl
    have hr2 : ((takenM (oldN x) m false (last (oldN x))).getD 0 (dflt tMsg)).2.2.2.2.2.2.1 = false := rfl
    have hr3 : ((takenM (oldN x) m false (last (oldN x))).getD 0 (dflt tMsg)).2.2.2.1 = x := rfl
    have hr4 : ((takenM (oldN x) m false (last (oldN x))).getD 0 (dflt tMsg)).2.2.1 = 0 := hm2
    generalize takenM (oldN x) m false (last (oldN x)) = r at *
    refine ⟨⟨hrg, hm3, hm4⟩, ?_⟩
    refine cut_at hV ⟨[(7, .int .i64 x), (8, .int .i64 y), (9, .ptr 9 0), (11, .ptr 11 0), (12, .sl tMsg r false)], [(9, .box (cellsA tNode (oldN x) [])), (11, .box (cellsA tNode (oldN x) []))]⟩ ?_ (Ent_of [(9, 9), (11, 11)] rfl ?_ ?_)
    rotate_left
    · simp only [go_sem, reduceIte, Nat.reduceBEq, Nat.reduceMul, reduceCtorEq, Nat.reduceAdd, Nat.reduceEqDiff, decide_eq_true_eq, decide_eq_false_iff_not, Bool.not_eq_true', Bool.not_eq_false', Bool.and_eq_true, Bool.or_eq_true, Bool.and_eq_false_iff, Bool.or_eq_false_iff, Bool.cond_true_left, Bool.cond_false_right, Bool.cond_true_right, Bool.cond_false_left, Bool.or_false, Bool.and_true]
    · simp only [go_sem, reduceIte, Nat.reduceBEq, Nat.reduceMul, reduceCtorEq, Nat.reduceAdd, Nat.reduceEqDiff, decide_eq_true_eq, decide_eq_false_iff_not, Bool.not_eq_true', Bool.not_eq_false', Bool.and_eq_true, Bool.or_eq_true, Bool.and_eq_false_iff, Bool.or_eq_false_iff, Bool.cond_true_left, Bool.cond_false_right, Bool.cond_true_right, Bool.cond_false_left, Bool.or_false, Bool.and_true]
    clear hV
    simp (maxSteps := 10000000) only [c17_45, go_sem, reduceIte, Nat.reduceBEq, Nat.reduceMul, reduceCtorEq, Nat.reduceAdd, Nat.reduceEqDiff, decide_eq_true_eq, decide_eq_false_iff_not, Bool.not_eq_true', Bool.not_eq_false', Bool.and_eq_true, Bool.or_eq_true, Bool.and_eq_false_iff, Bool.or_eq_false_iff, Bool.cond_true_left, Bool.cond_false_right, Bool.cond_true_right, Bool.cond_false_left, Bool.or_false, Bool.and_true, inR]
    generalize hV : vc _ (C.cut c17_50) _ = V
    have hn1 := lead1_term (oldN x)
    have hn2 := lead1_okAt hrl (of_decide_eq_true (by rfl)) 0
    have hn3 := lead1_last (oldN x)
    have hn4 : rgN (lead1 (oldN x)) := rgN_own (rgN_lead0 hrl)
    have hn5 := lead1_small hrl hso.2.1
    generalize lead1 (oldN x) = n at *
    refine ⟨hrl, ?_⟩
    refine cut_at hV ⟨[(7, .int .i64 x), (8, .int .i64 y), (9, .ptr 9 0), (11, .ptr 11 0), (12, .sl tMsg r false), (13, .ptr 13 0)], [(9, .box (cellsA tNode (oldN x) [])), (11, .box (cellsA tNode (oldN x) [])), (13, .box (cellsA tNode n []))]⟩ ?_ (Ent_of [(9, 9), (11, 11), (13, 13)] rfl ?_ ?_)
    rotate_left
    · simp only [go_sem, reduceIte, Nat.reduceBEq, Nat.reduceMul, reduceCtorEq, Nat.reduceAdd, Nat.reduceEqDiff, decide_eq_true_eq, decide_eq_false_iff_not, Bool.not_eq_true', Bool.not_eq_false', Bool.and_eq_true, Bool.or_eq_true, Bool.and_eq_false_iff, Bool.or_eq_false_iff, Bool.cond_true_left, Bool.cond_false_right, Bool.cond_true_right, Bool.cond_false_left, Bool.or_false, Bool.and_true]
    · simp only [go_sem, reduceIte, Nat.reduceBEq, Nat.reduceMul, reduceCtorEq, Nat.reduceAdd, Nat.reduceEqDiff, decide_eq_true_eq, decide_eq_false_iff_not, Bool.not_eq_true', Bool.not_eq_false', Bool.and_eq_true, Bool.or_eq_true, Bool.and_eq_false_iff, Bool.or_eq_false_iff, Bool.cond_true_left, Bool.cond_false_right, Bool.cond_true_right, Bool.cond_false_left, Bool.or_false, Bool.and_true]
    clear hV
    simp (maxSteps := 10000000) only [c17_50, go_sem, reduceIte, Nat.reduceBEq, Nat.reduceMul, reduceCtorEq, Nat.reduceAdd, Nat.reduceEqDiff, decide_eq_true_eq, decide_eq_false_iff_not, Bool.not_eq_true', Bool.not_eq_false', Bool.and_eq_true, Bool.or_eq_true, Bool.and_eq_false_iff, Bool.or_eq_false_iff, Bool.cond_true_left, Bool.cond_false_right, Bool.cond_true_right, Bool.cond_false_left, Bool.or_false, Bool.and_true, inR]
    simp only [mkPrM]
    generalize hV : vc _ (C.cut c17_56) _ = V
    have hh := heard_low (n := n) (m := mkM 4 0 1 y 9 0 true 0 [] noB) (show y < nTerm n by rw [hn1]; exact hy0.2)
    simp only [hh.1, hh.2]
    refine ⟨⟨hn4, hn2, of_decide_eq_true (by rfl), of_decide_eq_true (by rfl), by rw [hn3, hlo]; decide⟩, ?_⟩
    refine cut_at hV ⟨[(7, .int .i64 x), (8, .int .i64 y), (9, .ptr 9 0), (11, .ptr 11 0), (12, .sl tMsg r false), (13, .ptr 13 0), (15, .ptr 15 0), (16, .sl tMsg [] false)], [(9, .box (cellsA tNode (oldN x) [])), (11, .box (cellsA tNode (oldN x) [])), (13, .box (cellsA tNode n [])), (15, .box (cellsA tNode n []))]⟩ ?_ (Ent_of [(9, 9), (11, 11), (13, 13), (15, 15)] rfl ?_ ?_)
    rotate_left
    · simp only [go_sem, reduceIte, Nat.reduceBEq, Nat.reduceMul, reduceCtorEq, Nat.reduceAdd, Nat.reduceEqDiff, decide_eq_true_eq, decide_eq_false_iff_not, Bool.not_eq_true', Bool.not_eq_false', Bool.and_eq_true, Bool.or_eq_true, Bool.and_eq_false_iff, Bool.or_eq_false_iff, Bool.cond_true_left, Bool.cond_false_right, Bool.cond_true_right, Bool.cond_false_left, Bool.or_false, Bool.and_true]
    · simp only [go_sem, reduceIte, Nat.reduceBEq, Nat.reduceMul, reduceCtorEq, Nat.reduceAdd, Nat.reduceEqDiff, decide_eq_true_eq, decide_eq_false_iff_not, Bool.not_eq_true', Bool.not_eq_false', Bool.and_eq_true, Bool.or_eq_true, Bool.and_eq_false_iff, Bool.or_eq_false_iff, Bool.cond_true_left, Bool.cond_false_right, Bool.cond_true_right, Bool.cond_false_left, Bool.or_false, Bool.and_true]
    clear hV
    have q1 : decide ((r.length : Int) = 1) = true := decide_eq_true (by rw [hr1]; rfl)
    have q2 : decide ((r.getD 0 (dflt tMsg)).2.2.2.1 = x) = true := decide_eq_true hr3
    have q3 : decide ((r.getD 0 (dflt tMsg)).2.2.1 = 0) = true := decide_eq_true hr4
    have q4 : decide (((0 : Nat) : Int) = 0) = true := rfl
    simp (maxSteps := 10000000) only [c17_56, go_sem, reduceIte, Nat.reduceBEq, Nat.reduceMul, reduceCtorEq, Nat.reduceAdd, Nat.reduceEqDiff, decide_eq_true_eq, decide_eq_false_iff_not, Bool.not_eq_true', Bool.not_eq_false', Bool.and_eq_true, Bool.or_eq_true, Bool.and_eq_false_iff, Bool.or_eq_false_iff, Bool.cond_true_left, Bool.cond_false_right, Bool.cond_true_right, Bool.cond_false_left, Bool.or_false, Bool.and_true, inR, eqB_self, q1, q2, q3, q4, hr2, decide_true]
    exact ⟨hso, ⟨by omega, by omega⟩, ⟨by omega, by omega⟩, ⟨by omega, by omega⟩, hn5⟩
  refine ⟨show (0 : Int) < 100 ∧ (100 : Int) ≤ 1099511627776 by decide, by omega, by omega, show 0 < x - 1 ∧ x - 1 ≤ 1099511627776 from by omega, by omega, fun hi => ?_, fun hi => ?_⟩
  · refine H1 (mkM 5 0 1 y 5 1 false 0 [] ⟨#[120]⟩) rfl rfl ⟨of_decide_eq_true (by rfl), of_decide_eq_true (by rfl)⟩ (of_decide_eq_true (by rfl)) _ (Ent_of [(9, 9), (10, 10)] rfl ?_ ?_)
    · simp only [go_sem, reduceIte, Nat.reduceBEq, Nat.reduceMul, reduceCtorEq, Nat.reduceAdd, Nat.reduceEqDiff, decide_eq_true_eq, decide_eq_false_iff_not, Bool.not_eq_true', Bool.not_eq_false', Bool.and_eq_true, Bool.or_eq_true, Bool.and_eq_false_iff, Bool.or_eq_false_iff, Bool.cond_true_left, Bool.cond_false_right, Bool.cond_true_right, Bool.cond_false_left, Bool.or_false, Bool.and_true]
      repeat (first | exact rfl | refine ⟨rfl, ?_⟩)
    · simp only [go_sem, reduceIte, Nat.reduceBEq, Nat.reduceMul, reduceCtorEq, Nat.reduceAdd, Nat.reduceEqDiff, decide_eq_true_eq, decide_eq_false_iff_not, Bool.not_eq_true', Bool.not_eq_false', Bool.and_eq_true, Bool.or_eq_true, Bool.and_eq_false_iff, Bool.or_eq_false_iff, Bool.cond_true_left, Bool.cond_false_right, Bool.cond_true_right, Bool.cond_false_left, Bool.or_false, Bool.and_true]
  · refine H1 (mkM 3 0 1 y 0 0 false 1 [mkE y ⟨#[120]⟩] noB) rfl rfl ⟨of_decide_eq_true (by rfl), of_decide_eq_true (by rfl)⟩ (of_decide_eq_true (by rfl)) _ (Ent_of [(9, 9), (10, 10)] rfl ?_ ?_)
    · simp only [go_sem, reduceIte, Nat.reduceBEq, Nat.reduceMul, reduceCtorEq, Nat.reduceAdd, Nat.reduceEqDiff, decide_eq_true_eq, decide_eq_false_iff_not, Bool.not_eq_true', Bool.not_eq_false', Bool.and_eq_true, Bool.or_eq_true, Bool.and_eq_false_iff, Bool.or_eq_false_iff, Bool.cond_true_left, Bool.cond_false_right, Bool.cond_true_right, Bool.cond_false_left, Bool.or_false, Bool.and_true]
      repeat (first | exact rfl | refine ⟨rfl, ?_⟩)
    · simp only [go_sem, reduceIte, Nat.reduceBEq, Nat.reduceMul, reduceCtorEq, Nat.reduceAdd, Nat.reduceEqDiff, decide_eq_true_eq, decide_eq_false_iff_not, Bool.not_eq_true', Bool.not_eq_false', Bool.and_eq_true, Bool.or_eq_true, Bool.and_eq_false_iff, Bool.or_eq_false_iff, Bool.cond_true_left, Bool.cond_false_right, Bool.cond_true_right, Bool.cond_false_left, Bool.or_false, Bool.and_true]
end Go.AM
