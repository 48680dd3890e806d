import Derived.Test.YtbcbgfkojmligaaHC
import Derived.KernelRfl
import Derived.Test.YtbcbgfkojmligaaProg
/- What functions of the program answer, each under the conditions that its contract names. -/
set_option linter.unusedVariables false
set_option linter.unusedSimpArgs false
set_option maxRecDepth 100000
namespace Go.AM
def c40 : C := (.seq (.reg [⟨(some 2), .box, [.t 0], none⟩,
  ⟨(some 3), .box, [.t 1], none⟩,
  ⟨(some 4), (.alloc [.int .i64 0, .int .i64 0, .int .i64 0, .int .i64 0, .int .i64 0, .int .i64 0, .str ⟨#[]⟩, .sl tEntry [] true, .int .i64 0, .int .i64 0, .int .i64 0, .sl .bool [] true, .sl tI [] true, .sl tI [] true, .int .i64 0]), [], none⟩,
  ⟨(some 5), .mv, [.c (.bool false)], none⟩])
 (.seq (.reg [⟨(some 6), (.load 15 true), [.t 2], none⟩,
  ⟨(some 7), (.fld 3), [.t 3], none⟩,
  ⟨(some 8), (.load 1 false), [.t 7], none⟩,
  ⟨(some 9), (.call 32), [.t 6, .t 8], none⟩,
  ⟨none, (.store 15), [.t 2, .t 9], none⟩])
 (.seq (.seq (.reg [⟨(some 10), (.fld 6), [.t 3], none⟩,
  ⟨(some 11), (.load 1 false), [.t 10], none⟩,
  ⟨(some 12), .not, [.t 11], none⟩,
  ⟨(some 13), .mv, [.t 12], none⟩,
  ⟨(some 14), (.fld 3), [.t 3], (some (13, false))⟩,
  ⟨(some 15), (.load 1 false), [.t 14], (some (13, false))⟩,
  ⟨(some 16), (.fld 2), [.t 2], (some (13, false))⟩,
  ⟨(some 17), (.load 1 false), [.t 16], (some (13, false))⟩,
  ⟨(some 18), (.bin .neq), [.t 15, .t 17], (some (13, false))⟩,
  ⟨(some 19), .pick, [.t 13, .c (.bool true), .t 18], none⟩,
  ⟨(some 20), .mv, [.t 19], none⟩,
  ⟨(some 21), (.fld 8), [.t 2], (some (20, false))⟩,
  ⟨(some 22), (.load 1 false), [.t 21], (some (20, false))⟩,
  ⟨(some 23), (.bin .neq), [.t 22, .c (.int .i64 1)], (some (20, false))⟩,
  ⟨(some 24), .pick, [.t 20, .c (.bool true), .t 23], none⟩,
  ⟨(some 25), .mv, [.t 24], none⟩,
  ⟨(some 26), (.fld 1), [.t 3], (some (25, false))⟩,
  ⟨(some 27), (.load 1 false), [.t 26], (some (25, false))⟩,
  ⟨(some 28), (.bin .lss), [.t 27, .c (.int .i64 0)], (some (25, false))⟩,
  ⟨(some 29), .pick, [.t 25, .c (.bool true), .t 28], none⟩,
  ⟨(some 30), .mv, [.t 29], none⟩,
  ⟨(some 31), (.fld 1), [.t 3], (some (30, false))⟩,
  ⟨(some 32), (.load 1 false), [.t 31], (some (30, false))⟩,
  ⟨(some 33), (.fld 11), [.t 2], (some (30, false))⟩,
  ⟨(some 34), (.load 1 false), [.t 33], (some (30, false))⟩,
  ⟨(some 35), .len, [.t 34], (some (30, false))⟩,
  ⟨(some 36), (.bin .geq), [.t 32, .t 35], (some (30, false))⟩,
  ⟨(some 37), .pick, [.t 30, .c (.bool true), .t 36], none⟩])
 (.cond (.t 37) (.seq (.reg [⟨(some 38), (.load 15 true), [.t 2], none⟩,
  ⟨none, (.store 15), [.t 4, .t 38], none⟩,
  ⟨(some 5), .mv, [.c (.bool false)], none⟩])
 .ret) .skip))
 (.seq (.reg [⟨(some 39), (.fld 11), [.t 2], none⟩,
  ⟨(some 40), (.load 1 false), [.t 39], none⟩,
  ⟨(some 41), (.app 1 1), [.c (.sl .bool [] true), .t 40], none⟩,
  ⟨(some 42), (.fld 11), [.t 2], none⟩,
  ⟨none, (.store 1), [.t 42, .t 41], none⟩])
 (.seq (.reg [⟨(some 43), (.fld 11), [.t 2], none⟩,
  ⟨(some 44), (.load 1 false), [.t 43], none⟩,
  ⟨(some 45), (.fld 1), [.t 3], none⟩,
  ⟨(some 46), (.load 1 false), [.t 45], none⟩,
  ⟨(some 47), (.idx 1), [.t 44, .t 46], none⟩,
  ⟨none, (.store 1), [.t 47, .c (.bool true)], none⟩])
 (.seq (.regd [⟨(some 48), (.load 15 true), [.t 2], none⟩,
  ⟨(some 49), (.fld 11), [.t 2], none⟩,
  ⟨(some 50), (.load 1 false), [.t 49], none⟩,
  ⟨(some 51), (.call 95), [.t 50, .c (.clo 96 [])], none⟩,
  ⟨(some 52), (.load 15 true), [.t 2], none⟩,
  ⟨(some 53), (.call 44), [.t 52], none⟩,
  ⟨(some 54), (.bin .geq), [.t 51, .t 53], none⟩,
  ⟨none, (.store 15), [.t 4, .t 48], none⟩,
  ⟨(some 5), .mv, [.t 54], none⟩] [0, 0, 2, 4, 0, 24, 40, 33, 255])
 .ret))))))
theorem comp40 : compC Go.Proofs.Try.prog ttL 55 [] (match Go.Proofs.Try.f40.body with | some b => b | none => .skip) = some (c40) := by kernel_rfl
def c95 : C := (.seq (.reg [⟨(some 4), .mv, [.c (.int .i64 0)], none⟩])
 (.seq (.reg [⟨(some 5), .mv, [.c (.int .i64 0)], none⟩])
 (.seq (.seq (.reg [⟨(some 8), .mv, [.t 0], none⟩,
  ⟨(some 9), .len, [.t 8], none⟩,
  ⟨(some 10), .mv, [.c (.int .i64 0)], none⟩])
 (.block 0 (.loop (.seq (.reg [⟨(some 11), (.bin .lss), [.t 10, .t 9], none⟩])
 (.seq (.cond (.t 11) .skip (.exit 0))
 (.seq (.block 1 (.seq (.reg [⟨(some 12), (.idx 1), [.t 8, .t 10], none⟩,
  ⟨(some 13), (.load 1 false), [.t 12], none⟩,
  ⟨(some 7), .mv, [.t 13], none⟩])
 (.seq (.reg [⟨(some 14), .mv, [.t 1], none⟩,
  ⟨(some 15), .mv, [.t 7], none⟩,
  ⟨(some 16), .callv, [.t 14, .t 15], none⟩])
 (.cond (.t 16) (.reg [⟨(some 17), .mv, [.t 5], none⟩,
  ⟨(some 18), (.bin .add), [.t 17, .c (.int .i64 1)], none⟩,
  ⟨(some 5), .mv, [.t 18], none⟩]) .skip))))
 (.reg [⟨(some 19), (.bin .add), [.t 10, .c (.int .i64 1)], none⟩,
  ⟨(some 10), .mv, [.t 19], none⟩])))))))
 (.seq (.reg [⟨(some 20), .mv, [.t 5], none⟩,
  ⟨(some 4), .mv, [.t 20], none⟩])
 .ret))))
theorem comp95 : compC Go.Proofs.Try.prog ttL 21 [] (match Go.Proofs.Try.f95.body with | some b => b | none => .skip) = some (c95) := by kernel_rfl
def c96 : C := (.seq (.reg [⟨(some 2), .mv, [.c (.bool false)], none⟩])
 (.seq (.reg [⟨(some 3), .mv, [.t 0], none⟩,
  ⟨(some 2), .mv, [.t 3], none⟩])
 .ret))
theorem comp96 : compC Go.Proofs.Try.prog ttL 4 [] (match Go.Proofs.Try.f96.body with | some b => b | none => .skip) = some (c96) := by kernel_rfl
end Go.AM
set_option maxRecDepth 100000
set_option maxHeartbeats 4000000
set_option linter.unusedSimpArgs false
namespace Go.AM
open Go.Proofs
attribute [local congr] vc_congr evOps_congr evTab_congr bind_congr condK_congr tabK_congr
@[go_sem] theorem dropTy_unit {b} : dropTy .unit b = some b := by cases b <;> rfl
@[go_sem] theorem dropTy_pair {t a b} : dropTy (.pair t a) (.pair t b) = dropTy a b := by simp [dropTy]
@[go_sem] theorem toArgs0_nil {H : Heap} : toArgs0 H .unit [] = some () := rfl
def opt2 {α β γ : Type} (f : α → β → γ) : Option α → Option β → Option γ
  | some x, some y => some (f x y)
  | _, _ => none
@[go_sem] theorem opt2_some {α β γ : Type} {f : α → β → γ} {x : α} {y : β} : opt2 f (some x) (some y) = some (f x y) := rfl
@[go_sem] theorem toArgs0_cons {H : Heap} {t b v vs} : toArgs0 H (.pair t b) (v :: vs) = opt2 (pr (a := t) (b := b)) (toV H t v) (toArgs0 H b vs) := by
  simp only [toArgs0]
  cases toV H t v with
  | none => rfl
  | some x => cases toArgs0 H b vs <;> rfl
@[go_sem] theorem fnAs_bool {pre f y bk bf} : fnAs (.pair .bool .unit) (.pair .bool .unit) ⟨.pair .bool .unit, .pair .bool .unit, pre, f, true, none, bk, bf⟩ .unit y = some fun x => f (x.1, ()) := by
  unfold fnAs
  rw [dif_pos ⟨rfl, rfl, rfl, rfl, rfl, rfl, rfl⟩]
  rfl
def fn96 : Fn := { a := .pair .bool .unit, r := .pair .bool .unit, pre := fun _ => True, f := fun x => (x.1, ()), tot := true }
theorem h96 : Holds Try.prog 96 fn96 := by
  refine Holds.of_vc (T := []) (TT := ttL) (rowAt := []) (c := c96) (ros := [.t 2]) (.nil _) mixed Try.func96 (by decide +kernel) (by rfl) comp96 (by kernel_rfl) rfl rfl (fun _ _ => trivial) ?_
  rintro ⟨(b : Bool), _⟩ hpre
  simp only [fn96] at hpre ⊢
  simp only [c96, go_sem, reduceIte, Nat.reduceBEq, Nat.reduceMul, reduceCtorEq, Nat.reduceAdd, Nat.reduceEqDiff, decide_eq_true_eq, decide_eq_false_iff_not, Bool.not_eq_true', Bool.not_eq_false', Bool.and_eq_true, Bool.or_eq_true, Bool.and_eq_false_iff, Bool.or_eq_false_iff, Bool.cond_true_left, Bool.cond_false_right, Bool.cond_true_right, Bool.cond_false_left, Bool.or_false, Bool.and_true]
def countB (l : List Bool) (p : Bool → Bool) (i : Nat) : Nat := (l.take i).countP p
theorem countB_le (l : List Bool) (p : Bool → Bool) (i : Nat) : countB l p i ≤ l.length := by
  unfold countB
  have := List.countP_le_length (p := p) (l := l.take i)
  rw [List.length_take] at this
  omega
theorem countB_yes {l : List Bool} {p : Bool → Bool} {i : Nat} (h : i < l.length) (hp : p (l.getD i false) = true) : countB l p (i + 1) = countB l p i + 1 := by
  unfold countB
  rw [List.getD_eq_getElem?_getD, List.getElem?_eq_getElem h] at hp
  rw [List.take_add_one, List.countP_append, List.getElem?_eq_getElem h]
  simp only [Option.getD_some] at hp
  simp [hp]
theorem countB_no {l : List Bool} {p : Bool → Bool} {i : Nat} (h : i < l.length) (hp : p (l.getD i false) = false) : countB l p (i + 1) = countB l p i := by
  unfold countB
  rw [List.getD_eq_getElem?_getD, List.getElem?_eq_getElem h] at hp
  rw [List.take_add_one, List.countP_append, List.getElem?_eq_getElem h]
  simp only [Option.getD_some] at hp
  simp [hp]
def fn95 : Fn := { a := .pair (.list .bool) (.pair (.fn (.pair .bool .unit) (.pair .bool .unit)) .unit), r := .pair tI .unit, pre := fun x => smallL x.1, f := fun x => ((countB x.1 (fun b => (x.2.1 (b, ())).1) x.1.length : Int), ()) }
theorem h95  : Holds Try.prog 95 (fn95) := by
  refine Holds.of_vc (T := []) (TT := ttL) (rowAt := []) (c := c95) (ros := [.t 4]) (.nil _) mixed Try.func95 (by decide +kernel) (by rfl) comp95 (by kernel_rfl) rfl rfl (fun h => by cases h) ?_
  rintro ⟨(l : List Bool), (p : Bool × Unit → Bool × Unit), _⟩ hpre
  simp only [fn95] at hpre ⊢
  simp only [c95, go_sem, reduceIte, Nat.reduceBEq, Nat.reduceMul, reduceCtorEq, Nat.reduceAdd, Nat.reduceEqDiff, decide_eq_true_eq, decide_eq_false_iff_not, Bool.not_eq_true', Bool.not_eq_false', Bool.and_eq_true, Bool.or_eq_true, Bool.and_eq_false_iff, Bool.or_eq_false_iff, Bool.cond_true_left, Bool.cond_false_right, Bool.cond_true_right, Bool.cond_false_left, Bool.or_false, Bool.and_true, inR]
  refine loop_rule (β := Nat) (fun i => ⟨[(1, .fv (.pair .bool .unit) (.pair .bool .unit) p), (5, .int .i64 (countB l (fun b => (p (b, ())).1) i)), (8, .sl .bool l false), (9, .int .i64 l.length), (10, .int .i64 i)], []⟩) (fun i => i ≤ l.length) (fun i => l.length - i) 0 ?_ ?_ ?_
  · refine Ent_of [] rfl ?_ ?_
    · simp only [go_sem, reduceIte, Nat.reduceBEq, Nat.reduceMul, reduceCtorEq, Nat.reduceAdd, Nat.reduceEqDiff, decide_eq_true_eq, decide_eq_false_iff_not, Bool.not_eq_true', Bool.not_eq_false', Bool.and_eq_true, Bool.or_eq_true, Bool.and_eq_false_iff, Bool.or_eq_false_iff, Bool.cond_true_left, Bool.cond_false_right, Bool.cond_true_right, Bool.cond_false_left, Bool.or_false, Bool.and_true]
    · simp only [go_sem, reduceIte, Nat.reduceBEq, Nat.reduceMul, reduceCtorEq, Nat.reduceAdd, Nat.reduceEqDiff, decide_eq_true_eq, decide_eq_false_iff_not, Bool.not_eq_true', Bool.not_eq_false', Bool.and_eq_true, Bool.or_eq_true, Bool.and_eq_false_iff, Bool.or_eq_false_iff, Bool.cond_true_left, Bool.cond_false_right, Bool.cond_true_right, Bool.cond_false_left, Bool.or_false, Bool.and_true]
      trivial
  · exact Nat.zero_le _
  intro i hi
  have hc := countB_le l (fun b => (p (b, ())).1) i
  simp only [sm] at hpre
  simp only [go_sem, reduceIte, Nat.reduceBEq, Nat.reduceMul, reduceCtorEq, Nat.reduceAdd, Nat.reduceEqDiff, decide_eq_true_eq, decide_eq_false_iff_not, Bool.not_eq_true', Bool.not_eq_false', Bool.and_eq_true, Bool.or_eq_true, Bool.and_eq_false_iff, Bool.or_eq_false_iff, Bool.cond_true_left, Bool.cond_false_right, Bool.cond_true_right, Bool.cond_false_left, Bool.or_false, Bool.and_true, inR]
  refine ⟨fun h => ⟨by omega, fun hp => ⟨by omega, by omega, Again.intro (i + 1) (Ent_of [] rfl ?_ ?_) ?_ ?_⟩, fun hp => ⟨by omega, Again.intro (i + 1) (Ent_of [] rfl ?_ ?_) ?_ ?_⟩⟩, fun h => ?_⟩
  · simp only [go_sem, reduceIte, Nat.reduceBEq, Nat.reduceMul, reduceCtorEq, Nat.reduceAdd, Nat.reduceEqDiff, decide_eq_true_eq, decide_eq_false_iff_not, Bool.not_eq_true', Bool.not_eq_false', Bool.and_eq_true, Bool.or_eq_true, Bool.and_eq_false_iff, Bool.or_eq_false_iff, Bool.cond_true_left, Bool.cond_false_right, Bool.cond_true_right, Bool.cond_false_left, Bool.or_false, Bool.and_true]
  · simp only [go_sem, reduceIte, Nat.reduceBEq, Nat.reduceMul, reduceCtorEq, Nat.reduceAdd, Nat.reduceEqDiff, decide_eq_true_eq, decide_eq_false_iff_not, Bool.not_eq_true', Bool.not_eq_false', Bool.and_eq_true, Bool.or_eq_true, Bool.and_eq_false_iff, Bool.or_eq_false_iff, Bool.cond_true_left, Bool.cond_false_right, Bool.cond_true_right, Bool.cond_false_left, Bool.or_false, Bool.and_true]
    rw [countB_yes (by omega) hp]
    omega
  · show i + 1 ≤ l.length; omega
  · show l.length - (i + 1) < l.length - i; omega
  · simp only [go_sem, reduceIte, Nat.reduceBEq, Nat.reduceMul, reduceCtorEq, Nat.reduceAdd, Nat.reduceEqDiff, decide_eq_true_eq, decide_eq_false_iff_not, Bool.not_eq_true', Bool.not_eq_false', Bool.and_eq_true, Bool.or_eq_true, Bool.and_eq_false_iff, Bool.or_eq_false_iff, Bool.cond_true_left, Bool.cond_false_right, Bool.cond_true_right, Bool.cond_false_left, Bool.or_false, Bool.and_true]
  · simp only [go_sem, reduceIte, Nat.reduceBEq, Nat.reduceMul, reduceCtorEq, Nat.reduceAdd, Nat.reduceEqDiff, decide_eq_true_eq, decide_eq_false_iff_not, Bool.not_eq_true', Bool.not_eq_false', Bool.and_eq_true, Bool.or_eq_true, Bool.and_eq_false_iff, Bool.or_eq_false_iff, Bool.cond_true_left, Bool.cond_false_right, Bool.cond_true_right, Bool.cond_false_left, Bool.or_false, Bool.and_true]
    rw [countB_no (by omega) hp]
    omega
  · show i + 1 ≤ l.length; omega
  · show l.length - (i + 1) < l.length - i; omega
  · rw [show i = l.length by omega]
def givenC (d : Node) (m : Msg) : Prop := mYes m = true ∧ mTerm m = nTerm d ∧ nRole d = 1 ∧ 0 ≤ mFrom m ∧ mFrom m < (nVotes d).length
instance (d : Node) (m : Msg) : Decidable (givenC d m) := inferInstanceAs (Decidable (_ ∧ _))
def given1' (d : Node) (m : Msg) : Node := if givenC d m then mkN (nId d) (nNodes d) (nTerm d) (nVote d) (nBase d) (nBT d) (nSnap d) (nLog d) (nRole d) (nLead d) (nCommit d) ((nVotes d).set (mFrom m).toNat true) (nNext d) (nMatch d) (nClock d) else d
def cnt (l : List Bool) : Nat := countB l id l.length
def given2' (d : Node) (m : Msg) : Bool := if givenC d m then decide (most d ≤ cnt ((nVotes d).set (mFrom m).toNat true)) else false
def given1 (n : Node) (m : Msg) : Node := given1' (down n (mTerm m)) m
def given2 (n : Node) (m : Msg) : Bool := given2' (down n (mTerm m)) m
theorem down_votes (n : Node) (t : Int) : (nVotes (down n t)).length ≤ max (nVotes n).length 5 := by
  unfold down; split
  · show (votes n).length ≤ _
    rw [votes_len]; omega
  · omega
def fn40 : Fn := { a := .pair tNode (.pair tMsg .unit), r := .pair tNode (.pair .bool .unit), pre := fun x => 0 ≤ nNodes x.1 ∧ nNodes x.1 ≤ 100 ∧ smallL (nVotes x.1), f := fun x => (given1 x.1 x.2.1, given2 x.1 x.2.1, ()) }
theorem h40  : Holds Try.prog 40 (fn40) := by
  refine Holds.of_vc (T := [(32, fn32), (95, fn95), (96, fn96), (44, fn44)]) (TT := ttL) (rowAt := []) (c := c40) (ros := [.c 4 15, .t 5]) (.cons _ h32 (.cons _ h95 (.cons _ h96 (.cons _ h44 (.nil _))))) mixed Try.func40 (by decide +kernel) (by rfl) comp40 (by kernel_rfl) rfl rfl (fun h => by cases h) ?_
  rintro ⟨(n : Node), (m : Msg), _⟩ hpre
  simp only [fn40] at hpre ⊢
  simp only [c40, fn32, fn95, fn96, fn44, go_sem, reduceIte, Nat.reduceBEq, Nat.reduceMul, reduceCtorEq, Nat.reduceAdd, Nat.reduceEqDiff, decide_eq_true_eq, decide_eq_false_iff_not, Bool.not_eq_true', Bool.not_eq_false', Bool.and_eq_true, Bool.or_eq_true, Bool.and_eq_false_iff, Bool.or_eq_false_iff, Bool.cond_true_left, Bool.cond_false_right, Bool.cond_true_right, Bool.cond_false_left, Bool.or_false, Bool.and_true, inR]
  simp only [given1, given2]
  have hv := down_votes n (mTerm m)
  have hn := down_nodes n (mTerm m)
  generalize hd : down n m.2.2.2.1 = d at *
  have hp1 : 0 ≤ nNodes d ∧ nNodes d ≤ 100 := by rw [hn]; exact ⟨hpre.1, hpre.2.1⟩
  have hp2 : (nVotes d).length ≤ 1048576 := by have := hpre.2.2; rw [sm] at this; omega
  refine ⟨fun h => ?_, fun h => ?_⟩
  · have hc : ¬ givenC d m := by
      rintro ⟨c1, c2, c3, c4, c5⟩
      rcases h with (((h | h) | h) | h) | h
      · rw [show m.2.2.2.2.2.2.1 = true from c1] at h; cases h
      · exact h c2
      · exact h c3
      · exact absurd c4 (by dsimp only [den, nId, nNodes, nTerm, nVote, nBase, nBT, nSnap, nLog, nRole, nLead, nCommit, nVotes, nNext, nMatch, nClock, mKind, mFrom, mTo, mTerm, mIndex, mAt, mYes, mCommit, mEntries, mSnap, eTerm, eCmd, mkN, mkM, mkE, last, inR, sm, lastT] at *; omega)
      · exact absurd c5 (by dsimp only [den, nId, nNodes, nTerm, nVote, nBase, nBT, nSnap, nLog, nRole, nLead, nCommit, nVotes, nNext, nMatch, nClock, mKind, mFrom, mTo, mTerm, mIndex, mAt, mYes, mCommit, mEntries, mSnap, eTerm, eCmd, mkN, mkM, mkE, last, inR, sm, lastT] at *; omega)
    exact ⟨(if_neg hc).symm, (if_neg hc).symm⟩
  · have hc : givenC d m := ⟨h.1.1.1.1, h.1.1.1.2, h.1.1.2, by have := h.1.2; dsimp only [den, nId, nNodes, nTerm, nVote, nBase, nBT, nSnap, nLog, nRole, nLead, nCommit, nVotes, nNext, nMatch, nClock, mKind, mFrom, mTo, mTerm, mIndex, mAt, mYes, mCommit, mEntries, mSnap, eTerm, eCmd, mkN, mkM, mkE, last, inR, sm, lastT] at *; omega, by have := h.2; dsimp only [den, nId, nNodes, nTerm, nVote, nBase, nBT, nSnap, nLog, nRole, nLead, nCommit, nVotes, nNext, nMatch, nClock, mKind, mFrom, mTo, mTerm, mIndex, mAt, mYes, mCommit, mEntries, mSnap, eTerm, eCmd, mkN, mkM, mkE, last, inR, sm, lastT] at *; omega⟩
    refine ⟨⟨by dsimp only [den, nId, nNodes, nTerm, nVote, nBase, nBT, nSnap, nLog, nRole, nLead, nCommit, nVotes, nNext, nMatch, nClock, mKind, mFrom, mTo, mTerm, mIndex, mAt, mYes, mCommit, mEntries, mSnap, eTerm, eCmd, mkN, mkM, mkE, last, inR, sm, lastT] at *; omega, by dsimp only [den, nId, nNodes, nTerm, nVote, nBase, nBT, nSnap, nLog, nRole, nLead, nCommit, nVotes, nNext, nMatch, nClock, mKind, mFrom, mTo, mTerm, mIndex, mAt, mYes, mCommit, mEntries, mSnap, eTerm, eCmd, mkN, mkM, mkE, last, inR, sm, lastT] at *; omega⟩, ⟨hc.2.2.2.1, hc.2.2.2.2⟩, ?_, hp1, by rfl, (if_pos hc).symm, ?_⟩
    · rw [sm, List.length_set]; exact hp2
    · unfold given2'
      rw [if_pos hc]
      unfold cnt
      rw [List.length_set]
      rfl
end Go.AM
