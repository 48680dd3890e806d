import Derived.Test.YtbcbgfkojmligaaHG
import Derived.Test.YtbcbgfkojmligaaTH
/- What functions of the program answer, each under the conditions that its contract names. -/
set_option linter.unusedVariables false
set_option linter.unusedSimpArgs false
set_option maxRecDepth 100000
set_option maxHeartbeats 8000000
set_option linter.unusedSimpArgs false
namespace Go.AM
open Go.Proofs
attribute [local congr] vc_congr evOps_congr evTab_congr bind_congr condK_congr tabK_congr
def fn105 : Fn := { a := .pair (.list tEntry) .unit, r := .pair (.olist tEntry) .unit, pre := fun x => smallL x.1, f := fun x => (x.1, ()) }
theorem h105  : Holds Try.prog 105 (fn105) := by
  refine Holds.of_vc (T := []) (TT := ttL) (rowAt := []) (c := c105) (ros := [.t 2]) (.nil _) mixed Try.func105 (by decide +kernel) (by rfl) comp105 (by kernel_rfl) rfl rfl (fun h => by cases h) ?_
  rintro ⟨(l : List E), _⟩ hpre
  simp only [fn105] at hpre ⊢
  simp only [c105, go_sem, reduceIte, Nat.reduceBEq, Nat.reduceMul, reduceCtorEq, Nat.reduceAdd, Nat.reduceEqDiff, decide_eq_true_eq, decide_eq_false_iff_not, Bool.not_eq_true', Bool.not_eq_false', Bool.and_eq_true, Bool.or_eq_true, Bool.and_eq_false_iff, Bool.or_eq_false_iff, Bool.cond_true_left, Bool.cond_false_right, Bool.cond_true_right, Bool.cond_false_left, Bool.or_false, Bool.and_true, inR]
  intro b hb
  simp only [sm] at hpre
  refine ⟨fun h => ?_, fun _ => ⟨by omega, by omega⟩⟩
  cases l with
  | nil => rfl
  | cons x l => rw [hb (by intro e; cases e)] at h; cases h
def fn51 : Fn := { a := .pair tNode (.pair tI (.pair .str .unit)), r := .pair tNode .unit, pre := fun x => InR .i64 (x.2.1 - nBase x.1) ∧ InR .i64 (x.2.1 - nBase x.1 - 1) ∧ InR .i64 (last x.1) ∧ smallL (nLog x.1), f := fun x => (cutN x.1 x.2.1 x.2.2.1, ()) }
theorem h51  : Holds Try.prog 51 (fn51) := by
  refine Holds.of_vc (T := [(48, fn48), (53, fn53), (105, fn105)]) (TT := ttL) (rowAt := []) (c := c51) (ros := [.c 6 15]) (.cons _ h48 (.cons _ h53 (.cons _ h105 (.nil _)))) mixed Try.func51 (by decide +kernel) (by rfl) comp51 (by kernel_rfl) rfl rfl (fun h => by cases h) ?_
  rintro ⟨(n : Node), (i : Int), (s : ByteArray), _⟩ hpre
  simp only [fn51] at hpre ⊢
  simp only [c51, fn48, fn53, fn105, go_sem, reduceIte, Nat.reduceBEq, Nat.reduceMul, reduceCtorEq, Nat.reduceAdd, Nat.reduceEqDiff, decide_eq_true_eq, decide_eq_false_iff_not, Bool.not_eq_true', Bool.not_eq_false', Bool.and_eq_true, Bool.or_eq_true, Bool.and_eq_false_iff, Bool.or_eq_false_iff, Bool.cond_true_left, Bool.cond_false_right, Bool.cond_true_right, Bool.cond_false_left, Bool.or_false, Bool.and_true, inR]
  obtain ⟨p1, p2, p3, p4⟩ := hpre
  have hok : termOk n i = decide (nBase n ≤ i ∧ i ≤ last n) := rfl
  refine ⟨⟨p3, p2, p1⟩, fun h => ?_, fun h => ⟨p1, ?_, ?_⟩⟩
  · refine (if_pos ?_).symm
    rcases h with (h | h) | h
    · exact .inl h
    · exact .inr (.inl h)
    · rw [hok, decide_eq_false_iff_not] at h
      by_cases h2 : i ≤ nBase n
      · exact .inl h2
      · refine .inr (.inr ?_)
        show last n < i
        omega
  · rw [sm] at p4 ⊢
    have : (behindN n i).length ≤ (nLog n).length := by unfold behindN; rw [List.length_drop]; omega
    omega
  · have h2 := h.2
    rw [hok, decide_eq_true_eq] at h2
    refine (if_neg ?_).symm
    intro h3
    rcases h3 with h3 | h3 | h3
    · exact h.1.1 h3
    · exact h.1.2 h3
    · have : last n < i := h3
      omega
def fn55 : Fn := { a := .pair tNode .unit, r := .pair tHard .unit, pre := fun x => smallL (nLog x.1), f := fun x => (hard x.1, ()) }
theorem h55  : Holds Try.prog 55 (fn55) := by
  refine Holds.of_vc (T := [(105, fn105)]) (TT := ttL) (rowAt := []) (c := c55) (ros := [.c 2 6]) (.cons _ h105 (.nil _)) mixed Try.func55 (by decide +kernel) (by rfl) comp55 (by kernel_rfl) rfl rfl (fun h => by cases h) ?_
  rintro ⟨(n : Node), _⟩ hpre
  simp only [fn55] at hpre ⊢
  simp only [c55, fn105, go_sem, reduceIte, Nat.reduceBEq, Nat.reduceMul, reduceCtorEq, Nat.reduceAdd, Nat.reduceEqDiff, decide_eq_true_eq, decide_eq_false_iff_not, Bool.not_eq_true', Bool.not_eq_false', Bool.and_eq_true, Bool.or_eq_true, Bool.and_eq_false_iff, Bool.or_eq_false_iff, Bool.cond_true_left, Bool.cond_false_right, Bool.cond_true_right, Bool.cond_false_left, Bool.or_false, Bool.and_true, inR]
  exact ⟨hpre, by rfl, rfl⟩
abbrev hTerm (h : Hrd) : Int := h.1
abbrev hVote (h : Hrd) : Int := h.2.1
abbrev hBase (h : Hrd) : Int := h.2.2.1
abbrev hBT (h : Hrd) : Int := h.2.2.2.1
abbrev hSnap (h : Hrd) : ByteArray := h.2.2.2.2.1
abbrev hLog (h : Hrd) : List E := h.2.2.2.2.2.1
def wakeN (id nodes : Int) (h : Hrd) : Node :=
  mkN (nId (newN id nodes)) (nNodes (newN id nodes)) (hTerm h) (hVote h) (hBase h) (hBT h) (hSnap h) (hLog h) 0 (-1) (hBase h) (nVotes (newN id nodes)) (nNext (newN id nodes)) (nMatch (newN id nodes)) 0
def fn54 : Fn := { a := .pair tI (.pair tI (.pair tHard .unit)), r := .pair tNode .unit, pre := fun x => smallL (hLog x.2.2.1), f := fun x => (wakeN x.1 x.2.1 x.2.2.1, ()) }
theorem h54  : Holds Try.prog 54 (fn54) := by
  refine Holds.of_vc (T := [(64, fn64), (105, fn105)]) (TT := ttL) (rowAt := []) (c := c54) (ros := [.c 6 15]) (.cons _ h64 (.cons _ h105 (.nil _))) mixed Try.func54 (by decide +kernel) (by rfl) comp54 (by kernel_rfl) rfl rfl (fun h => by cases h) ?_
  rintro ⟨(id : Int), (nodes : Int), (h : Hrd), _⟩ hpre
  simp only [fn54] at hpre ⊢
  simp only [c54, fn64, fn105, go_sem, reduceIte, Nat.reduceBEq, Nat.reduceMul, reduceCtorEq, Nat.reduceAdd, Nat.reduceEqDiff, decide_eq_true_eq, decide_eq_false_iff_not, Bool.not_eq_true', Bool.not_eq_false', Bool.and_eq_true, Bool.or_eq_true, Bool.and_eq_false_iff, Bool.or_eq_false_iff, Bool.cond_true_left, Bool.cond_false_right, Bool.cond_true_right, Bool.cond_false_left, Bool.or_false, Bool.and_true, inR]
  exact ⟨hpre, by rfl, rfl⟩
end Go.AM

set_option maxRecDepth 100000
set_option maxHeartbeats 8000000
set_option linter.unusedSimpArgs false
namespace Go.AM
open Go.Proofs
attribute [local congr] vc_congr evOps_congr evTab_congr bind_congr condK_congr tabK_congr
noncomputable def fn104 : Fn := { a := .pair (.list tI) (.pair (.list tI) .unit), r := .pair .bool .unit, pre := fun x => smallL x.1, f := fun x => (eqB x.1 x.2.1, ()) }
theorem h104  : Holds Try.prog 104 (fn104) := by
  refine Holds.of_vc (T := []) (TT := ttL) (rowAt := []) (c := c104) (ros := [.t 4]) (.nil _) mixed Try.func104 (by decide +kernel) (by rfl) comp104 (by kernel_rfl) rfl rfl (fun h => by cases h) ?_
  rintro ⟨(a : List Int), (b : List Int), _⟩ hpre
  simp only [fn104] at hpre ⊢
  simp only [c104, go_sem, reduceIte, Nat.reduceBEq, Nat.reduceMul, reduceCtorEq, Nat.reduceAdd, Nat.reduceEqDiff, decide_eq_true_eq, decide_eq_false_iff_not, Bool.not_eq_true', Bool.not_eq_false', Bool.and_eq_true, Bool.or_eq_true, Bool.and_eq_false_iff, Bool.or_eq_false_iff, Bool.cond_true_left, Bool.cond_false_right, Bool.cond_true_right, Bool.cond_false_left, Bool.or_false, Bool.and_true, inR]
  refine ⟨fun h => eqB_ne fun e => h (by rw [e]), fun hl => ?_⟩
  have hl' : a.length = b.length := by omega
  refine loop_rule (β := Nat) (fun i => ⟨[(0, .sl tI a false), (1, .sl tI b false), (12, .int .i64 a.length), (13, .int .i64 i)], []⟩) (fun i => i ≤ a.length ∧ ∀ j, j < i → a.getD j (dflt tI) = b.getD j (dflt tI)) (fun i => a.length - i) 0 ?_ ?_ ?_
  · refine Ent_of [] rfl ?_ ?_
    · simp only [go_sem, reduceIte, Nat.reduceBEq, Nat.reduceMul, reduceCtorEq, Nat.reduceAdd, Nat.reduceEqDiff, decide_eq_true_eq, decide_eq_false_iff_not, Bool.not_eq_true', Bool.not_eq_false', Bool.and_eq_true, Bool.or_eq_true, Bool.and_eq_false_iff, Bool.or_eq_false_iff, Bool.cond_true_left, Bool.cond_false_right, Bool.cond_true_right, Bool.cond_false_left, Bool.or_false, Bool.and_true]
    · simp only [go_sem, reduceIte, Nat.reduceBEq, Nat.reduceMul, reduceCtorEq, Nat.reduceAdd, Nat.reduceEqDiff, decide_eq_true_eq, decide_eq_false_iff_not, Bool.not_eq_true', Bool.not_eq_false', Bool.and_eq_true, Bool.or_eq_true, Bool.and_eq_false_iff, Bool.or_eq_false_iff, Bool.cond_true_left, Bool.cond_false_right, Bool.cond_true_right, Bool.cond_false_left, Bool.or_false, Bool.and_true]
      trivial
  · exact ⟨Nat.zero_le _, fun j hj => absurd hj (Nat.not_lt_zero j)⟩
  rintro i ⟨hi, hk⟩
  have hp1 : a.length ≤ 1048576 := hpre
  simp only [go_sem, reduceIte, Nat.reduceBEq, Nat.reduceMul, reduceCtorEq, Nat.reduceAdd, Nat.reduceEqDiff, decide_eq_true_eq, decide_eq_false_iff_not, Bool.not_eq_true', Bool.not_eq_false', Bool.and_eq_true, Bool.or_eq_true, Bool.and_eq_false_iff, Bool.or_eq_false_iff, Bool.cond_true_left, Bool.cond_false_right, Bool.cond_true_right, Bool.cond_false_left, Bool.or_false, Bool.and_true, inR]
  refine ⟨fun h => ⟨by omega, by omega, by rfl, fun hd => eqB_ne fun e => ?_, fun hs => ⟨by omega, Again.intro (i + 1) (Ent_of [] rfl ?_ ?_) ⟨?_, upTo hk ?_⟩ (show a.length - (i + 1) < a.length - i by omega)⟩⟩, fun h => ?_⟩
  · subst e; simp at hd
  · simp only [go_sem, reduceIte, Nat.reduceBEq, Nat.reduceMul, reduceCtorEq, Nat.reduceAdd, Nat.reduceEqDiff, decide_eq_true_eq, decide_eq_false_iff_not, Bool.not_eq_true', Bool.not_eq_false', Bool.and_eq_true, Bool.or_eq_true, Bool.and_eq_false_iff, Bool.or_eq_false_iff, Bool.cond_true_left, Bool.cond_false_right, Bool.cond_true_right, Bool.cond_false_left, Bool.or_false, Bool.and_true]
  · simp only [go_sem, reduceIte, Nat.reduceBEq, Nat.reduceMul, reduceCtorEq, Nat.reduceAdd, Nat.reduceEqDiff, decide_eq_true_eq, decide_eq_false_iff_not, Bool.not_eq_true', Bool.not_eq_false', Bool.and_eq_true, Bool.or_eq_true, Bool.and_eq_false_iff, Bool.or_eq_false_iff, Bool.cond_true_left, Bool.cond_false_right, Bool.cond_true_right, Bool.cond_false_left, Bool.or_false, Bool.and_true]
    omega
  · show i + 1 ≤ a.length; omega
  · exact hs
  · exact (eqB_iff.2 (list_eq_of_getD _ hl' fun j hj => hk j (by omega))).symm
noncomputable def fn103 : Fn := { a := .pair (.list .bool) (.pair (.list .bool) .unit), r := .pair .bool .unit, pre := fun x => smallL x.1, f := fun x => (eqB x.1 x.2.1, ()) }
theorem h103  : Holds Try.prog 103 (fn103) := by
  refine Holds.of_vc (T := []) (TT := ttL) (rowAt := []) (c := c103) (ros := [.t 4]) (.nil _) mixed Try.func103 (by decide +kernel) (by rfl) comp103 (by kernel_rfl) rfl rfl (fun h => by cases h) ?_
  rintro ⟨(a : List Bool), (b : List Bool), _⟩ hpre
  simp only [fn103] at hpre ⊢
  simp only [c103, go_sem, reduceIte, Nat.reduceBEq, Nat.reduceMul, reduceCtorEq, Nat.reduceAdd, Nat.reduceEqDiff, decide_eq_true_eq, decide_eq_false_iff_not, Bool.not_eq_true', Bool.not_eq_false', Bool.and_eq_true, Bool.or_eq_true, Bool.and_eq_false_iff, Bool.or_eq_false_iff, Bool.cond_true_left, Bool.cond_false_right, Bool.cond_true_right, Bool.cond_false_left, Bool.or_false, Bool.and_true, inR]
  refine ⟨fun h => eqB_ne fun e => h (by rw [e]), fun hl => ?_⟩
  have hl' : a.length = b.length := by omega
  refine loop_rule (β := Nat) (fun i => ⟨[(0, .sl .bool a false), (1, .sl .bool b false), (12, .int .i64 a.length), (13, .int .i64 i)], []⟩) (fun i => i ≤ a.length ∧ ∀ j, j < i → a.getD j (dflt .bool) = b.getD j (dflt .bool)) (fun i => a.length - i) 0 ?_ ?_ ?_
  · refine Ent_of [] rfl ?_ ?_
    · simp only [go_sem, reduceIte, Nat.reduceBEq, Nat.reduceMul, reduceCtorEq, Nat.reduceAdd, Nat.reduceEqDiff, decide_eq_true_eq, decide_eq_false_iff_not, Bool.not_eq_true', Bool.not_eq_false', Bool.and_eq_true, Bool.or_eq_true, Bool.and_eq_false_iff, Bool.or_eq_false_iff, Bool.cond_true_left, Bool.cond_false_right, Bool.cond_true_right, Bool.cond_false_left, Bool.or_false, Bool.and_true]
    · simp only [go_sem, reduceIte, Nat.reduceBEq, Nat.reduceMul, reduceCtorEq, Nat.reduceAdd, Nat.reduceEqDiff, decide_eq_true_eq, decide_eq_false_iff_not, Bool.not_eq_true', Bool.not_eq_false', Bool.and_eq_true, Bool.or_eq_true, Bool.and_eq_false_iff, Bool.or_eq_false_iff, Bool.cond_true_left, Bool.cond_false_right, Bool.cond_true_right, Bool.cond_false_left, Bool.or_false, Bool.and_true]
      trivial
  · exact ⟨Nat.zero_le _, fun j hj => absurd hj (Nat.not_lt_zero j)⟩
  rintro i ⟨hi, hk⟩
  have hp1 : a.length ≤ 1048576 := hpre
  simp only [go_sem, reduceIte, Nat.reduceBEq, Nat.reduceMul, reduceCtorEq, Nat.reduceAdd, Nat.reduceEqDiff, decide_eq_true_eq, decide_eq_false_iff_not, Bool.not_eq_true', Bool.not_eq_false', Bool.and_eq_true, Bool.or_eq_true, Bool.and_eq_false_iff, Bool.or_eq_false_iff, Bool.cond_true_left, Bool.cond_false_right, Bool.cond_true_right, Bool.cond_false_left, Bool.or_false, Bool.and_true, inR]
  refine ⟨fun h => ⟨by omega, by omega, by rfl, fun hd => eqB_ne fun e => ?_, fun hs => ⟨by omega, Again.intro (i + 1) (Ent_of [] rfl ?_ ?_) ⟨?_, upTo hk ?_⟩ (show a.length - (i + 1) < a.length - i by omega)⟩⟩, fun h => ?_⟩
  · subst e; simp at hd
  · simp only [go_sem, reduceIte, Nat.reduceBEq, Nat.reduceMul, reduceCtorEq, Nat.reduceAdd, Nat.reduceEqDiff, decide_eq_true_eq, decide_eq_false_iff_not, Bool.not_eq_true', Bool.not_eq_false', Bool.and_eq_true, Bool.or_eq_true, Bool.and_eq_false_iff, Bool.or_eq_false_iff, Bool.cond_true_left, Bool.cond_false_right, Bool.cond_true_right, Bool.cond_false_left, Bool.or_false, Bool.and_true]
  · simp only [go_sem, reduceIte, Nat.reduceBEq, Nat.reduceMul, reduceCtorEq, Nat.reduceAdd, Nat.reduceEqDiff, decide_eq_true_eq, decide_eq_false_iff_not, Bool.not_eq_true', Bool.not_eq_false', Bool.and_eq_true, Bool.or_eq_true, Bool.and_eq_false_iff, Bool.or_eq_false_iff, Bool.cond_true_left, Bool.cond_false_right, Bool.cond_true_right, Bool.cond_false_left, Bool.or_false, Bool.and_true]
    omega
  · show i + 1 ≤ a.length; omega
  · simpa using hs
  · exact (eqB_iff.2 (list_eq_of_getD _ hl' fun j hj => hk j (by omega))).symm
noncomputable def fn102 : Fn := { a := .pair (.list tEntry) (.pair (.list tEntry) .unit), r := .pair .bool .unit, pre := fun x => smallL x.1, f := fun x => (eqB x.1 x.2.1, ()) }
theorem h102  : Holds Try.prog 102 (fn102) := by
  refine Holds.of_vc (T := []) (TT := ttL) (rowAt := []) (c := c102) (ros := [.t 4]) (.nil _) mixed Try.func102 (by decide +kernel) (by rfl) comp102 (by kernel_rfl) rfl rfl (fun h => by cases h) ?_
  rintro ⟨(a : List E), (b : List E), _⟩ hpre
  simp only [fn102] at hpre ⊢
  simp only [c102, go_sem, reduceIte, Nat.reduceBEq, Nat.reduceMul, reduceCtorEq, Nat.reduceAdd, Nat.reduceEqDiff, decide_eq_true_eq, decide_eq_false_iff_not, Bool.not_eq_true', Bool.not_eq_false', Bool.and_eq_true, Bool.or_eq_true, Bool.and_eq_false_iff, Bool.or_eq_false_iff, Bool.cond_true_left, Bool.cond_false_right, Bool.cond_true_right, Bool.cond_false_left, Bool.or_false, Bool.and_true, inR]
  refine ⟨fun h => eqB_ne fun e => h (by rw [e]), fun hl => ?_⟩
  have hl' : a.length = b.length := by omega
  refine loop_rule (β := Nat) (fun i => ⟨[(0, .sl tEntry a false), (1, .sl tEntry b false), (12, .int .i64 a.length), (13, .int .i64 i)], []⟩) (fun i => i ≤ a.length ∧ ∀ j, j < i → a.getD j (dflt tEntry) = b.getD j (dflt tEntry)) (fun i => a.length - i) 0 ?_ ?_ ?_
  · refine Ent_of [] rfl ?_ ?_
    · simp only [go_sem, reduceIte, Nat.reduceBEq, Nat.reduceMul, reduceCtorEq, Nat.reduceAdd, Nat.reduceEqDiff, decide_eq_true_eq, decide_eq_false_iff_not, Bool.not_eq_true', Bool.not_eq_false', Bool.and_eq_true, Bool.or_eq_true, Bool.and_eq_false_iff, Bool.or_eq_false_iff, Bool.cond_true_left, Bool.cond_false_right, Bool.cond_true_right, Bool.cond_false_left, Bool.or_false, Bool.and_true]
    · simp only [go_sem, reduceIte, Nat.reduceBEq, Nat.reduceMul, reduceCtorEq, Nat.reduceAdd, Nat.reduceEqDiff, decide_eq_true_eq, decide_eq_false_iff_not, Bool.not_eq_true', Bool.not_eq_false', Bool.and_eq_true, Bool.or_eq_true, Bool.and_eq_false_iff, Bool.or_eq_false_iff, Bool.cond_true_left, Bool.cond_false_right, Bool.cond_true_right, Bool.cond_false_left, Bool.or_false, Bool.and_true]
      trivial
  · exact ⟨Nat.zero_le _, fun j hj => absurd hj (Nat.not_lt_zero j)⟩
  rintro i ⟨hi, hk⟩
  have hp1 : a.length ≤ 1048576 := hpre
  simp only [go_sem, reduceIte, Nat.reduceBEq, Nat.reduceMul, reduceCtorEq, Nat.reduceAdd, Nat.reduceEqDiff, decide_eq_true_eq, decide_eq_false_iff_not, Bool.not_eq_true', Bool.not_eq_false', Bool.and_eq_true, Bool.or_eq_true, Bool.and_eq_false_iff, Bool.or_eq_false_iff, Bool.cond_true_left, Bool.cond_false_right, Bool.cond_true_right, Bool.cond_false_left, Bool.or_false, Bool.and_true, inR, str_eq]
  refine ⟨fun h => ⟨by omega, by omega, by rfl, fun hd => eqB_ne fun e => ?_, fun hs => ⟨by omega, Again.intro (i + 1) (Ent_of [] rfl ?_ ?_) ⟨?_, upTo hk ?_⟩ (show a.length - (i + 1) < a.length - i by omega)⟩⟩, fun h => ?_⟩
  · subst e; simp at hd
  · simp only [go_sem, reduceIte, Nat.reduceBEq, Nat.reduceMul, reduceCtorEq, Nat.reduceAdd, Nat.reduceEqDiff, decide_eq_true_eq, decide_eq_false_iff_not, Bool.not_eq_true', Bool.not_eq_false', Bool.and_eq_true, Bool.or_eq_true, Bool.and_eq_false_iff, Bool.or_eq_false_iff, Bool.cond_true_left, Bool.cond_false_right, Bool.cond_true_right, Bool.cond_false_left, Bool.or_false, Bool.and_true]
  · simp only [go_sem, reduceIte, Nat.reduceBEq, Nat.reduceMul, reduceCtorEq, Nat.reduceAdd, Nat.reduceEqDiff, decide_eq_true_eq, decide_eq_false_iff_not, Bool.not_eq_true', Bool.not_eq_false', Bool.and_eq_true, Bool.or_eq_true, Bool.and_eq_false_iff, Bool.or_eq_false_iff, Bool.cond_true_left, Bool.cond_false_right, Bool.cond_true_right, Bool.cond_false_left, Bool.or_false, Bool.and_true]
    omega
  · show i + 1 ≤ a.length; omega
  · exact Prod.ext hs.1 (Prod.ext hs.2 rfl)
  · exact (eqB_iff.2 (list_eq_of_getD _ hl' fun j hj => hk j (by omega))).symm
def fn63 : Fn := { a := .pair tI (.pair tI (.pair tHard .unit)), r := .pair tNode .unit, pre := fun x => smallL (hLog x.2.2.1), f := fun x => (wakeN x.1 x.2.1 x.2.2.1, ()) }
theorem h63  : Holds Try.prog 63 (fn63) := by
  refine Holds.of_vc (T := [(31, fn31)]) (TT := ttL) (rowAt := []) (c := c63) (ros := [.c 6 15]) (.cons _ h31 (.nil _)) mixed Try.func63 (by decide +kernel) (by rfl) comp63 (by kernel_rfl) rfl rfl (fun h => by cases h) ?_
  rintro ⟨(id : Int), (nodes : Int), (h : Hrd), _⟩ hpre
  simp only [fn63] at hpre ⊢
  simp only [c63, fn31, go_sem, reduceIte, Nat.reduceBEq, Nat.reduceMul, reduceCtorEq, Nat.reduceAdd, Nat.reduceEqDiff, decide_eq_true_eq, decide_eq_false_iff_not, Bool.not_eq_true', Bool.not_eq_false', Bool.and_eq_true, Bool.or_eq_true, Bool.and_eq_false_iff, Bool.or_eq_false_iff, Bool.cond_true_left, Bool.cond_false_right, Bool.cond_true_right, Bool.cond_false_left, Bool.or_false, Bool.and_true, inR]
  simp only [sm] at hpre
  have hp : h.2.2.2.2.2.1.length ≤ 1048576 := hpre
  exact ⟨by rfl, ⟨by omega, by omega⟩, rfl⟩
def fn58 : Fn := { a := .pair tNode (.pair tI (.pair (.list tEntry) .unit)), r := .pair tNode .unit, pre := fun x => smallL (nLog x.1) ∧ smallL x.2.2.1 ∧ InR .i64 (x.2.1 - nBase x.1) ∧ InR .i64 (last x.1), f := fun x => (put x.1 x.2.1 x.2.2.1, ()) }
theorem h58  : Holds Try.prog 58 (fn58) := by
  refine Holds.of_vc (T := [(30, fn30)]) (TT := ttL) (rowAt := []) (c := c58) (ros := [.c 6 15]) (.cons _ h30 (.nil _)) mixed Try.func58 (by decide +kernel) (by rfl) comp58 (by kernel_rfl) rfl rfl (fun h => by cases h) ?_
  rintro ⟨(n : Node), (prev : Int), (l : List E), _⟩ hpre
  simp only [fn58] at hpre ⊢
  simp only [c58, fn30, go_sem, reduceIte, Nat.reduceBEq, Nat.reduceMul, reduceCtorEq, Nat.reduceAdd, Nat.reduceEqDiff, decide_eq_true_eq, decide_eq_false_iff_not, Bool.not_eq_true', Bool.not_eq_false', Bool.and_eq_true, Bool.or_eq_true, Bool.and_eq_false_iff, Bool.or_eq_false_iff, Bool.cond_true_left, Bool.cond_false_right, Bool.cond_true_right, Bool.cond_false_left, Bool.or_false, Bool.and_true, inR]
  obtain ⟨p1, p2, p3, p4⟩ := hpre
  simp only [sm] at p1 p2
  have p1' : n.2.2.2.2.2.2.2.1.length ≤ 1048576 := p1
  refine ⟨fun _ => p4, fun h => (if_pos h).symm, fun h => ⟨⟨by omega, by omega⟩, ?_⟩⟩
  have hput : put n prev l = setLog n (put' (nLog n) (prev - nBase n).toNat l) := if_neg (by intro h2; rcases h2 with h2 | h2; exact h.1 h2; exact h.2 h2)
  rw [hput]
  clear hput
  have hat : 0 ≤ prev - nBase n ∧ prev - nBase n ≤ (nLog n).length := by
    have hl : last n = nBase n + (nLog n).length := rfl
    have h1 : ¬ prev < nBase n := h.1
    have h2 := h.2
    omega
  refine loop_rule (β := Nat) (fun i => ⟨[(1, .int .i64 prev), (2, .sl tEntry l false), (3, .ptr 3 0), (6, .ptr 6 0), (7, .own 23 0 (nLog n).length), (8, .int .i64 i)], [(3, .box (cellsA tNode n [])), (6, .box zN), (23, .row tEntry (nLog n) false)]⟩)
    (fun i => i ≤ l.length ∧ (prev - nBase n).toNat + i ≤ (nLog n).length ∧ put' (nLog n) ((prev - nBase n).toNat + i) (l.drop i) = put' (nLog n) (prev - nBase n).toNat l) (fun i => l.length - i) 0 ?_ ?_ ?_
  · refine Ent_of [(3, 3), (6, 6), (23, 23)] rfl ?_ ?_
    · simp only [go_sem, reduceIte, Nat.reduceBEq, Nat.reduceMul, reduceCtorEq, Nat.reduceAdd, Nat.reduceEqDiff, decide_eq_true_eq, decide_eq_false_iff_not, Bool.not_eq_true', Bool.not_eq_false', Bool.and_eq_true, Bool.or_eq_true, Bool.and_eq_false_iff, Bool.or_eq_false_iff, Bool.cond_true_left, Bool.cond_false_right, Bool.cond_true_right, Bool.cond_false_left, Bool.or_false, Bool.and_true]
    · simp only [go_sem, reduceIte, Nat.reduceBEq, Nat.reduceMul, reduceCtorEq, Nat.reduceAdd, Nat.reduceEqDiff, decide_eq_true_eq, decide_eq_false_iff_not, Bool.not_eq_true', Bool.not_eq_false', Bool.and_eq_true, Bool.or_eq_true, Bool.and_eq_false_iff, Bool.or_eq_false_iff, Bool.cond_true_left, Bool.cond_false_right, Bool.cond_true_right, Bool.cond_false_left, Bool.or_false, Bool.and_true]
      rfl
  · refine ⟨Nat.zero_le _, ?_, rfl⟩
    omega
  rintro i ⟨hi, hki, hk⟩
  simp only [go_sem, reduceIte, Nat.reduceBEq, Nat.reduceMul, reduceCtorEq, Nat.reduceAdd, Nat.reduceEqDiff, decide_eq_true_eq, decide_eq_false_iff_not, Bool.not_eq_true', Bool.not_eq_false', Bool.and_eq_true, Bool.or_eq_true, Bool.and_eq_false_iff, Bool.or_eq_false_iff, Bool.cond_true_left, Bool.cond_false_right, Bool.cond_true_right, Bool.cond_false_left, Bool.or_false, Bool.and_true, inR, decide_true]
  have hb : n.2.2.2.2.1 = nBase n := rfl
  have hb : nBase n = n.2.2.2.2.1 := rfl
  have e0 : prev - n.2.2.2.2.1 + (i : Int) = (((prev - nBase n).toNat + i : Nat) : Int) := by omega
  have q3 : -9223372036854775808 ≤ prev - n.2.2.2.2.1 ∧ prev - n.2.2.2.2.1 ≤ 9223372036854775807 := p3
  have hmin : min ((((prev - nBase n).toNat + i : Nat) : Int)) ((nLog n).length : Int) = (((prev - nBase n).toNat + i : Nat) : Int) := by omega
  simp only [e0, Int.toNat_natCast, hmin, Nat.sub_zero]
  refine ⟨fun h => ⟨q3, by omega, fun h2 => by omega, fun h2 => by omega, by rfl, fun h2 => ⟨by omega, Again.intro (i + 1) (Ent_of [(3, 3), (6, 6), (23, 23)] rfl ?_ ?_) ⟨?_, ?_, ?_⟩ (show l.length - (i + 1) < l.length - i by omega)⟩, fun h2 => ⟨by omega, by omega, ?_, by rfl, ?_⟩⟩, fun h => ?_⟩
  · simp only [go_sem, reduceIte, Nat.reduceBEq, Nat.reduceMul, reduceCtorEq, Nat.reduceAdd, Nat.reduceEqDiff, decide_eq_true_eq, decide_eq_false_iff_not, Bool.not_eq_true', Bool.not_eq_false', Bool.and_eq_true, Bool.or_eq_true, Bool.and_eq_false_iff, Bool.or_eq_false_iff, Bool.cond_true_left, Bool.cond_false_right, Bool.cond_true_right, Bool.cond_false_left, Bool.or_false, Bool.and_true]
  · simp only [go_sem, reduceIte, Nat.reduceBEq, Nat.reduceMul, reduceCtorEq, Nat.reduceAdd, Nat.reduceEqDiff, decide_eq_true_eq, decide_eq_false_iff_not, Bool.not_eq_true', Bool.not_eq_false', Bool.and_eq_true, Bool.or_eq_true, Bool.and_eq_false_iff, Bool.or_eq_false_iff, Bool.cond_true_left, Bool.cond_false_right, Bool.cond_true_right, Bool.cond_false_left, Bool.or_false, Bool.and_true]
    omega
  · show i + 1 ≤ l.length; omega
  · show (prev - nBase n).toNat + (i + 1) ≤ (nLog n).length; omega
  · rw [← hk, put'_eq (by omega) (by omega) h2.2]
    rfl
  · rw [List.length_drop]; omega
  · have hne : (nLog n).length ≤ (prev - nBase n).toNat + i ∨ ¬ ((nLog n).getD ((prev - nBase n).toNat + i) (dflt tEntry)).1 = (l.getD i (dflt tEntry)).1 := by
      rcases h2 with h2 | h2
      · left; omega
      · exact .inr h2
    rw [← hk, put'_ne (by omega) hne, List.take_of_length_le (by rw [List.length_append, List.length_take]; omega)]
    rfl
  · rw [← hk, show i = l.length by omega, List.drop_length, put'_nil]
    rfl
end Go.AM
