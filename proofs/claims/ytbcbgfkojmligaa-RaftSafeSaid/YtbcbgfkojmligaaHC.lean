import Derived.Test.YtbcbgfkojmligaaHA
import Derived.KernelRfl
import Derived.Test.YtbcbgfkojmligaaProg
/- What functions of the program answer, each under the conditions that its contract names. -/
set_option linter.unusedVariables false
set_option linter.unusedSimpArgs false
set_option maxRecDepth 100000
namespace Go.AM
def c37 : C := (.seq (.reg [⟨(some 4), .mv, [.c (.bool false)], none⟩])
 (.seq (.reg [⟨(some 5), .mv, [.t 0], none⟩,
  ⟨(some 6), .len, [.t 5], none⟩,
  ⟨(some 7), .mv, [.t 1], none⟩,
  ⟨(some 8), .len, [.t 7], none⟩,
  ⟨(some 9), (.bin .eql), [.t 6, .t 8], none⟩,
  ⟨(some 10), .mv, [.t 9], none⟩,
  ⟨(some 11), .mv, [.t 0], (some (10, true))⟩,
  ⟨(some 12), .mv, [.t 1], (some (10, true))⟩,
  ⟨(some 13), (.call 93), [.t 11, .t 12], (some (10, true))⟩,
  ⟨(some 14), .mv, [.t 0], (some (10, true))⟩,
  ⟨(some 15), .len, [.t 14], (some (10, true))⟩,
  ⟨(some 16), (.bin .eql), [.t 13, .t 15], (some (10, true))⟩,
  ⟨(some 17), .pick, [.t 10, .t 16, .c (.bool false)], none⟩,
  ⟨(some 4), .mv, [.t 17], none⟩])
 .ret))
theorem comp37 : compC Go.Proofs.Try.prog ttL 18 [] (match Go.Proofs.Try.f37.body with | some b => b | none => .skip) = some (c37) := by kernel_rfl
def c93 : C := (.seq (.reg [⟨(some 4), .mv, [.c (.int .i64 0)], none⟩])
 (.seq (.reg [⟨(some 5), .mv, [.c (.int .i64 0)], none⟩])
 (.seq (.block 0 (.loop (.seq (.seq (.regd [⟨(some 6), .mv, [.t 5], none⟩,
  ⟨(some 7), .mv, [.t 0], none⟩,
  ⟨(some 8), .len, [.t 7], none⟩,
  ⟨(some 9), (.bin .lss), [.t 6, .t 8], none⟩,
  ⟨(some 10), .mv, [.t 9], none⟩,
  ⟨(some 11), .mv, [.t 5], (some (10, true))⟩,
  ⟨(some 12), .mv, [.t 1], (some (10, true))⟩,
  ⟨(some 13), .len, [.t 12], (some (10, true))⟩,
  ⟨(some 14), (.bin .lss), [.t 11, .t 13], (some (10, true))⟩,
  ⟨(some 15), .pick, [.t 10, .t 14, .c (.bool false)], none⟩,
  ⟨(some 16), .mv, [.t 15], none⟩,
  ⟨(some 17), .mv, [.t 0], (some (16, true))⟩,
  ⟨(some 18), .mv, [.t 5], (some (16, true))⟩,
  ⟨(some 19), (.idx 2), [.t 17, .t 18], (some (16, true))⟩,
  ⟨(some 20), (.fld 0), [.t 19], (some (16, true))⟩,
  ⟨(some 21), (.load 1 false), [.t 20], (some (16, true))⟩,
  ⟨(some 22), .mv, [.t 1], (some (16, true))⟩,
  ⟨(some 23), .mv, [.t 5], (some (16, true))⟩,
  ⟨(some 24), (.idx 2), [.t 22, .t 23], (some (16, true))⟩,
  ⟨(some 25), (.fld 0), [.t 24], (some (16, true))⟩,
  ⟨(some 26), (.load 1 false), [.t 25], (some (16, true))⟩,
  ⟨(some 27), (.bin .eql), [.t 21, .t 26], (some (16, true))⟩,
  ⟨(some 28), .pick, [.t 16, .t 27, .c (.bool false)], none⟩,
  ⟨(some 29), .mv, [.t 28], none⟩,
  ⟨(some 30), .mv, [.t 0], (some (29, true))⟩,
  ⟨(some 31), .mv, [.t 5], (some (29, true))⟩,
  ⟨(some 32), (.idx 2), [.t 30, .t 31], (some (29, true))⟩,
  ⟨(some 33), (.fld 1), [.t 32], (some (29, true))⟩,
  ⟨(some 34), (.load 1 false), [.t 33], (some (29, true))⟩,
  ⟨(some 35), .mv, [.t 1], (some (29, true))⟩,
  ⟨(some 36), .mv, [.t 5], (some (29, true))⟩,
  ⟨(some 37), (.idx 2), [.t 35, .t 36], (some (29, true))⟩,
  ⟨(some 38), (.fld 1), [.t 37], (some (29, true))⟩,
  ⟨(some 39), (.load 1 false), [.t 38], (some (29, true))⟩,
  ⟨(some 40), (.bin .eql), [.t 34, .t 39], (some (29, true))⟩,
  ⟨(some 41), .pick, [.t 29, .t 40, .c (.bool false)], none⟩] [0, 0, 2, 5, 8, 16, 16, 80, 176, 272, 528, 1024, 1024, 7168, 9216, 17408, 1024, 1024, 197632, 263168, 525312, 1082368, 2098176, 4195328, 8388608, 8388608, 58720256, 75497472, 142606336, 8388608, 8388608, 1619001344, 2155872256, 4303355904, 8866758656, 17188257792])
 (.cond (.t 41) .skip (.exit 0)))
 (.block 1 (.reg [⟨(some 42), .mv, [.t 5], none⟩,
  ⟨(some 43), (.bin .add), [.t 42, .c (.int .i64 1)], none⟩,
  ⟨(some 5), .mv, [.t 43], none⟩])))))
 (.seq (.reg [⟨(some 44), .mv, [.t 5], none⟩,
  ⟨(some 4), .mv, [.t 44], none⟩])
 .ret))))
theorem comp93 : compC Go.Proofs.Try.prog ttL 45 [] (match Go.Proofs.Try.f93.body with | some b => b | none => .skip) = some (c93) := by kernel_rfl
end Go.AM
set_option maxRecDepth 100000
set_option maxHeartbeats 4000000
set_option linter.unusedSimpArgs false
namespace Go.AM
open Go.Proofs
attribute [local congr] vc_congr evOps_congr evTab_congr bind_congr condK_congr tabK_congr
theorem str_eq (a b : ByteArray) : (a.toList == b.toList) = decide (a = b) := by
  by_cases h : a = b
  · subst h; simp
  · rw [decide_eq_false h]
    rw [beq_eq_false_iff_ne]
    intro h2
    apply h
    rw [ByteArray.toList_eq, ByteArray.toList_eq] at h2
    cases a; cases b
    simpa [Array.toList_inj] using h2
def alike : List E → List E → Nat
  | x :: xs, y :: ys => if x.1 = y.1 ∧ x.2.1 = y.2.1 then alike xs ys + 1 else 0
  | _, _ => 0
theorem alike_nil (a : List E) : alike a [] = 0 := by cases a <;> rfl
theorem alike_drop {a b : List E} {k : Nat} (h : k + alike (a.drop k) (b.drop k) = alike a b) (ha : k < a.length) (hb : k < b.length)
    (e1 : (a.getD k (dflt tEntry)).1 = (b.getD k (dflt tEntry)).1) (e2 : (a.getD k (dflt tEntry)).2.1 = (b.getD k (dflt tEntry)).2.1) :
    k + 1 + alike (a.drop (k + 1)) (b.drop (k + 1)) = alike a b := by
  rw [List.drop_eq_getElem_cons ha, List.drop_eq_getElem_cons hb] at h
  rw [List.getD_eq_getElem?_getD, List.getD_eq_getElem?_getD, List.getElem?_eq_getElem ha, List.getElem?_eq_getElem hb] at e1 e2
  simp only [Option.getD_some] at e1 e2
  simp only [alike, e1, e2, and_self, if_true] at h
  omega
theorem alike_stop {a b : List E} {k : Nat} (h : k + alike (a.drop k) (b.drop k) = alike a b)
    (hs : ¬ (k < a.length ∧ k < b.length ∧ (a.getD k (dflt tEntry)).1 = (b.getD k (dflt tEntry)).1 ∧ (a.getD k (dflt tEntry)).2.1 = (b.getD k (dflt tEntry)).2.1)) : k = alike a b := by
  by_cases ha : k < a.length
  · by_cases hb : k < b.length
    · rw [List.drop_eq_getElem_cons ha, List.drop_eq_getElem_cons hb] at h
      rw [List.getD_eq_getElem?_getD, List.getD_eq_getElem?_getD, List.getElem?_eq_getElem ha, List.getElem?_eq_getElem hb] at hs
      simp only [Option.getD_some, ha, hb, true_and] at hs
      simp only [alike, hs, if_false] at h
      omega
    · rw [List.drop_eq_nil_of_le (by omega : b.length ≤ k), alike_nil] at h
      omega
  · rw [List.drop_eq_nil_of_le (by omega : a.length ≤ k)] at h
    simp only [alike] at h
    omega
theorem alike_le (a b : List E) : alike a b ≤ a.length := by
  induction a generalizing b with
  | nil => simp [alike]
  | cons x a ih =>
    cases b with
    | nil => simp [alike]
    | cons y b =>
      have := ih b
      simp only [alike, List.length_cons]
      split <;> omega
theorem alike_all (a b : List E) : (a.length = b.length ∧ alike a b = a.length) ↔ a = b := by
  induction a generalizing b with
  | nil =>
    cases b with
    | nil => simp [alike]
    | cons y b => simp [alike]
  | cons x a ih =>
    cases b with
    | nil => simp [alike]
    | cons y b =>
      simp only [alike, List.length_cons, List.cons.injEq]
      rw [← ih b]
      have := alike_le a b
      have ext : x = y ↔ x.1 = y.1 ∧ x.2.1 = y.2.1 := by
        constructor
        · rintro rfl; exact ⟨rfl, rfl⟩
        · rintro ⟨h1, h2⟩
          obtain ⟨x1, x2, _⟩ := x
          obtain ⟨y1, y2, _⟩ := y
          simp only at h1 h2
          rw [h1, h2]
      rw [ext]
      split
      · rename_i h
        constructor
        · rintro ⟨h1, h2⟩; exact ⟨h, by omega, by omega⟩
        · rintro ⟨_, h1, h2⟩; exact ⟨by omega, by omega⟩
      · rename_i h
        constructor
        · rintro ⟨h1, h2⟩; omega
        · rintro ⟨h1, _⟩; exact absurd h1 h
def fn93 : Fn := { a := .pair (.list tEntry) (.pair (.list tEntry) .unit), r := .pair tI .unit, pre := fun x => smallL x.1, f := fun x => ((alike x.1 x.2.1 : Int), ()) }
theorem h93  : Holds Try.prog 93 (fn93) := by
  refine Holds.of_vc (T := []) (TT := ttL) (rowAt := []) (c := c93) (ros := [.t 4]) (.nil _) mixed Try.func93 (by decide +kernel) (by rfl) comp93 (by kernel_rfl) rfl rfl (fun h => by cases h) ?_
  rintro ⟨(a : List E), (b : List E), _⟩ hpre
  simp only [fn93] at hpre ⊢
  simp only [c93, go_sem, reduceIte, Nat.reduceBEq, Nat.reduceMul, reduceCtorEq, Nat.reduceAdd, Nat.reduceEqDiff, decide_eq_true_eq, decide_eq_false_iff_not, Bool.not_eq_true', Bool.not_eq_false', Bool.and_eq_true, Bool.or_eq_true, Bool.and_eq_false_iff, Bool.or_eq_false_iff, Bool.cond_true_left, Bool.cond_false_right, Bool.cond_true_right, Bool.cond_false_left, Bool.or_false, Bool.and_true, inR]
  refine loop_rule (β := Nat) (fun i => ⟨[(0, .sl tEntry a false), (1, .sl tEntry b false), (5, .int .i64 i)], []⟩) (fun i => i ≤ a.length ∧ i + alike (a.drop i) (b.drop i) = alike a b) (fun i => a.length - i) 0 ?_ ?_ ?_
  · refine Ent_of [] rfl ?_ ?_
    · simp only [go_sem, reduceIte, Nat.reduceBEq, Nat.reduceMul, reduceCtorEq, Nat.reduceAdd, Nat.reduceEqDiff, decide_eq_true_eq, decide_eq_false_iff_not, Bool.not_eq_true', Bool.not_eq_false', Bool.and_eq_true, Bool.or_eq_true, Bool.and_eq_false_iff, Bool.or_eq_false_iff, Bool.cond_true_left, Bool.cond_false_right, Bool.cond_true_right, Bool.cond_false_left, Bool.or_false, Bool.and_true]
    · simp only [go_sem, reduceIte, Nat.reduceBEq, Nat.reduceMul, reduceCtorEq, Nat.reduceAdd, Nat.reduceEqDiff, decide_eq_true_eq, decide_eq_false_iff_not, Bool.not_eq_true', Bool.not_eq_false', Bool.and_eq_true, Bool.or_eq_true, Bool.and_eq_false_iff, Bool.or_eq_false_iff, Bool.cond_true_left, Bool.cond_false_right, Bool.cond_true_right, Bool.cond_false_left, Bool.or_false, Bool.and_true]
      trivial
  · exact ⟨Nat.zero_le _, by rw [Nat.zero_add]; rfl⟩
  rintro i ⟨hi, hk⟩
  simp only [go_sem, reduceIte, Nat.reduceBEq, Nat.reduceMul, reduceCtorEq, Nat.reduceAdd, Nat.reduceEqDiff, decide_eq_true_eq, decide_eq_false_iff_not, Bool.not_eq_true', Bool.not_eq_false', Bool.and_eq_true, Bool.or_eq_true, Bool.and_eq_false_iff, Bool.or_eq_false_iff, Bool.cond_true_left, Bool.cond_false_right, Bool.cond_true_right, Bool.cond_false_left, Bool.or_false, Bool.and_true, inR, str_eq]
  simp only [sm] at hpre
  refine ⟨by omega, by omega, by omega, by omega, by rfl, fun h => ⟨by omega, Again.intro (i + 1) (Ent_of [] rfl ?_ ?_) ⟨?_, ?_⟩ (show a.length - (i + 1) < a.length - i by omega)⟩, fun h => ?_⟩
  · simp only [go_sem, reduceIte, Nat.reduceBEq, Nat.reduceMul, reduceCtorEq, Nat.reduceAdd, Nat.reduceEqDiff, decide_eq_true_eq, decide_eq_false_iff_not, Bool.not_eq_true', Bool.not_eq_false', Bool.and_eq_true, Bool.or_eq_true, Bool.and_eq_false_iff, Bool.or_eq_false_iff, Bool.cond_true_left, Bool.cond_false_right, Bool.cond_true_right, Bool.cond_false_left, Bool.or_false, Bool.and_true]
  · simp only [go_sem, reduceIte, Nat.reduceBEq, Nat.reduceMul, reduceCtorEq, Nat.reduceAdd, Nat.reduceEqDiff, decide_eq_true_eq, decide_eq_false_iff_not, Bool.not_eq_true', Bool.not_eq_false', Bool.and_eq_true, Bool.or_eq_true, Bool.and_eq_false_iff, Bool.or_eq_false_iff, Bool.cond_true_left, Bool.cond_false_right, Bool.cond_true_right, Bool.cond_false_left, Bool.or_false, Bool.and_true]
    omega
  · show i + 1 ≤ a.length; omega
  · exact alike_drop hk (by omega) (by omega) h.1.2 h.2
  · rw [← alike_stop hk (fun hc => ?_)]
    rcases h with (h | h) | h
    · omega
    · exact h hc.2.2.1
    · exact h hc.2.2.2
noncomputable def eqB {α : Type} (a b : α) : Bool := @decide (a = b) (Classical.propDecidable _)
theorem eqB_iff {α : Type} {a b : α} : eqB a b = true ↔ a = b := by unfold eqB; exact @decide_eq_true_iff _ (Classical.propDecidable _)
theorem eqB_self {α : Type} (a : α) : eqB a a = true := eqB_iff.2 rfl
theorem eqB_of {α : Type} {a b : α} {c : Bool} (h : c = true ↔ a = b) : c = eqB a b := by
  rw [Bool.eq_iff_iff, eqB_iff]; exact h
noncomputable def fn37 : Fn := { a := .pair (.list tEntry) (.pair (.list tEntry) .unit), r := .pair .bool .unit, pre := fun x => smallL x.1, f := fun x => (eqB x.1 x.2.1, ()) }
theorem h37  : Holds Try.prog 37 (fn37) := by
  refine Holds.of_vc (T := [(93, fn93)]) (TT := ttL) (rowAt := []) (c := c37) (ros := [.t 4]) (.cons _ h93 (.nil _)) mixed Try.func37 (by decide +kernel) (by rfl) comp37 (by kernel_rfl) rfl rfl (fun h => by cases h) ?_
  rintro ⟨(a : List E), (b : List E), _⟩ hpre
  simp only [fn37] at hpre ⊢
  simp only [c37, fn93, go_sem, reduceIte, Nat.reduceBEq, Nat.reduceMul, reduceCtorEq, Nat.reduceAdd, Nat.reduceEqDiff, decide_eq_true_eq, decide_eq_false_iff_not, Bool.not_eq_true', Bool.not_eq_false', Bool.and_eq_true, Bool.or_eq_true, Bool.and_eq_false_iff, Bool.or_eq_false_iff, Bool.cond_true_left, Bool.cond_false_right, Bool.cond_true_right, Bool.cond_false_left, Bool.or_false, Bool.and_true, inR]
  refine ⟨fun _ => hpre, eqB_of ?_⟩
  simp only [Bool.and_eq_true, Bool.or_eq_true, decide_eq_true_eq, decide_eq_false_iff_not, Bool.and_eq_false_iff, Bool.or_eq_false_iff, Bool.not_eq_true', Bool.not_eq_false']
  rw [← alike_all a b]
  omega
end Go.AM
