import Derived.Test.YtbcbgfkojmligaaHD
import Derived.KernelRfl
import Derived.Test.YtbcbgfkojmligaaProg
/- What functions of the program answer, each under the conditions that its contract names. -/
set_option linter.unusedVariables false
set_option linter.unusedSimpArgs false
set_option maxRecDepth 100000
namespace Go.AM
def c97 : C := (.seq (.reg [⟨(some 6), .mv, [.c (.bool false)], none⟩])
 (.seq (.reg [⟨(some 7), .mv, [.t 0], none⟩,
  ⟨(some 8), .mv, [.t 1], none⟩,
  ⟨(some 9), (.bin .geq), [.t 7, .t 8], none⟩,
  ⟨(some 10), .mv, [.t 9], none⟩,
  ⟨(some 11), .mv, [.t 0], (some (10, true))⟩,
  ⟨(some 12), .mv, [.t 2], (some (10, true))⟩,
  ⟨(some 13), (.bin .leq), [.t 11, .t 12], (some (10, true))⟩,
  ⟨(some 14), .pick, [.t 10, .t 13, .c (.bool false)], none⟩,
  ⟨(some 6), .mv, [.t 14], none⟩])
 .ret))
theorem comp97 : compC Go.Proofs.Try.prog ttL 15 [] (match Go.Proofs.Try.f97.body with | some b => b | none => .skip) = some (c97) := by kernel_rfl
def c98 : C := (.seq (.reg [⟨(some 4), .box, [.t 1], none⟩,
  ⟨(some 5), .box, [.t 2], none⟩,
  ⟨(some 6), .mv, [.c (.bool false)], none⟩])
 (.seq (.reg [⟨(some 7), .mv, [.t 0], none⟩,
  ⟨(some 8), (.clo 125), [.t 4, .t 5], none⟩,
  ⟨(some 9), (.call 124), [.t 7, .t 8], none⟩,
  ⟨(some 10), .not, [.t 9], none⟩,
  ⟨(some 6), .mv, [.t 10], none⟩])
 .ret))
theorem comp98 : compC Go.Proofs.Try.prog ttL 11 [] (match Go.Proofs.Try.f98.body with | some b => b | none => .skip) = some (c98) := by kernel_rfl
def c99 : C := (.seq (.reg [⟨(some 2), .box, [.t 0], none⟩,
  ⟨(some 3), .mv, [.c (.bool false)], none⟩])
 (.seq (.reg [⟨(some 4), (.fld 0), [.t 2], none⟩,
  ⟨(some 5), (.load 1 false), [.t 4], none⟩,
  ⟨(some 6), (.fld 2), [.t 1], none⟩,
  ⟨(some 7), (.load 1 false), [.t 6], none⟩,
  ⟨(some 8), (.call 97), [.t 5, .c (.int .i64 0), .t 7], none⟩,
  ⟨(some 9), .not, [.t 8], none⟩,
  ⟨(some 3), .mv, [.t 9], none⟩])
 .ret))
theorem comp99 : compC Go.Proofs.Try.prog ttL 10 [] (match Go.Proofs.Try.f99.body with | some b => b | none => .skip) = some (c99) := by kernel_rfl
def c100 : C := (.seq (.reg [⟨(some 4), .mv, [.c (.bool false)], none⟩])
 (.seq (.reg [⟨(some 5), .mv, [.t 0], none⟩,
  ⟨(some 6), .mv, [.t 1], none⟩,
  ⟨(some 7), (.call 126), [.t 5, .t 6], none⟩,
  ⟨(some 8), (.bin .geq), [.t 7, .c (.int .i64 0)], none⟩,
  ⟨(some 4), .mv, [.t 8], none⟩])
 .ret))
theorem comp100 : compC Go.Proofs.Try.prog ttL 9 [] (match Go.Proofs.Try.f100.body with | some b => b | none => .skip) = some (c100) := by kernel_rfl
def c124 : C := (.seq (.reg [⟨(some 4), .mv, [.c (.bool false)], none⟩])
 (.seq (.reg [⟨(some 5), .mv, [.t 0], none⟩,
  ⟨(some 6), .mv, [.t 1], none⟩,
  ⟨(some 7), (.call 128), [.t 5, .t 6], none⟩,
  ⟨(some 8), (.bin .geq), [.t 7, .c (.int .i64 0)], none⟩,
  ⟨(some 4), .mv, [.t 8], none⟩])
 .ret))
theorem comp124 : compC Go.Proofs.Try.prog ttL 9 [] (match Go.Proofs.Try.f124.body with | some b => b | none => .skip) = some (c124) := by kernel_rfl
def c125 : C := (.seq (.reg [⟨(some 4), .mv, [.c (.bool false)], none⟩])
 (.seq (.reg [⟨(some 5), .mv, [.t 0], none⟩,
  ⟨(some 6), (.load 1 false), [.t 1], none⟩,
  ⟨(some 7), (.load 1 false), [.t 2], none⟩,
  ⟨(some 8), (.call 97), [.t 5, .t 6, .t 7], none⟩,
  ⟨(some 9), .not, [.t 8], none⟩,
  ⟨(some 4), .mv, [.t 9], none⟩])
 .ret))
theorem comp125 : compC Go.Proofs.Try.prog ttL 10 [] (match Go.Proofs.Try.f125.body with | some b => b | none => .skip) = some (c125) := by kernel_rfl
def c126 : C := (.seq (.reg [⟨(some 4), .mv, [.c (.int .i64 0)], none⟩])
 (.seq (.seq (.reg [⟨(some 6), .mv, [.t 0], none⟩,
  ⟨(some 7), .len, [.t 6], none⟩,
  ⟨(some 8), .mv, [.c (.int .i64 0)], none⟩])
 (.block 0 (.loop (.seq (.reg [⟨(some 9), (.bin .lss), [.t 8, .t 7], none⟩])
 (.seq (.cond (.t 9) .skip (.exit 0))
 (.seq (.block 1 (.seq (.reg [⟨(some 10), .mv, [.t 8], none⟩,
  ⟨(some 5), .mv, [.t 10], none⟩])
 (.seq (.reg [⟨(some 11), .mv, [.t 1], none⟩,
  ⟨(some 12), .mv, [.t 0], none⟩,
  ⟨(some 13), .mv, [.t 5], none⟩,
  ⟨(some 14), (.idx 2), [.t 12, .t 13], none⟩,
  ⟨(some 15), (.load 2 true), [.t 14], none⟩,
  ⟨(some 16), .callv, [.t 11, .t 15], none⟩])
 (.cond (.t 16) (.seq (.reg [⟨(some 17), .mv, [.t 5], none⟩,
  ⟨(some 4), .mv, [.t 17], none⟩])
 .ret) .skip))))
 (.reg [⟨(some 18), (.bin .add), [.t 8, .c (.int .i64 1)], none⟩,
  ⟨(some 8), .mv, [.t 18], none⟩])))))))
 (.seq (.reg [⟨(some 4), .mv, [.c (.int .i64 (-1))], none⟩])
 .ret)))
theorem comp126 : compC Go.Proofs.Try.prog ttL 19 [] (match Go.Proofs.Try.f126.body with | some b => b | none => .skip) = some (c126) := by kernel_rfl
def c128 : C := (.seq (.reg [⟨(some 4), .mv, [.c (.int .i64 0)], none⟩])
 (.seq (.seq (.reg [⟨(some 6), .mv, [.t 0], none⟩,
  ⟨(some 7), .len, [.t 6], none⟩,
  ⟨(some 8), .mv, [.c (.int .i64 0)], none⟩])
 (.block 0 (.loop (.seq (.reg [⟨(some 9), (.bin .lss), [.t 8, .t 7], none⟩])
 (.seq (.cond (.t 9) .skip (.exit 0))
 (.seq (.block 1 (.seq (.reg [⟨(some 10), .mv, [.t 8], none⟩,
  ⟨(some 5), .mv, [.t 10], none⟩])
 (.seq (.reg [⟨(some 11), .mv, [.t 1], none⟩,
  ⟨(some 12), .mv, [.t 0], none⟩,
  ⟨(some 13), .mv, [.t 5], none⟩,
  ⟨(some 14), (.idx 1), [.t 12, .t 13], none⟩,
  ⟨(some 15), (.load 1 false), [.t 14], none⟩,
  ⟨(some 16), .callv, [.t 11, .t 15], none⟩])
 (.cond (.t 16) (.seq (.reg [⟨(some 17), .mv, [.t 5], none⟩,
  ⟨(some 4), .mv, [.t 17], none⟩])
 .ret) .skip))))
 (.reg [⟨(some 18), (.bin .add), [.t 8, .c (.int .i64 1)], none⟩,
  ⟨(some 8), .mv, [.t 18], none⟩])))))))
 (.seq (.reg [⟨(some 4), .mv, [.c (.int .i64 (-1))], none⟩])
 .ret)))
theorem comp128 : compC Go.Proofs.Try.prog ttL 19 [] (match Go.Proofs.Try.f128.body with | some b => b | none => .skip) = some (c128) := by kernel_rfl
end Go.AM
set_option maxRecDepth 100000
set_option maxHeartbeats 4000000
set_option linter.unusedSimpArgs false
namespace Go.AM
open Go.Proofs
attribute [local congr] vc_congr evOps_congr evTab_congr bind_congr condK_congr tabK_congr
theorem fnAs_gen {t c : Ty} {pre f bk bf} {y : den c} (ht : plain t = true) (hc : plain c = true) : fnAs (.pair t .unit) (.pair .bool .unit) ⟨.pair t c, .pair .bool .unit, pre, f, true, none, bk, bf⟩ c y = some fun x => f (x.1, y) := by
  have e : appTy (.pair t .unit) c = .pair t c := by cases c <;> rfl
  have hp : plain (.pair t .unit) = true := by simp [plain, ht]
  unfold fnAs
  rw [dif_pos ⟨e.symm, rfl, rfl, rfl, hp, hc, rfl⟩]
  cases c <;> rfl
@[go_sem] theorem fnAs_r2 {pre f y bk bf} : fnAs (.pair tI .unit) (.pair .bool .unit) ⟨.pair tI (.pair (.ref tI) (.pair (.ref tI) .unit)), .pair .bool .unit, pre, f, true, none, bk, bf⟩ (.pair (.ref tI) (.pair (.ref tI) .unit)) y = some fun x => f (x.1, y) := fnAs_gen rfl rfl
@[go_sem] theorem fnAs_en {pre f y bk bf} : fnAs (.pair tEntry .unit) (.pair .bool .unit) ⟨.pair tEntry (.pair (.ref tNode) .unit), .pair .bool .unit, pre, f, true, none, bk, bf⟩ (.pair (.ref tNode) .unit) y = some fun x => f (x.1, y) := fnAs_gen rfl rfl
@[go_sem] theorem fnAs_em {pre f y bk bf} : fnAs (.pair tEntry .unit) (.pair .bool .unit) ⟨.pair tEntry (.pair (.ref tMsg) .unit), .pair .bool .unit, pre, f, true, none, bk, bf⟩ (.pair (.ref tMsg) .unit) y = some fun x => f (x.1, y) := fnAs_gen rfl rfl
def inB (v a b : Int) : Bool := decide (a ≤ v) && decide (v ≤ b)
def fn97 : Fn := { a := .pair tI (.pair tI (.pair tI .unit)), r := .pair .bool .unit, pre := fun _ => True, f := fun x => (inB x.1 x.2.1 x.2.2.1, ()) }
theorem h97  : Holds Try.prog 97 (fn97) := by
  refine Holds.of_vc (T := []) (TT := ttL) (rowAt := []) (c := c97) (ros := [.t 6]) (.nil _) mixed Try.func97 (by decide +kernel) (by rfl) comp97 (by kernel_rfl) rfl rfl (fun h => by cases h) ?_
  rintro ⟨(v : Int), (a : Int), (b : Int), _⟩ hpre
  simp only [fn97] at hpre ⊢
  simp only [c97, go_sem, reduceIte, Nat.reduceBEq, Nat.reduceMul, reduceCtorEq, Nat.reduceAdd, Nat.reduceEqDiff, decide_eq_true_eq, decide_eq_false_iff_not, Bool.not_eq_true', Bool.not_eq_false', Bool.and_eq_true, Bool.or_eq_true, Bool.and_eq_false_iff, Bool.or_eq_false_iff, Bool.cond_true_left, Bool.cond_false_right, Bool.cond_true_right, Bool.cond_false_left, Bool.or_false, Bool.and_true, inB]
def fn125 : Fn := { a := .pair tI (.pair (.ref tI) (.pair (.ref tI) .unit)), r := .pair .bool .unit, pre := fun _ => True, f := fun x => (!inB x.1 x.2.1 x.2.2.1, ()), tot := true }
theorem h125 : Holds Try.prog 125 fn125 := by
  refine Holds.of_vc (T := [(97, fn97)]) (TT := ttL) (rowAt := []) (c := c125) (ros := [.t 4]) (.cons _ h97 (.nil _)) mixed Try.func125 (by decide +kernel) (by rfl) comp125 (by kernel_rfl) rfl rfl (fun _ _ => trivial) ?_
  rintro ⟨(v : Int), (a : Int), (b : Int), _⟩ hpre
  simp only [fn125] at hpre ⊢
  simp only [c125, fn97, go_sem, reduceIte, Nat.reduceBEq, Nat.reduceMul, reduceCtorEq, Nat.reduceAdd, Nat.reduceEqDiff, decide_eq_true_eq, decide_eq_false_iff_not, Bool.not_eq_true', Bool.not_eq_false', Bool.and_eq_true, Bool.or_eq_true, Bool.and_eq_false_iff, Bool.or_eq_false_iff, Bool.cond_true_left, Bool.cond_false_right, Bool.cond_true_right, Bool.cond_false_left, Bool.or_false, Bool.and_true]
def fidx {α : Type} (l : List α) (p : α → Bool) : Int := if l.any p then (l.findIdx p : Int) else -1
theorem fidx_found {α : Type} {d : α} {l : List α} {p : α → Bool} {i : Nat} (hi : i < l.length) (h : ∀ j, j < i → p (l.getD j d) = false) (hp : p (l.getD i d) = true) : fidx l p = i := by
  rw [List.getD_eq_getElem?_getD, List.getElem?_eq_getElem hi] at hp
  simp only [Option.getD_some] at hp
  have ha : l.any p = true := List.any_eq_true.2 ⟨_, List.getElem_mem hi, hp⟩
  unfold fidx
  rw [if_pos ha, (List.findIdx_eq hi).2 ⟨hp, fun j hj => ?_⟩]
  have := h j hj
  rw [List.getD_eq_getElem?_getD, List.getElem?_eq_getElem (by omega)] at this
  exact this
theorem fidx_none {α : Type} {d : α} {l : List α} {p : α → Bool} (h : ∀ j, j < l.length → p (l.getD j d) = false) : fidx l p = -1 := by
  have ha : ¬ l.any p = true := by
    intro ha
    obtain ⟨x, hx, hp⟩ := List.any_eq_true.1 ha
    obtain ⟨j, hj, rfl⟩ := List.getElem_of_mem hx
    have := h j hj
    rw [List.getD_eq_getElem?_getD, List.getElem?_eq_getElem hj] at this
    simp only [Option.getD_some] at this
    rw [this] at hp
    cases hp
  unfold fidx
  rw [if_neg ha]
theorem fidx_pos {α : Type} (l : List α) (p : α → Bool) : decide (0 ≤ fidx l p) = l.any p := by
  unfold fidx
  cases l.any p with
  | true => simp
  | false => simp
def fn128 : Fn := { a := .pair (.list tI) (.pair (.fn (.pair tI .unit) (.pair .bool .unit)) .unit), r := .pair tI .unit, pre := fun x => smallL x.1, f := fun x => (fidx x.1 (fun v => (x.2.1 (v, ())).1), ()) }
theorem h128  : Holds Try.prog 128 (fn128) := by
  refine Holds.of_vc (T := []) (TT := ttL) (rowAt := []) (c := c128) (ros := [.t 4]) (.nil _) mixed Try.func128 (by decide +kernel) (by rfl) comp128 (by kernel_rfl) rfl rfl (fun h => by cases h) ?_
  rintro ⟨(l : List Int), (p : Int × Unit → Bool × Unit), _⟩ hpre
  simp only [fn128] at hpre ⊢
  simp only [c128, go_sem, reduceIte, Nat.reduceBEq, Nat.reduceMul, reduceCtorEq, Nat.reduceAdd, Nat.reduceEqDiff, decide_eq_true_eq, decide_eq_false_iff_not, Bool.not_eq_true', Bool.not_eq_false', Bool.and_eq_true, Bool.or_eq_true, Bool.and_eq_false_iff, Bool.or_eq_false_iff, Bool.cond_true_left, Bool.cond_false_right, Bool.cond_true_right, Bool.cond_false_left, Bool.or_false, Bool.and_true, inR]
  refine loop_rule (β := Nat) (fun i => ⟨[(0, .sl tI l false), (1, .fv (.pair tI .unit) (.pair .bool .unit) p), (7, .int .i64 l.length), (8, .int .i64 i)], []⟩) (fun i => i ≤ l.length ∧ ∀ j, j < i → (p (l.getD j (dflt tI), ())).1 = false) (fun i => l.length - i) 0 ?_ ?_ ?_
  · refine Ent_of [] rfl ?_ ?_
    · simp only [go_sem, reduceIte, Nat.reduceBEq, Nat.reduceMul, reduceCtorEq, Nat.reduceAdd, Nat.reduceEqDiff, decide_eq_true_eq, decide_eq_false_iff_not, Bool.not_eq_true', Bool.not_eq_false', Bool.and_eq_true, Bool.or_eq_true, Bool.and_eq_false_iff, Bool.or_eq_false_iff, Bool.cond_true_left, Bool.cond_false_right, Bool.cond_true_right, Bool.cond_false_left, Bool.or_false, Bool.and_true]
    · simp only [go_sem, reduceIte, Nat.reduceBEq, Nat.reduceMul, reduceCtorEq, Nat.reduceAdd, Nat.reduceEqDiff, decide_eq_true_eq, decide_eq_false_iff_not, Bool.not_eq_true', Bool.not_eq_false', Bool.and_eq_true, Bool.or_eq_true, Bool.and_eq_false_iff, Bool.or_eq_false_iff, Bool.cond_true_left, Bool.cond_false_right, Bool.cond_true_right, Bool.cond_false_left, Bool.or_false, Bool.and_true]
      trivial
  · exact ⟨Nat.zero_le _, fun j hj => absurd hj (Nat.not_lt_zero j)⟩
  rintro i ⟨hi, hk⟩
  simp only [sm] at hpre
  simp only [go_sem, reduceIte, Nat.reduceBEq, Nat.reduceMul, reduceCtorEq, Nat.reduceAdd, Nat.reduceEqDiff, decide_eq_true_eq, decide_eq_false_iff_not, Bool.not_eq_true', Bool.not_eq_false', Bool.and_eq_true, Bool.or_eq_true, Bool.and_eq_false_iff, Bool.or_eq_false_iff, Bool.cond_true_left, Bool.cond_false_right, Bool.cond_true_right, Bool.cond_false_left, Bool.or_false, Bool.and_true, inR]
  refine ⟨fun h => ⟨by omega, fun hp => (fidx_found (d := dflt tI) (by omega) hk hp).symm, fun hp => ⟨by omega, Again.intro (i + 1) (Ent_of [] rfl ?_ ?_) ⟨?_, fun j hj => ?_⟩ ?_⟩⟩, fun h => ?_⟩
  · simp only [go_sem, reduceIte, Nat.reduceBEq, Nat.reduceMul, reduceCtorEq, Nat.reduceAdd, Nat.reduceEqDiff, decide_eq_true_eq, decide_eq_false_iff_not, Bool.not_eq_true', Bool.not_eq_false', Bool.and_eq_true, Bool.or_eq_true, Bool.and_eq_false_iff, Bool.or_eq_false_iff, Bool.cond_true_left, Bool.cond_false_right, Bool.cond_true_right, Bool.cond_false_left, Bool.or_false, Bool.and_true]
  · simp only [go_sem, reduceIte, Nat.reduceBEq, Nat.reduceMul, reduceCtorEq, Nat.reduceAdd, Nat.reduceEqDiff, decide_eq_true_eq, decide_eq_false_iff_not, Bool.not_eq_true', Bool.not_eq_false', Bool.and_eq_true, Bool.or_eq_true, Bool.and_eq_false_iff, Bool.or_eq_false_iff, Bool.cond_true_left, Bool.cond_false_right, Bool.cond_true_right, Bool.cond_false_left, Bool.or_false, Bool.and_true]
    omega
  · show i + 1 ≤ l.length; omega
  · rcases Nat.lt_or_ge j i with h2 | h2
    · exact hk j h2
    · rw [show j = i by omega]; exact hp
  · show l.length - (i + 1) < l.length - i; omega
  · exact (fidx_none (d := dflt tI) fun j hj => hk j (by omega)).symm
def fn126 : Fn := { a := .pair (.list tEntry) (.pair (.fn (.pair tEntry .unit) (.pair .bool .unit)) .unit), r := .pair tI .unit, pre := fun x => smallL x.1, f := fun x => (fidx x.1 (fun v => (x.2.1 (v, ())).1), ()) }
theorem h126  : Holds Try.prog 126 (fn126) := by
  refine Holds.of_vc (T := []) (TT := ttL) (rowAt := []) (c := c126) (ros := [.t 4]) (.nil _) mixed Try.func126 (by decide +kernel) (by rfl) comp126 (by kernel_rfl) rfl rfl (fun h => by cases h) ?_
  rintro ⟨(l : List E), (p : E × Unit → Bool × Unit), _⟩ hpre
  simp only [fn126] at hpre ⊢
  simp only [c126, go_sem, reduceIte, Nat.reduceBEq, Nat.reduceMul, reduceCtorEq, Nat.reduceAdd, Nat.reduceEqDiff, decide_eq_true_eq, decide_eq_false_iff_not, Bool.not_eq_true', Bool.not_eq_false', Bool.and_eq_true, Bool.or_eq_true, Bool.and_eq_false_iff, Bool.or_eq_false_iff, Bool.cond_true_left, Bool.cond_false_right, Bool.cond_true_right, Bool.cond_false_left, Bool.or_false, Bool.and_true, inR]
  refine loop_rule (β := Nat) (fun i => ⟨[(0, .sl tEntry l false), (1, .fv (.pair tEntry .unit) (.pair .bool .unit) p), (7, .int .i64 l.length), (8, .int .i64 i)], []⟩) (fun i => i ≤ l.length ∧ ∀ j, j < i → (p (l.getD j (dflt tEntry), ())).1 = false) (fun i => l.length - i) 0 ?_ ?_ ?_
  · refine Ent_of [] rfl ?_ ?_
    · simp only [go_sem, reduceIte, Nat.reduceBEq, Nat.reduceMul, reduceCtorEq, Nat.reduceAdd, Nat.reduceEqDiff, decide_eq_true_eq, decide_eq_false_iff_not, Bool.not_eq_true', Bool.not_eq_false', Bool.and_eq_true, Bool.or_eq_true, Bool.and_eq_false_iff, Bool.or_eq_false_iff, Bool.cond_true_left, Bool.cond_false_right, Bool.cond_true_right, Bool.cond_false_left, Bool.or_false, Bool.and_true]
    · simp only [go_sem, reduceIte, Nat.reduceBEq, Nat.reduceMul, reduceCtorEq, Nat.reduceAdd, Nat.reduceEqDiff, decide_eq_true_eq, decide_eq_false_iff_not, Bool.not_eq_true', Bool.not_eq_false', Bool.and_eq_true, Bool.or_eq_true, Bool.and_eq_false_iff, Bool.or_eq_false_iff, Bool.cond_true_left, Bool.cond_false_right, Bool.cond_true_right, Bool.cond_false_left, Bool.or_false, Bool.and_true]
      trivial
  · exact ⟨Nat.zero_le _, fun j hj => absurd hj (Nat.not_lt_zero j)⟩
  rintro i ⟨hi, hk⟩
  simp only [sm] at hpre
  simp only [go_sem, reduceIte, Nat.reduceBEq, Nat.reduceMul, reduceCtorEq, Nat.reduceAdd, Nat.reduceEqDiff, decide_eq_true_eq, decide_eq_false_iff_not, Bool.not_eq_true', Bool.not_eq_false', Bool.and_eq_true, Bool.or_eq_true, Bool.and_eq_false_iff, Bool.or_eq_false_iff, Bool.cond_true_left, Bool.cond_false_right, Bool.cond_true_right, Bool.cond_false_left, Bool.or_false, Bool.and_true, inR]
  refine ⟨fun h => ⟨by omega, fun hp => (fidx_found (d := dflt tEntry) (by omega) hk hp).symm, fun hp => ⟨by omega, Again.intro (i + 1) (Ent_of [] rfl ?_ ?_) ⟨?_, fun j hj => ?_⟩ ?_⟩⟩, fun h => ?_⟩
  · simp only [go_sem, reduceIte, Nat.reduceBEq, Nat.reduceMul, reduceCtorEq, Nat.reduceAdd, Nat.reduceEqDiff, decide_eq_true_eq, decide_eq_false_iff_not, Bool.not_eq_true', Bool.not_eq_false', Bool.and_eq_true, Bool.or_eq_true, Bool.and_eq_false_iff, Bool.or_eq_false_iff, Bool.cond_true_left, Bool.cond_false_right, Bool.cond_true_right, Bool.cond_false_left, Bool.or_false, Bool.and_true]
  · simp only [go_sem, reduceIte, Nat.reduceBEq, Nat.reduceMul, reduceCtorEq, Nat.reduceAdd, Nat.reduceEqDiff, decide_eq_true_eq, decide_eq_false_iff_not, Bool.not_eq_true', Bool.not_eq_false', Bool.and_eq_true, Bool.or_eq_true, Bool.and_eq_false_iff, Bool.or_eq_false_iff, Bool.cond_true_left, Bool.cond_false_right, Bool.cond_true_right, Bool.cond_false_left, Bool.or_false, Bool.and_true]
    omega
  · show i + 1 ≤ l.length; omega
  · rcases Nat.lt_or_ge j i with h2 | h2
    · exact hk j h2
    · rw [show j = i by omega]; exact hp
  · show l.length - (i + 1) < l.length - i; omega
  · exact (fidx_none (d := dflt tEntry) fun j hj => hk j (by omega)).symm
def fn124 : Fn := { a := .pair (.list tI) (.pair (.fn (.pair tI .unit) (.pair .bool .unit)) .unit), r := .pair .bool .unit, pre := fun x => smallL x.1, f := fun x => (x.1.any (fun v => (x.2.1 (v, ())).1), ()) }
theorem h124  : Holds Try.prog 124 (fn124) := by
  refine Holds.of_vc (T := [(128, fn128)]) (TT := ttL) (rowAt := []) (c := c124) (ros := [.t 4]) (.cons _ h128 (.nil _)) mixed Try.func124 (by decide +kernel) (by rfl) comp124 (by kernel_rfl) rfl rfl (fun h => by cases h) ?_
  rintro ⟨(l : List Int), (p : Int × Unit → Bool × Unit), _⟩ hpre
  simp only [fn124] at hpre ⊢
  simp only [c124, fn128, go_sem, reduceIte, Nat.reduceBEq, Nat.reduceMul, reduceCtorEq, Nat.reduceAdd, Nat.reduceEqDiff, decide_eq_true_eq, decide_eq_false_iff_not, Bool.not_eq_true', Bool.not_eq_false', Bool.and_eq_true, Bool.or_eq_true, Bool.and_eq_false_iff, Bool.or_eq_false_iff, Bool.cond_true_left, Bool.cond_false_right, Bool.cond_true_right, Bool.cond_false_left, Bool.or_false, Bool.and_true, inR, fidx_pos]
  exact hpre
def fn100 : Fn := { a := .pair (.list tEntry) (.pair (.fn (.pair tEntry .unit) (.pair .bool .unit)) .unit), r := .pair .bool .unit, pre := fun x => smallL x.1, f := fun x => (x.1.any (fun v => (x.2.1 (v, ())).1), ()) }
theorem h100  : Holds Try.prog 100 (fn100) := by
  refine Holds.of_vc (T := [(126, fn126)]) (TT := ttL) (rowAt := []) (c := c100) (ros := [.t 4]) (.cons _ h126 (.nil _)) mixed Try.func100 (by decide +kernel) (by rfl) comp100 (by kernel_rfl) rfl rfl (fun h => by cases h) ?_
  rintro ⟨(l : List E), (p : E × Unit → Bool × Unit), _⟩ hpre
  simp only [fn100] at hpre ⊢
  simp only [c100, fn126, go_sem, reduceIte, Nat.reduceBEq, Nat.reduceMul, reduceCtorEq, Nat.reduceAdd, Nat.reduceEqDiff, decide_eq_true_eq, decide_eq_false_iff_not, Bool.not_eq_true', Bool.not_eq_false', Bool.and_eq_true, Bool.or_eq_true, Bool.and_eq_false_iff, Bool.or_eq_false_iff, Bool.cond_true_left, Bool.cond_false_right, Bool.cond_true_right, Bool.cond_false_left, Bool.or_false, Bool.and_true, inR, fidx_pos]
  exact hpre
def eachB (l : List Int) (a b : Int) : Bool := !(l.any fun v => !inB v a b)
def fn98 : Fn := { a := .pair (.list tI) (.pair tI (.pair tI .unit)), r := .pair .bool .unit, pre := fun x => smallL x.1, f := fun x => (eachB x.1 x.2.1 x.2.2.1, ()) }
theorem h98  : Holds Try.prog 98 (fn98) := by
  refine Holds.of_vc (T := [(124, fn124), (125, fn125)]) (TT := ttL) (rowAt := []) (c := c98) (ros := [.t 6]) (.cons _ h124 (.cons _ h125 (.nil _))) mixed Try.func98 (by decide +kernel) (by rfl) comp98 (by kernel_rfl) rfl rfl (fun h => by cases h) ?_
  rintro ⟨(l : List Int), (a : Int), (b : Int), _⟩ hpre
  simp only [fn98] at hpre ⊢
  simp only [c98, fn124, fn125, go_sem, reduceIte, Nat.reduceBEq, Nat.reduceMul, reduceCtorEq, Nat.reduceAdd, Nat.reduceEqDiff, decide_eq_true_eq, decide_eq_false_iff_not, Bool.not_eq_true', Bool.not_eq_false', Bool.and_eq_true, Bool.or_eq_true, Bool.and_eq_false_iff, Bool.or_eq_false_iff, Bool.cond_true_left, Bool.cond_false_right, Bool.cond_true_right, Bool.cond_false_left, Bool.or_false, Bool.and_true, inR, eachB]
  trace_state
  exact hpre
def fn99 : Fn := { a := .pair tEntry (.pair (.ref tNode) .unit), r := .pair .bool .unit, pre := fun _ => True, f := fun x => (!inB x.1.1 0 (nTerm x.2.1), ()), tot := true }
theorem h99 : Holds Try.prog 99 fn99 := by
  refine Holds.of_vc (T := [(97, fn97)]) (TT := ttL) (rowAt := []) (c := c99) (ros := [.t 3]) (.cons _ h97 (.nil _)) mixed Try.func99 (by decide +kernel) (by rfl) comp99 (by kernel_rfl) rfl rfl (fun _ _ => trivial) ?_
  rintro ⟨(e : E), (n : Node), _⟩ hpre
  simp only [fn99] at hpre ⊢
  simp only [c99, fn97, go_sem, reduceIte, Nat.reduceBEq, Nat.reduceMul, reduceCtorEq, Nat.reduceAdd, Nat.reduceEqDiff, decide_eq_true_eq, decide_eq_false_iff_not, Bool.not_eq_true', Bool.not_eq_false', Bool.and_eq_true, Bool.or_eq_true, Bool.and_eq_false_iff, Bool.or_eq_false_iff, Bool.cond_true_left, Bool.cond_false_right, Bool.cond_true_right, Bool.cond_false_left, Bool.or_false, Bool.and_true]
  trace_state
end Go.AM
