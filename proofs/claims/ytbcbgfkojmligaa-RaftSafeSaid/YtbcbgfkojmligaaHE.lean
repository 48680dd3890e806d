import Derived.Test.YtbcbgfkojmligaaHD
import Derived.KernelRfl
import Derived.Test.YtbcbgfkojmligaaProg
/- What functions of the program answer, each under the conditions that its contract names. -/
set_option linter.unusedVariables false
set_option linter.unusedSimpArgs false
set_option maxRecDepth 100000
namespace Go.AM
def c100 : C := (.seq (.reg [⟨(some 4), .mv, [.c (.bool false)], none⟩])
 (.seq (.reg [⟨(some 5), .mv, [.t 0], none⟩,
  ⟨(some 6), .mv, [.t 1], none⟩,
  ⟨(some 7), (.call 126), [.t 5, .t 6], none⟩,
  ⟨(some 8), (.bin .geq), [.t 7, .c (.int .i64 0)], none⟩,
  ⟨(some 4), .mv, [.t 8], none⟩])
 .ret))
theorem comp100 : compC Go.Proofs.Try.prog ttL 9 [] (match Go.Proofs.Try.f100.body with | some b => b | none => .skip) = some (c100) := by kernel_rfl
def c126 : C := (.seq (.reg [⟨(some 4), .mv, [.c (.int .i64 0)], none⟩])
 (.seq (.seq (.reg [⟨(some 6), .mv, [.t 0], none⟩,
  ⟨(some 7), .len, [.t 6], none⟩,
  ⟨(some 8), .mv, [.c (.int .i64 0)], none⟩])
 (.block 0 (.loop (.seq (.reg [⟨(some 9), (.bin .lss), [.t 8, .t 7], none⟩])
 (.seq (.cond (.t 9) .skip (.exit 0))
 (.seq (.block 1 (.seq (.reg [⟨(some 10), .mv, [.t 8], none⟩,
  ⟨(some 5), .mv, [.t 10], none⟩])
 (.seq (.reg [⟨(some 11), .mv, [.t 1], none⟩,
  ⟨(some 12), .mv, [.t 0], none⟩,
  ⟨(some 13), .mv, [.t 5], none⟩,
  ⟨(some 14), (.idx 2), [.t 12, .t 13], none⟩,
  ⟨(some 15), (.load 2 true), [.t 14], none⟩,
  ⟨(some 16), .callv, [.t 11, .t 15], none⟩])
 (.cond (.t 16) (.seq (.reg [⟨(some 17), .mv, [.t 5], none⟩,
  ⟨(some 4), .mv, [.t 17], none⟩])
 .ret) .skip))))
 (.reg [⟨(some 18), (.bin .add), [.t 8, .c (.int .i64 1)], none⟩,
  ⟨(some 8), .mv, [.t 18], none⟩])))))))
 (.seq (.reg [⟨(some 4), .mv, [.c (.int .i64 (-1))], none⟩])
 .ret)))
theorem comp126 : compC Go.Proofs.Try.prog ttL 19 [] (match Go.Proofs.Try.f126.body with | some b => b | none => .skip) = some (c126) := by kernel_rfl
end Go.AM
set_option maxRecDepth 100000
set_option maxHeartbeats 4000000
set_option linter.unusedSimpArgs false
namespace Go.AM
open Go.Proofs
attribute [local congr] vc_congr evOps_congr evTab_congr bind_congr condK_congr tabK_congr
theorem fnAs_gen {t c : Ty} {pre f bk bf} {y : den c} (ht : plain t = true) (hc : plain c = true) : fnAs (.pair t .unit) (.pair .bool .unit) ⟨.pair t c, .pair .bool .unit, pre, f, true, none, bk, bf⟩ c y = some fun x => f (x.1, y) := by
  have e : appTy (.pair t .unit) c = .pair t c := by cases c <;> rfl
  have hp : plain (.pair t .unit) = true := by simp [plain, ht]
  unfold fnAs
  rw [dif_pos ⟨e.symm, rfl, rfl, rfl, hp, hc, rfl⟩]
  cases c <;> rfl
@[go_sem] theorem fnAs_r2 {pre f y bk bf} : fnAs (.pair tI .unit) (.pair .bool .unit) ⟨.pair tI (.pair (.ref tI) (.pair (.ref tI) .unit)), .pair .bool .unit, pre, f, true, none, bk, bf⟩ (.pair (.ref tI) (.pair (.ref tI) .unit)) y = some fun x => f (x.1, y) := fnAs_gen rfl rfl
@[go_sem] theorem fnAs_en {pre f y bk bf} : fnAs (.pair tEntry .unit) (.pair .bool .unit) ⟨.pair tEntry (.pair (.ref tNode) .unit), .pair .bool .unit, pre, f, true, none, bk, bf⟩ (.pair (.ref tNode) .unit) y = some fun x => f (x.1, y) := fnAs_gen rfl rfl
@[go_sem] theorem fnAs_em {pre f y bk bf} : fnAs (.pair tEntry .unit) (.pair .bool .unit) ⟨.pair tEntry (.pair (.ref tMsg) .unit), .pair .bool .unit, pre, f, true, none, bk, bf⟩ (.pair (.ref tMsg) .unit) y = some fun x => f (x.1, y) := fnAs_gen rfl rfl
def inB (v a b : Int) : Bool := decide (a ≤ v) && decide (v ≤ b)
def fidx {α : Type} (l : List α) (p : α → Bool) : Int := if l.any p then (l.findIdx p : Int) else -1
theorem fidx_found {α : Type} {d : α} {l : List α} {p : α → Bool} {i : Nat} (hi : i < l.length) (h : ∀ j, j < i → p (l.getD j d) = false) (hp : p (l.getD i d) = true) : fidx l p = i := by
  rw [List.getD_eq_getElem?_getD, List.getElem?_eq_getElem hi] at hp
  simp only [Option.getD_some] at hp
  have ha : l.any p = true := List.any_eq_true.2 ⟨_, List.getElem_mem hi, hp⟩
  unfold fidx
  rw [if_pos ha, (List.findIdx_eq hi).2 ⟨hp, fun j hj => ?_⟩]
  have := h j hj
  rw [List.getD_eq_getElem?_getD, List.getElem?_eq_getElem (by omega)] at this
  exact this
theorem fidx_none {α : Type} {d : α} {l : List α} {p : α → Bool} (h : ∀ j, j < l.length → p (l.getD j d) = false) : fidx l p = -1 := by
  have ha : ¬ l.any p = true := by
    intro ha
    obtain ⟨x, hx, hp⟩ := List.any_eq_true.1 ha
    obtain ⟨j, hj, rfl⟩ := List.getElem_of_mem hx
    have := h j hj
    rw [List.getD_eq_getElem?_getD, List.getElem?_eq_getElem hj] at this
    simp only [Option.getD_some] at this
    rw [this] at hp
    cases hp
  unfold fidx
  rw [if_neg ha]
theorem fidx_pos {α : Type} (l : List α) (p : α → Bool) : decide (0 ≤ fidx l p) = l.any p := by
  unfold fidx
  cases l.any p with
  | true => simp
  | false => simp
def fn126 : Fn := { a := .pair (.list tEntry) (.pair (.fn (.pair tEntry .unit) (.pair .bool .unit)) .unit), r := .pair tI .unit, pre := fun x => smallL x.1, f := fun x => (fidx x.1 (fun v => (x.2.1 (v, ())).1), ()) }
theorem h126  : Holds Try.prog 126 (fn126) := by
  refine Holds.of_vc (T := []) (TT := ttL) (rowAt := []) (c := c126) (ros := [.t 4]) (.nil _) mixed Try.func126 (by decide +kernel) (by rfl) comp126 (by kernel_rfl) rfl rfl (fun h => by cases h) ?_
  rintro ⟨(l : List E), (p : E × Unit → Bool × Unit), _⟩ hpre
  simp only [fn126] at hpre ⊢
  simp only [c126, go_sem, reduceIte, Nat.reduceBEq, Nat.reduceMul, reduceCtorEq, Nat.reduceAdd, Nat.reduceEqDiff, decide_eq_true_eq, decide_eq_false_iff_not, Bool.not_eq_true', Bool.not_eq_false', Bool.and_eq_true, Bool.or_eq_true, Bool.and_eq_false_iff, Bool.or_eq_false_iff, Bool.cond_true_left, Bool.cond_false_right, Bool.cond_true_right, Bool.cond_false_left, Bool.or_false, Bool.and_true, inR]
  refine loop_rule (β := Nat) (fun i => ⟨[(0, .sl tEntry l false), (1, .fv (.pair tEntry .unit) (.pair .bool .unit) p), (7, .int .i64 l.length), (8, .int .i64 i)], []⟩) (fun i => i ≤ l.length ∧ ∀ j, j < i → (p (l.getD j (dflt tEntry), ())).1 = false) (fun i => l.length - i) 0 ?_ ?_ ?_
  · refine Ent_of [] rfl ?_ ?_
    · simp only [go_sem, reduceIte, Nat.reduceBEq, Nat.reduceMul, reduceCtorEq, Nat.reduceAdd, Nat.reduceEqDiff, decide_eq_true_eq, decide_eq_false_iff_not, Bool.not_eq_true', Bool.not_eq_false', Bool.and_eq_true, Bool.or_eq_true, Bool.and_eq_false_iff, Bool.or_eq_false_iff, Bool.cond_true_left, Bool.cond_false_right, Bool.cond_true_right, Bool.cond_false_left, Bool.or_false, Bool.and_true]
    · simp only [go_sem, reduceIte, Nat.reduceBEq, Nat.reduceMul, reduceCtorEq, Nat.reduceAdd, Nat.reduceEqDiff, decide_eq_true_eq, decide_eq_false_iff_not, Bool.not_eq_true', Bool.not_eq_false', Bool.and_eq_true, Bool.or_eq_true, Bool.and_eq_false_iff, Bool.or_eq_false_iff, Bool.cond_true_left, Bool.cond_false_right, Bool.cond_true_right, Bool.cond_false_left, Bool.or_false, Bool.and_true]
      trivial
  · exact ⟨Nat.zero_le _, fun j hj => absurd hj (Nat.not_lt_zero j)⟩
  rintro i ⟨hi, hk⟩
  simp only [sm] at hpre
  simp only [go_sem, reduceIte, Nat.reduceBEq, Nat.reduceMul, reduceCtorEq, Nat.reduceAdd, Nat.reduceEqDiff, decide_eq_true_eq, decide_eq_false_iff_not, Bool.not_eq_true', Bool.not_eq_false', Bool.and_eq_true, Bool.or_eq_true, Bool.and_eq_false_iff, Bool.or_eq_false_iff, Bool.cond_true_left, Bool.cond_false_right, Bool.cond_true_right, Bool.cond_false_left, Bool.or_false, Bool.and_true, inR]
  refine ⟨fun h => ⟨by omega, fun hp => (fidx_found (d := dflt tEntry) (by omega) hk hp).symm, fun hp => ⟨by omega, Again.intro (i + 1) (Ent_of [] rfl ?_ ?_) ⟨?_, fun j hj => ?_⟩ ?_⟩⟩, fun h => ?_⟩
  · simp only [go_sem, reduceIte, Nat.reduceBEq, Nat.reduceMul, reduceCtorEq, Nat.reduceAdd, Nat.reduceEqDiff, decide_eq_true_eq, decide_eq_false_iff_not, Bool.not_eq_true', Bool.not_eq_false', Bool.and_eq_true, Bool.or_eq_true, Bool.and_eq_false_iff, Bool.or_eq_false_iff, Bool.cond_true_left, Bool.cond_false_right, Bool.cond_true_right, Bool.cond_false_left, Bool.or_false, Bool.and_true]
  · simp only [go_sem, reduceIte, Nat.reduceBEq, Nat.reduceMul, reduceCtorEq, Nat.reduceAdd, Nat.reduceEqDiff, decide_eq_true_eq, decide_eq_false_iff_not, Bool.not_eq_true', Bool.not_eq_false', Bool.and_eq_true, Bool.or_eq_true, Bool.and_eq_false_iff, Bool.or_eq_false_iff, Bool.cond_true_left, Bool.cond_false_right, Bool.cond_true_right, Bool.cond_false_left, Bool.or_false, Bool.and_true]
    omega
  · show i + 1 ≤ l.length; omega
  · rcases Nat.lt_or_ge j i with h2 | h2
    · exact hk j h2
    · rw [show j = i by omega]; exact hp
  · show l.length - (i + 1) < l.length - i; omega
  · exact (fidx_none (d := dflt tEntry) fun j hj => hk j (by omega)).symm
def fn100 : Fn := { a := .pair (.list tEntry) (.pair (.fn (.pair tEntry .unit) (.pair .bool .unit)) .unit), r := .pair .bool .unit, pre := fun x => smallL x.1, f := fun x => (x.1.any (fun v => (x.2.1 (v, ())).1), ()) }
theorem h100  : Holds Try.prog 100 (fn100) := by
  refine Holds.of_vc (T := [(126, fn126)]) (TT := ttL) (rowAt := []) (c := c100) (ros := [.t 4]) (.cons _ h126 (.nil _)) mixed Try.func100 (by decide +kernel) (by rfl) comp100 (by kernel_rfl) rfl rfl (fun h => by cases h) ?_
  rintro ⟨(l : List E), (p : E × Unit → Bool × Unit), _⟩ hpre
  simp only [fn100] at hpre ⊢
  simp only [c100, fn126, go_sem, reduceIte, Nat.reduceBEq, Nat.reduceMul, reduceCtorEq, Nat.reduceAdd, Nat.reduceEqDiff, decide_eq_true_eq, decide_eq_false_iff_not, Bool.not_eq_true', Bool.not_eq_false', Bool.and_eq_true, Bool.or_eq_true, Bool.and_eq_false_iff, Bool.or_eq_false_iff, Bool.cond_true_left, Bool.cond_false_right, Bool.cond_true_right, Bool.cond_false_left, Bool.or_false, Bool.and_true, inR, fidx_pos]
  exact hpre
end Go.AM
