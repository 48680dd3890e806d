import Derived.Test.YtbcbgfkojmligaaHF
import Derived.KernelRfl
import Derived.Test.YtbcbgfkojmligaaProg
/- What functions of the program answer, each under the conditions that its contract names. -/
set_option linter.unusedVariables false
set_option linter.unusedSimpArgs false
set_option maxRecDepth 100000
namespace Go.AM
def c105 : C := (.seq (.reg [⟨(some 2), .mv, [.c (.sl tEntry [] true)], none⟩])
 (.seq (.seq (.reg [⟨(some 3), .mv, [.t 0], none⟩,
  ⟨(some 4), .isnil, [.t 3], none⟩])
 (.cond (.t 4) (.seq (.reg [⟨(some 2), .mv, [.c (.sl tEntry [] true)], none⟩])
 .ret) .skip))
 (.seq (.reg [⟨(some 5), (.bslice tEntry 0), [], none⟩,
  ⟨(some 6), .mv, [.t 0], none⟩,
  ⟨(some 7), (.app 2 24), [.t 5, .t 6], none⟩,
  ⟨(some 2), .mv, [.t 7], none⟩])
 .ret)))
theorem comp105 : compC Go.Proofs.Try.prog ttL 8 [] (match Go.Proofs.Try.f105.body with | some b => b | none => .skip) = some (c105) := by kernel_rfl
end Go.AM
set_option maxRecDepth 100000
set_option maxHeartbeats 8000000
set_option linter.unusedSimpArgs false
namespace Go.AM
open Go.Proofs
attribute [local congr] vc_congr evOps_congr evTab_congr bind_congr condK_congr tabK_congr
def fn105 : Fn := { a := .pair (.list tEntry) .unit, r := .pair (.olist tEntry) .unit, pre := fun x => smallL x.1, f := fun x => (x.1, ()) }
theorem h105  : Holds Try.prog 105 (fn105) := by
  refine Holds.of_vc (T := []) (TT := ttL) (rowAt := []) (c := c105) (ros := [.t 2]) (.nil _) mixed Try.func105 (by decide +kernel) (by rfl) comp105 (by kernel_rfl) rfl rfl (fun h => by cases h) ?_
  rintro ⟨(l : List E), _⟩ hpre
  simp only [fn105] at hpre ⊢
  simp only [c105, go_sem, reduceIte, Nat.reduceBEq, Nat.reduceMul, reduceCtorEq, Nat.reduceAdd, Nat.reduceEqDiff, decide_eq_true_eq, decide_eq_false_iff_not, Bool.not_eq_true', Bool.not_eq_false', Bool.and_eq_true, Bool.or_eq_true, Bool.and_eq_false_iff, Bool.or_eq_false_iff, Bool.cond_true_left, Bool.cond_false_right, Bool.cond_true_right, Bool.cond_false_left, Bool.or_false, Bool.and_true, inR]
  intro b hb
  simp only [sm] at hpre
  refine ⟨fun h => ?_, fun _ => ⟨by omega, by omega⟩⟩
  cases l with
  | nil => rfl
  | cons x l => rw [hb (by intro e; cases e)] at h; cases h
abbrev hTerm (h : Hrd) : Int := h.1
abbrev hVote (h : Hrd) : Int := h.2.1
abbrev hBase (h : Hrd) : Int := h.2.2.1
abbrev hBT (h : Hrd) : Int := h.2.2.2.1
abbrev hSnap (h : Hrd) : ByteArray := h.2.2.2.2.1
abbrev hLog (h : Hrd) : List E := h.2.2.2.2.2.1
def wakeN (id nodes : Int) (h : Hrd) : Node :=
  mkN (nId (newN id nodes)) (nNodes (newN id nodes)) (hTerm h) (hVote h) (hBase h) (hBT h) (hSnap h) (hLog h) 0 (-1) (hBase h) (nVotes (newN id nodes)) (nNext (newN id nodes)) (nMatch (newN id nodes)) 0
end Go.AM
