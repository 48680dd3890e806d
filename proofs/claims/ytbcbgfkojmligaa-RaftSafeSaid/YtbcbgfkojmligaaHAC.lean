import Derived.Test.YtbcbgfkojmligaaHAB
/- What functions of the program answer, each under the conditions that its contract names. -/
set_option linter.unusedVariables false
set_option linter.unusedSimpArgs false
set_option maxRecDepth 100000
set_option maxHeartbeats 40000000
set_option linter.unusedSimpArgs false
namespace Go.AM
open Go.Proofs
attribute [local congr] vc_congr evOps_congr evTab_congr bind_congr condK_congr tabK_congr
theorem right_parts {m : Msg} {nodes : Int} (h : rightB m nodes = true) : (1 ≤ mKind m ∧ mKind m ≤ 5) ∧ mFrom m ≠ mTo m ∧ (0 ≤ mFrom m ∧ mFrom m ≤ nodes - 1) ∧ (1 ≤ mTerm m ∧ mTerm m ≤ 1099511627776) ∧ 0 ≤ mIndex m ∧ ((mEntries m).length : Int) ≤ 20 ∧ (∀ e ∈ mEntries m, e.1 ≤ mTerm m) := by
  unfold rightB inB at h
  simp only [Bool.and_eq_true, decide_eq_true_eq, Bool.not_eq_true', decide_eq_false_iff_not, List.any_eq_false] at h
  obtain ⟨⟨⟨⟨⟨⟨⟨⟨⟨qq1, qq2⟩, qq3⟩, qq4⟩, qq5⟩, qq6⟩, qq7⟩, qq8⟩, qq9⟩, qq10⟩ := h
  refine ⟨qq1, qq2, qq3, qq5, qq6.1, qq9, fun e he => ?_⟩
  have := qq10 e he
  have qq11 : 0 ≤ e.1 ∧ e.1 ≤ mTerm m := by
    apply Classical.byContradiction
    intro hn
    apply this
    rw [Bool.and_eq_false_iff, decide_eq_false_iff_not, decide_eq_false_iff_not]
    by_cases qq0 : 0 ≤ e.1
    · exact .inr fun qq12 => hn ⟨qq0, qq12⟩
    · exact .inl qq0
  exact qq11.2
end Go.AM
