import Derived.Test.YtbcbgfkojmligaaHS
/- What functions of the program answer, each under the conditions that its contract names. -/
set_option linter.unusedVariables false
set_option linter.unusedSimpArgs false
set_option maxRecDepth 100000
set_option maxHeartbeats 8000000
set_option linter.unusedSimpArgs false
namespace Go.AM
open Go.Proofs
attribute [local congr] vc_congr evOps_congr evTab_congr bind_congr condK_congr tabK_congr
instance {α : Type} (l : List α) : Decidable (smallL l) := inferInstanceAs (Decidable (_ ≤ _))
theorem atL_mem {l : List Int} {i : Int} : atL l i = 0 ∨ atL l i ∈ l := by
  unfold atL
  split
  · exact .inl rfl
  · rename_i h
    right
    have hlt : i.toNat < l.length := by omega
    rw [List.getD_eq_getElem?_getD, List.getElem?_eq_getElem hlt]
    exact List.getElem_mem hlt
end Go.AM
