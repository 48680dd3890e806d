import Derived.Test.YtbcbgfkojmligaaHU
/- What functions of the program answer, each under the conditions that its contract names. -/
set_option linter.unusedVariables false
set_option linter.unusedSimpArgs false
set_option maxRecDepth 100000
set_option maxHeartbeats 8000000
set_option linter.unusedSimpArgs false
namespace Go.AM
open Go.Proofs
attribute [local congr] vc_congr evOps_congr evTab_congr bind_congr condK_congr tabK_congr
theorem put'_le2 (m : List E) : ∀ (l : List E) (k : Nat), k ≤ m.length → (put' m k l).length ≤ max m.length (k + l.length) := by
  intro l
  induction l with
  | nil => intro k hk; show m.length ≤ _; omega
  | cons e l ih =>
    intro k hk
    unfold put'
    rw [List.length_cons]
    split
    · rename_i he
      have hlt : k < m.length := by
        rcases Nat.lt_or_ge k m.length with h1 | h1
        · exact h1
        · rw [List.getElem?_eq_none h1] at he; cases he
      have := ih (k + 1) hlt
      omega
    · rw [List.length_append, List.length_take, List.length_cons]; omega
end Go.AM
