import Derived.Test.YtbcbgfkojmligaaHT
/- What functions of the program answer, each under the conditions that its contract names. -/
set_option linter.unusedVariables false
set_option linter.unusedSimpArgs false
set_option maxRecDepth 100000
set_option maxHeartbeats 8000000
set_option linter.unusedSimpArgs false
namespace Go.AM
open Go.Proofs
attribute [local congr] vc_congr evOps_congr evTab_congr bind_congr condK_congr tabK_congr
def addE (n : Node) (cmd : ByteArray) : Node := setLog n (nLog n ++ [mkE (nTerm n) cmd])
def moreN (n : Node) (cmd : ByteArray) : Node := ownM (addE n cmd)
theorem last_addE (n : Node) (cmd : ByteArray) : last (addE n cmd) = last n + 1 := by
  show nBase n + ((nLog n ++ [mkE (nTerm n) cmd]).length : Int) = nBase n + (nLog n).length + 1
  rw [List.length_append]
  show nBase n + (((nLog n).length + 1 : Nat) : Int) = _
  omega
theorem rgN_addE {n : Node} (h : rgL n) (cmd : ByteArray) : rgN (addE n cmd) := by
  have h2 := last_addE n cmd
  simp only [rgL, rgN, sm] at h
  simp only [rgN, sm]
  refine ⟨show 0 ≤ nBase n by omega, show nBase n ≤ nCommit n by omega, show nCommit n ≤ _ by omega, by omega, ?_, show 0 ≤ nNodes n by omega, show nNodes n ≤ 100 by omega, show (nNext n).length ≤ _ by omega, show (nMatch n).length ≤ _ by omega⟩
  show (nLog n ++ [mkE (nTerm n) cmd]).length ≤ _
  rw [List.length_append]
  show (nLog n).length + 1 ≤ _
  omega
theorem more_next (n : Node) (cmd : ByteArray) : nNext (moreN n cmd) = nNext n := adv_next _
end Go.AM
