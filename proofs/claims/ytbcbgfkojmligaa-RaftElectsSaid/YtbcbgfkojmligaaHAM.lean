import Derived.Test.YtbcbgfkojmligaaHAD
/- What functions of the program answer, each under the conditions that its contract names. -/
set_option linter.unusedVariables false
set_option linter.unusedSimpArgs false
set_option maxRecDepth 100000
set_option maxHeartbeats 40000000
set_option linter.unusedSimpArgs false
namespace Go.AM
open Go.Proofs
/-! ### nodes that hear each other -/
theorem atL_mem2 {l : List Int} {i : Int} : atL l i = 0 ∨ atL l i ∈ l := by
  unfold atL
  split
  · exact .inl rfl
  · rename_i h
    right
    have h2 : i.toNat < l.length := by omega
    rw [List.getD_eq_getElem?_getD, List.getElem?_eq_getElem h2]
    exact List.getElem_mem h2

/-- A node that the machine's functions take. -/
def nodeB (n : Node) : Bool :=
  decide (nBase n = 0) && (decide (0 ≤ nCommit n) && (decide (nCommit n ≤ 1000) && (decide ((nLog n).length ≤ 1000) && (decide (1 ≤ nNodes n) && (decide (nNodes n ≤ 5) && (decide ((nNext n).length ≤ 5) && (decide ((nMatch n).length ≤ 5) && (decide ((nVotes n).length ≤ 5) &&
  ((nNext n).all (fun v => decide (0 ≤ v ∧ v ≤ (1000 : Int))) && ((nMatch n).all (fun v => decide (0 ≤ v ∧ v ≤ (1000 : Int))) && (decide (0 ≤ nId n) && (decide (nId n ≤ 100) && (decide (0 ≤ nTerm n) && (decide (nTerm n ≤ 1000) && (decide (0 ≤ nClock n) && decide (nClock n ≤ 1000))))))))))))))))
theorem nodeB_ok {n : Node} (h : nodeB n = true) : stepOk n ∧ rgL n ∧ nextsOk n ∧ (0 ≤ nId n ∧ nId n ≤ 100) ∧ (0 ≤ nTerm n ∧ nTerm n ≤ 4398046511000) ∧ 0 ≤ nClock n ∧ nClock n ≤ 4398046511000 := by
  unfold nodeB at h
  simp only [Bool.and_eq_true, decide_eq_true_eq, List.all_eq_true] at h
  obtain ⟨h1, h2, h3, h4, h5, h6, h7, h8, h9, h10, h11, h12, h13, h14, h15, h16, h17⟩ := h
  have hla : last n = nBase n + (nLog n).length := rfl
  have hrg : rgL n := ⟨⟨by omega, by omega, by omega, by omega, by rw [sm]; omega, by omega, by omega, by rw [sm]; omega, by rw [sm]; omega⟩, by omega, by omega⟩
  refine ⟨⟨hrg, by rw [sm]; omega, fun i => ⟨?_, ?_⟩⟩, hrg, fun v hv => ?_, ⟨h12, h13⟩, ⟨h14, by omega⟩, h16, by omega⟩
  · rcases atL_mem2 (l := nNext n) (i := i) with e | e
    · rw [e]; unfold okS; decide
    · have := h10 _ e; unfold okS; omega
  · rcases atL_mem2 (l := nMatch n) (i := i) with e | e
    · rw [e]; unfold okS; decide
    · have := h11 _ e; unfold okS; omega
  · have := h10 v hv; omega
theorem step2_len (n : Node) (m : Msg) : (step2 n m).length ≤ 1048576 := by
  have one : ∀ (n : Node) (m : Msg) (b : Bool) (i : Int), (takenM n m b i).length ≤ 1048576 := fun n m b i => by show 1 ≤ 1048576; decide
  unfold step2
  split
  · split
    · show 1 ≤ 1048576; decide
    split
    · unfold gv2
      split
      · have : (lead2 (given1 n m)).length ≤ 5 := others_len _
        omega
      · exact Nat.zero_le _
    split
    · unfold heard2 heard2'
      split
      · split
        · split
          · show 1 ≤ 1048576; decide
          · exact Nat.zero_le _
        · show 1 ≤ 1048576; decide
      · exact Nat.zero_le _
    · unfold take2 take2'
      split
      · exact one _ _ _ _
      split
      · exact one _ _ _ _
      split
      · exact one _ _ _ _
      split
      · exact one _ _ _ _
      · exact one _ _ _ _
  · exact Nat.zero_le _
/-- deliver: so many messages at most -/
def dlv : Nat → List Node → List Msg → List Node
  | 0, ns, _ => ns
  | _ + 1, ns, [] => ns
  | d + 1, ns, m :: l => if 0 ≤ mTo m ∧ mTo m < ns.length then dlv d (ns.set (mTo m).toNat (step1 (ns.getD (mTo m).toNat (dflt tNode)) m)) (l ++ step2 (ns.getD (mTo m).toNat (dflt tNode)) m) else dlv d ns l
def dlvOk : Nat → List Node → List Msg → Bool
  | 0, _, _ => true
  | _ + 1, _, [] => true
  | d + 1, ns, m :: l => if 0 ≤ mTo m ∧ mTo m < ns.length then nodeB (ns.getD (mTo m).toNat (dflt tNode)) && dlvOk d (ns.set (mTo m).toNat (step1 (ns.getD (mTo m).toNat (dflt tNode)) m)) (l ++ step2 (ns.getD (mTo m).toNat (dflt tNode)) m) else dlvOk d ns l
def tks2 (ns : List Node) : List Msg := ns.flatMap tick2
def runs : Nat → List Node → List Node
  | 0, ns => ns
  | t + 1, ns => runs t (dlv 500 (ns.map tick1) (tks2 ns))
def runsOk : Nat → List Node → Bool
  | 0, _ => true
  | t + 1, ns => ns.all nodeB && (dlvOk 500 (ns.map tick1) (tks2 ns) && runsOk t (dlv 500 (ns.map tick1) (tks2 ns)))
def news (k : Nat) : List Node := (List.range k).map fun i : Nat => newN (i : Int) (k : Int)
/-- one proposal at the first node -/
def prop0 (ns : List Node) (i : Nat) : List Node := dlv 500 (ns.set 0 (prop1 (ns.getD 0 (dflt tNode)) (digits i))) (prop2 (ns.getD 0 (dflt tNode)) (digits i))
def prop0Ok (ns : List Node) (i : Nat) : Bool := nodeB (ns.getD 0 (dflt tNode)) && (decide (prop3 (ns.getD 0 (dflt tNode)) = 0) && dlvOk 500 (ns.set 0 (prop1 (ns.getD 0 (dflt tNode)) (digits i))) (prop2 (ns.getD 0 (dflt tNode)) (digits i)))
def propsN : Nat → List Node → List Node
  | 0, ns => ns
  | m + 1, ns => prop0 (propsN m ns) m
def propsOk : Nat → List Node → Bool
  | 0, _ => true
  | m + 1, ns => propsOk m ns && prop0Ok (propsN m ns) m
/-- all but the first one -/
def dlv1 : Nat → List Node → List Msg → List Node
  | 0, ns, _ => ns
  | _ + 1, ns, [] => ns
  | d + 1, ns, m :: l => if 0 < mTo m ∧ mTo m < ns.length then dlv1 d (ns.set (mTo m).toNat (step1 (ns.getD (mTo m).toNat (dflt tNode)) m)) (l ++ step2 (ns.getD (mTo m).toNat (dflt tNode)) m) else dlv1 d ns l
def dlv1Ok : Nat → List Node → List Msg → Bool
  | 0, _, _ => true
  | _ + 1, _, [] => true
  | d + 1, ns, m :: l => if 0 < mTo m ∧ mTo m < ns.length then nodeB (ns.getD (mTo m).toNat (dflt tNode)) && dlv1Ok d (ns.set (mTo m).toNat (step1 (ns.getD (mTo m).toNat (dflt tNode)) m)) (l ++ step2 (ns.getD (mTo m).toNat (dflt tNode)) m) else dlv1Ok d ns l
def ticks1 (ns : List Node) : List Node := ns.take 1 ++ (ns.drop 1).map tick1
def rests : Nat → List Node → List Node
  | 0, ns => ns
  | t + 1, ns => rests t (dlv1 500 (ticks1 ns) (tks2 (ns.drop 1)))
def restsOk : Nat → List Node → Bool
  | 0, _ => true
  | t + 1, ns => (ns.drop 1).all nodeB && (dlv1Ok 500 (ticks1 ns) (tks2 (ns.drop 1)) && restsOk t (dlv1 500 (ticks1 ns) (tks2 (ns.drop 1))))
def elA (m : Nat) (ns : List Node) : Bool := ns.zipIdx.all fun p => decide (nLead p.1 = 0) && (decide (nRole p.1 = 2) == decide (p.2 = 0)) && decide (nCommit p.1 = 1 + m) && decide (((nLog p.1).length : Int) = 1 + m) && decide (nTerm p.1 = 1)
def elB (m : Nat) (ns : List Node) : Bool := decide (nRole (ns.getD 1 (dflt tNode)) = 2) && (decide (nCommit (ns.getD 1 (dflt tNode)) = 2 + m) && (decide (nLead (ns.getD 2 (dflt tNode)) = 1) && decide (((nLog (ns.getD 2 (dflt tNode))).length : Int) = 2 + m)))
def el1 (k : Nat) : List Node := runs 12 (news k)
def el2 (k m : Nat) : List Node := propsN m (el1 k)
def el3 (k m : Nat) : List Node := runs 4 (el2 k m)
def elAll (k m : Nat) : Bool := decide ((el1 k).length = k) && (runsOk 12 (news k) && (propsOk m (el1 k) && (decide ((el2 k m).length = k) && (runsOk 4 (el2 k m) && (decide ((el3 k m).length = k) && (elA m (el3 k m) && (decide (k < 3) || (restsOk 25 (el3 k m) && (decide ((rests 25 (el3 k m)).length = k) && elB m (rests 25 (el3 k m))))))))))) 
end Go.AM
