import Derived.Test.YtbcbgfkojmligaaARule
/- Part of an abstract machine for Go code and of its soundness, for any program of the model; no condition. -/
set_option linter.unusedVariables false
set_option linter.unusedSimpArgs false
set_option linter.unusedSimpArgs false
namespace Go.AM
abbrev E := den tEntry
abbrev Node := den tNode
abbrev Msg := den tMsg
abbrev Hrd := den tHard
abbrev eTerm (e : E) : Int := e.1
abbrev eCmd (e : E) : ByteArray := e.2.1
abbrev mkE (t : Int) (c : ByteArray) : E := (t, c, ())
abbrev nId (n : Node) : Int := n.1
abbrev nNodes (n : Node) : Int := n.2.1
abbrev nTerm (n : Node) : Int := n.2.2.1
abbrev nVote (n : Node) : Int := n.2.2.2.1
abbrev nBase (n : Node) : Int := n.2.2.2.2.1
abbrev nBT (n : Node) : Int := n.2.2.2.2.2.1
abbrev nSnap (n : Node) : ByteArray := n.2.2.2.2.2.2.1
abbrev nLog (n : Node) : List E := n.2.2.2.2.2.2.2.1
abbrev nRole (n : Node) : Int := n.2.2.2.2.2.2.2.2.1
abbrev nLead (n : Node) : Int := n.2.2.2.2.2.2.2.2.2.1
abbrev nCommit (n : Node) : Int := n.2.2.2.2.2.2.2.2.2.2.1
abbrev nVotes (n : Node) : List Bool := n.2.2.2.2.2.2.2.2.2.2.2.1
abbrev nNext (n : Node) : List Int := n.2.2.2.2.2.2.2.2.2.2.2.2.1
abbrev nMatch (n : Node) : List Int := n.2.2.2.2.2.2.2.2.2.2.2.2.2.1
abbrev nClock (n : Node) : Int := n.2.2.2.2.2.2.2.2.2.2.2.2.2.2.1
abbrev mkN (id nodes term vote base bt : Int) (snap : ByteArray) (log : List E) (role lead commit : Int) (votes : List Bool) (next mtch : List Int) (clock : Int) : Node :=
  (id, nodes, term, vote, base, bt, snap, log, role, lead, commit, votes, next, mtch, clock, ())
abbrev mKind (m : Msg) : Int := m.1
abbrev mFrom (m : Msg) : Int := m.2.1
abbrev mTo (m : Msg) : Int := m.2.2.1
abbrev mTerm (m : Msg) : Int := m.2.2.2.1
abbrev mIndex (m : Msg) : Int := m.2.2.2.2.1
abbrev mAt (m : Msg) : Int := m.2.2.2.2.2.1
abbrev mYes (m : Msg) : Bool := m.2.2.2.2.2.2.1
abbrev mCommit (m : Msg) : Int := m.2.2.2.2.2.2.2.1
abbrev mEntries (m : Msg) : List E := m.2.2.2.2.2.2.2.2.1
abbrev mSnap (m : Msg) : ByteArray := m.2.2.2.2.2.2.2.2.2.1
abbrev mkM (kind frm to term index at_ : Int) (yes : Bool) (commit : Int) (entries : List E) (snap : ByteArray) : Msg :=
  (kind, frm, to, term, index, at_, yes, commit, entries, snap, ())
abbrev noB : ByteArray := ⟨#[]⟩

@[go_sem] theorem nodeEta (x : den tNode) : (pr (a := tI) (b := (.pair tI (.pair tI (.pair tI (.pair tI (.pair tI (.pair .str (.pair (.list tEntry) (.pair tI (.pair tI (.pair tI (.pair (.list .bool) (.pair (.list tI) (.pair (.list tI) (.pair tI .unit))))))))))))))) x.1 (pr (a := tI) (b := (.pair tI (.pair tI (.pair tI (.pair tI (.pair .str (.pair (.list tEntry) (.pair tI (.pair tI (.pair tI (.pair (.list .bool) (.pair (.list tI) (.pair (.list tI) (.pair tI .unit)))))))))))))) x.2.1 (pr (a := tI) (b := (.pair tI (.pair tI (.pair tI (.pair .str (.pair (.list tEntry) (.pair tI (.pair tI (.pair tI (.pair (.list .bool) (.pair (.list tI) (.pair (.list tI) (.pair tI .unit))))))))))))) x.2.2.1 (pr (a := tI) (b := (.pair tI (.pair tI (.pair .str (.pair (.list tEntry) (.pair tI (.pair tI (.pair tI (.pair (.list .bool) (.pair (.list tI) (.pair (.list tI) (.pair tI .unit)))))))))))) x.2.2.2.1 (pr (a := tI) (b := (.pair tI (.pair .str (.pair (.list tEntry) (.pair tI (.pair tI (.pair tI (.pair (.list .bool) (.pair (.list tI) (.pair (.list tI) (.pair tI .unit))))))))))) x.2.2.2.2.1 (pr (a := tI) (b := (.pair .str (.pair (.list tEntry) (.pair tI (.pair tI (.pair tI (.pair (.list .bool) (.pair (.list tI) (.pair (.list tI) (.pair tI .unit)))))))))) x.2.2.2.2.2.1 (pr (a := .str) (b := (.pair (.list tEntry) (.pair tI (.pair tI (.pair tI (.pair (.list .bool) (.pair (.list tI) (.pair (.list tI) (.pair tI .unit))))))))) x.2.2.2.2.2.2.1 (pr (a := (.list tEntry)) (b := (.pair tI (.pair tI (.pair tI (.pair (.list .bool) (.pair (.list tI) (.pair (.list tI) (.pair tI .unit)))))))) x.2.2.2.2.2.2.2.1 (pr (a := tI) (b := (.pair tI (.pair tI (.pair (.list .bool) (.pair (.list tI) (.pair (.list tI) (.pair tI .unit))))))) x.2.2.2.2.2.2.2.2.1 (pr (a := tI) (b := (.pair tI (.pair (.list .bool) (.pair (.list tI) (.pair (.list tI) (.pair tI .unit)))))) x.2.2.2.2.2.2.2.2.2.1 (pr (a := tI) (b := (.pair (.list .bool) (.pair (.list tI) (.pair (.list tI) (.pair tI .unit))))) x.2.2.2.2.2.2.2.2.2.2.1 (pr (a := (.list .bool)) (b := (.pair (.list tI) (.pair (.list tI) (.pair tI .unit)))) x.2.2.2.2.2.2.2.2.2.2.2.1 (pr (a := (.list tI)) (b := (.pair (.list tI) (.pair tI .unit))) x.2.2.2.2.2.2.2.2.2.2.2.2.1 (pr (a := (.list tI)) (b := (.pair tI .unit)) x.2.2.2.2.2.2.2.2.2.2.2.2.2.1 (pr (a := tI) (b := .unit) x.2.2.2.2.2.2.2.2.2.2.2.2.2.2.1 ()))))))))))))))) = x := rfl
@[go_sem] theorem msgEta (x : den tMsg) : (pr (a := tI) (b := (.pair tI (.pair tI (.pair tI (.pair tI (.pair tI (.pair .bool (.pair tI (.pair (.list tEntry) (.pair .str .unit)))))))))) x.1 (pr (a := tI) (b := (.pair tI (.pair tI (.pair tI (.pair tI (.pair .bool (.pair tI (.pair (.list tEntry) (.pair .str .unit))))))))) x.2.1 (pr (a := tI) (b := (.pair tI (.pair tI (.pair tI (.pair .bool (.pair tI (.pair (.list tEntry) (.pair .str .unit)))))))) x.2.2.1 (pr (a := tI) (b := (.pair tI (.pair tI (.pair .bool (.pair tI (.pair (.list tEntry) (.pair .str .unit))))))) x.2.2.2.1 (pr (a := tI) (b := (.pair tI (.pair .bool (.pair tI (.pair (.list tEntry) (.pair .str .unit)))))) x.2.2.2.2.1 (pr (a := tI) (b := (.pair .bool (.pair tI (.pair (.list tEntry) (.pair .str .unit))))) x.2.2.2.2.2.1 (pr (a := .bool) (b := (.pair tI (.pair (.list tEntry) (.pair .str .unit)))) x.2.2.2.2.2.2.1 (pr (a := tI) (b := (.pair (.list tEntry) (.pair .str .unit))) x.2.2.2.2.2.2.2.1 (pr (a := (.list tEntry)) (b := (.pair .str .unit)) x.2.2.2.2.2.2.2.2.1 (pr (a := .str) (b := .unit) x.2.2.2.2.2.2.2.2.2.1 ())))))))))) = x := rfl
@[go_sem] theorem entEta (x : den tEntry) : (pr (a := tI) (b := (.pair .str .unit)) x.1 (pr (a := .str) (b := .unit) x.2.1 ())) = x := rfl
@[go_sem] theorem hardEta (x : den tHard) : (pr (a := tI) (b := (.pair tI (.pair tI (.pair tI (.pair .str (.pair (.list tEntry) .unit)))))) x.1 (pr (a := tI) (b := (.pair tI (.pair tI (.pair .str (.pair (.list tEntry) .unit))))) x.2.1 (pr (a := tI) (b := (.pair tI (.pair .str (.pair (.list tEntry) .unit)))) x.2.2.1 (pr (a := tI) (b := (.pair .str (.pair (.list tEntry) .unit))) x.2.2.2.1 (pr (a := .str) (b := (.pair (.list tEntry) .unit)) x.2.2.2.2.1 (pr (a := (.list tEntry)) (b := .unit) x.2.2.2.2.2.1 ())))))) = x := rfl
/-! chapter 18 -/
abbrev last (n : Node) : Int := nBase n + (nLog n).length
def termV (n : Node) (i : Int) : Int :=
  if i = nBase n then nBT n else if nBase n ≤ i ∧ i ≤ last n then ((nLog n).getD (i - nBase n - 1).toNat (dflt tEntry)).1 else 0
def termOk (n : Node) (i : Int) : Bool := decide (nBase n ≤ i ∧ i ≤ last n)
def behindN (n : Node) (i : Int) : List E := (nLog n).drop (i - nBase n).toNat
def put' (m : List E) (k : Nat) : List E → List E
  | [] => m
  | e :: l => if (m[k]?.map (·.1)) = some e.1 then put' m (k + 1) l else m.take k ++ e :: l
def setLog (n : Node) (l : List E) : Node := mkN (nId n) (nNodes n) (nTerm n) (nVote n) (nBase n) (nBT n) (nSnap n) l (nRole n) (nLead n) (nCommit n) (nVotes n) (nNext n) (nMatch n) (nClock n)
def put (n : Node) (prev : Int) (l : List E) : Node := if prev < nBase n ∨ last n < prev then n else setLog n (put' (nLog n) (prev - nBase n).toNat l)
def cutN (n : Node) (upto : Int) (snap : ByteArray) : Node :=
  if upto ≤ nBase n ∨ nCommit n < upto ∨ last n < upto then n else mkN (nId n) (nNodes n) (nTerm n) (nVote n) upto (termV n upto) snap (behindN n upto) (nRole n) (nLead n) (nCommit n) (nVotes n) (nNext n) (nMatch n) (nClock n)
def newN (id nodes : Int) : Node :=
  mkN (min (max id 0) (min (max nodes 1) 5 - 1)) (min (max nodes 1) 5) 0 (-1) 0 0 noB [] 0 (-1) 0 (List.replicate (min (max nodes 1) 5).toNat false) (List.replicate (min (max nodes 1) 5).toNat 1) (List.replicate (min (max nodes 1) 5).toNat 0) 0
/-! chapter 19 -/
def most (n : Node) : Int := (nNodes n).tdiv 2 + 1
def votes (n : Node) : List Bool := List.replicate (max 0 (min (nNodes n) 5)).toNat false
def down (n : Node) (t : Int) : Node :=
  if nTerm n < t then mkN (nId n) (nNodes n) t (-1) (nBase n) (nBT n) (nSnap n) (nLog n) 0 (-1) (nCommit n) (votes n) (nNext n) (nMatch n) (nClock n) else n
abbrev lastT (n : Node) : Int := termV n (last n)
def askB (d : Node) (m : Msg) : Bool := decide (mTerm m = nTerm d) && (decide (nVote d = -1) || decide (nVote d = mFrom m)) && (decide (lastT d < mAt m) || decide (mAt m = lastT d) && decide (last d ≤ mIndex m))
def asked1' (d : Node) (m : Msg) : Node := if askB d m = true then mkN (nId d) (nNodes d) (nTerm d) (mFrom m) (nBase d) (nBT d) (nSnap d) (nLog d) (nRole d) (nLead d) (nCommit d) (nVotes d) (nNext d) (nMatch d) 0 else d
def asked2' (d : Node) (m : Msg) : List Msg := [mkM 2 (nId d) (mFrom m) (nTerm d) 0 0 (askB d m) 0 [] noB]
def asked1 (n : Node) (m : Msg) : Node := asked1' (down n (mTerm m)) m
def asked2 (n : Node) (m : Msg) : List Msg := asked2' (down n (mTerm m)) m
def own (n : Node) : Node :=
  if 0 ≤ nId n ∧ nId n < (votes n).length then mkN (nId n) (nNodes n) (nTerm n) (nVote n) (nBase n) (nBT n) (nSnap n) (nLog n) (nRole n) (nLead n) (nCommit n) ((votes n).set (nId n).toNat true) (nNext n) (nMatch n) (nClock n)
  else mkN (nId n) (nNodes n) (nTerm n) (nVote n) (nBase n) (nBT n) (nSnap n) (nLog n) (nRole n) (nLead n) (nCommit n) (votes n) (nNext n) (nMatch n) (nClock n)
theorem last_down (n : Node) (t : Int) : last (down n t) = last n := by unfold down; split <;> rfl
theorem base_down (n : Node) (t : Int) : nBase (down n t) = nBase n := by unfold down; split <;> rfl
theorem tq1 {k c : Int} (hk : 0 ≤ k) : k.tdiv c = k / c := Int.tdiv_eq_ediv_of_nonneg hk
theorem tm1 {k c : Int} (hk : 0 ≤ k) : k.tmod c = k % c := Int.tmod_eq_emod_of_nonneg hk
theorem nn1 {k c : Int} (hk : 0 ≤ k) (hc : 0 ≤ c) : (0 ≤ k / c) = True := eq_true (Int.ediv_nonneg hk hc)
theorem nn2 {k : Int} : (0 ≤ k % 1073741824) = True := eq_true (Int.emod_nonneg k (by decide))
/-- the cells of a zero node, of a zero message -/
def zN : List AV := [.int .i64 0, .int .i64 0, .int .i64 0, .int .i64 0, .int .i64 0, .int .i64 0, .str ⟨#[]⟩, .sl tEntry [] true, .int .i64 0, .int .i64 0, .int .i64 0, .sl .bool [] true, .sl tI [] true, .sl tI [] true, .int .i64 0]
@[go_sem] theorem zN_eq : zN = [.int .i64 0, .int .i64 0, .int .i64 0, .int .i64 0, .int .i64 0, .int .i64 0, .str ⟨#[]⟩, .sl tEntry [] true, .int .i64 0, .int .i64 0, .int .i64 0, .sl .bool [] true, .sl tI [] true, .sl tI [] true, .int .i64 0] := rfl
def zM : List AV := [.int .i64 0, .int .i64 0, .int .i64 0, .int .i64 0, .int .i64 0, .int .i64 0, .bool false, .int .i64 0, .sl tEntry [] true, .str ⟨#[]⟩]
@[go_sem] theorem zM_eq : zM = [.int .i64 0, .int .i64 0, .int .i64 0, .int .i64 0, .int .i64 0, .int .i64 0, .bool false, .int .i64 0, .sl tEntry [] true, .str ⟨#[]⟩] := rfl
end Go.AM
