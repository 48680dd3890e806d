/-
  No cell of these rows narrows 'for every input' (looked for: loops, veiled, ifaces, maps, wideKeys, modest, calm, conditions, laid).
  DERIVED. THE GIVEN ROWS OF THIS SEAT. 19 by the template 'for every input the law returns true; each argument reads behind the call as it read before'; 0 by the template 'total and deterministic' (their statements: YtbcbgfkojmligaaTotals.lean).
  GIVEN WITH THE SEED: the statements are not yours to turn. If you find one false, say at which input.
  Laid BY PROGRAM, IN A SANDBOX (cutbox-rows.mjs): the forced cells as the released guide's own fill.sh prints them over the translation 2af675c0797fcb51… (all of the seat's roots in one cut). By AI agents, Wed Nov 11 2026. No macro, syntax, notation, axiom, sorry.
-/
import Derived.Test.YtbcbgfkojmligaaChecked
import GoSem.Claim
import GoSem.ClaimJoined
import GoSem.ClaimMapViews
import Derived.JoinedTies
import Derived.KernelRfl
namespace Go.Proofs.Ytbcbgfkojmligaa
/- THE CELL 'sum', in the pinned program and in every row, IS THE sha256 OF THE DUMP (.gsa) THAT YtbcbgfkojmligaaProg.lean LOADS. Nothing in Lean hashes anything: it is a label: what it is worth is what the hold of that sum in a sandbox is worth. -/
noncomputable def Try.pinned : Pinned := { name := "ytbcbgfkojmligaa", sum := "2af675c0797fcb51fd726aab5323e22f125bc7a1b3a204fdbe9fcf60df52285d", checked := Try.checked }
namespace Rows
def none {H : Type} : Left H := { results := [], args := [] }

/-- 'handsellaw19.VoteOnce': WHATEVER THE INPUT: true; the input reads as it did. -/
def voteOnceSpec : ChangeSpec := { name := "voteOnce", fn := fun _ => fun
  | [d1, d2, d3, d4] => { results := [.lit (.bool true)], args := [d1, d2, d3, d4] }
  | _ => none }
def voteOnceRow : OpenClaim := { program := "ytbcbgfkojmligaa", sum := "2af675c0797fcb51fd726aab5323e22f125bc7a1b3a204fdbe9fcf60df52285d", func := "handsel/handsellaw19.VoteOnce", spec := "voteOnce", recurses := true, apart := false }
def VoteOnceSaid : Prop := voteOnceRow.holds Try.pinned (OpenSpec.ofChange voteOnceSpec)

/-- ITS FALSE NEIGHBOUR: 'it returns false'. Refute it at one input. -/
def voteOnceWrong : ChangeSpec := { name := "voteOnce", fn := fun _ => fun
  | [d1, d2, d3, d4] => { results := [.lit (.bool false)], args := [d1, d2, d3, d4] }
  | _ => none }
def VoteOnceWrongFalsely : Prop := voteOnceRow.holds Try.pinned (OpenSpec.ofChange voteOnceWrong)

/-- 'handsellaw19.VoteUp': WHATEVER THE INPUT: true; the input reads as it did. -/
def voteUpSpec : ChangeSpec := { name := "voteUp", fn := fun _ => fun
  | [d1, d2] => { results := [.lit (.bool true)], args := [d1, d2] }
  | _ => none }
def voteUpRow : OpenClaim := { program := "ytbcbgfkojmligaa", sum := "2af675c0797fcb51fd726aab5323e22f125bc7a1b3a204fdbe9fcf60df52285d", func := "handsel/handsellaw19.VoteUp", spec := "voteUp", recurses := true, apart := false }
def VoteUpSaid : Prop := voteUpRow.holds Try.pinned (OpenSpec.ofChange voteUpSpec)

/-- ITS FALSE NEIGHBOUR: 'it returns false'. Refute it at one input. -/
def voteUpWrong : ChangeSpec := { name := "voteUp", fn := fun _ => fun
  | [d1, d2] => { results := [.lit (.bool false)], args := [d1, d2] }
  | _ => none }
def VoteUpWrongFalsely : Prop := voteUpRow.holds Try.pinned (OpenSpec.ofChange voteUpWrong)

/-- 'handsellaw19.VoteDown': WHATEVER THE INPUT: true; the input reads as it did. -/
def voteDownSpec : ChangeSpec := { name := "voteDown", fn := fun _ => fun
  | [d1, d2, d3] => { results := [.lit (.bool true)], args := [d1, d2, d3] }
  | _ => none }
def voteDownRow : OpenClaim := { program := "ytbcbgfkojmligaa", sum := "2af675c0797fcb51fd726aab5323e22f125bc7a1b3a204fdbe9fcf60df52285d", func := "handsel/handsellaw19.VoteDown", spec := "voteDown", apart := false }
def VoteDownSaid : Prop := voteDownRow.holds Try.pinned (OpenSpec.ofChange voteDownSpec)

/-- ITS FALSE NEIGHBOUR: 'it returns false'. Refute it at one input. -/
def voteDownWrong : ChangeSpec := { name := "voteDown", fn := fun _ => fun
  | [d1, d2, d3] => { results := [.lit (.bool false)], args := [d1, d2, d3] }
  | _ => none }
def VoteDownWrongFalsely : Prop := voteDownRow.holds Try.pinned (OpenSpec.ofChange voteDownWrong)

/-- 'handsellaw18.RlogPuts': WHATEVER THE INPUT: true; the input reads as it did. -/
def rlogPutsSpec : ChangeSpec := { name := "rlogPuts", fn := fun _ => fun
  | [d1, d2, d3, d4] => { results := [.lit (.bool true)], args := [d1, d2, d3, d4] }
  | _ => none }
def rlogPutsRow : OpenClaim := { program := "ytbcbgfkojmligaa", sum := "2af675c0797fcb51fd726aab5323e22f125bc7a1b3a204fdbe9fcf60df52285d", func := "handsel/handsellaw18.RlogPuts", spec := "rlogPuts", unfollowed := true, recurses := true, apart := false }
def RlogPutsSaid : Prop := rlogPutsRow.holds Try.pinned (OpenSpec.ofChange rlogPutsSpec)

/-- ITS FALSE NEIGHBOUR: 'it returns false'. Refute it at one input. -/
def rlogPutsWrong : ChangeSpec := { name := "rlogPuts", fn := fun _ => fun
  | [d1, d2, d3, d4] => { results := [.lit (.bool false)], args := [d1, d2, d3, d4] }
  | _ => none }
def RlogPutsWrongFalsely : Prop := rlogPutsRow.holds Try.pinned (OpenSpec.ofChange rlogPutsWrong)

/-- 'handsellaw19.VoteNumbers': WHATEVER THE INPUT: true; the input reads as it did. -/
def voteNumbersSpec : ChangeSpec := { name := "voteNumbers", fn := fun _ => fun
  | [d1, d2, d3, d4, d5, d6] => { results := [.lit (.bool true)], args := [d1, d2, d3, d4, d5, d6] }
  | _ => none }
def voteNumbersRow : OpenClaim := { program := "ytbcbgfkojmligaa", sum := "2af675c0797fcb51fd726aab5323e22f125bc7a1b3a204fdbe9fcf60df52285d", func := "handsel/handsellaw19.VoteNumbers", spec := "voteNumbers", unfollowed := true, recurses := true, apart := false }
def VoteNumbersSaid : Prop := voteNumbersRow.holds Try.pinned (OpenSpec.ofChange voteNumbersSpec)

/-- ITS FALSE NEIGHBOUR: 'it returns false'. Refute it at one input. -/
def voteNumbersWrong : ChangeSpec := { name := "voteNumbers", fn := fun _ => fun
  | [d1, d2, d3, d4, d5, d6] => { results := [.lit (.bool false)], args := [d1, d2, d3, d4, d5, d6] }
  | _ => none }
def VoteNumbersWrongFalsely : Prop := voteNumbersRow.holds Try.pinned (OpenSpec.ofChange voteNumbersWrong)

/-- 'handsellaw19.VoteCounts': WHATEVER THE INPUT: true; the input reads as it did. -/
def voteCountsSpec : ChangeSpec := { name := "voteCounts", fn := fun _ => fun
  | [d1, d2] => { results := [.lit (.bool true)], args := [d1, d2] }
  | _ => none }
def voteCountsRow : OpenClaim := { program := "ytbcbgfkojmligaa", sum := "2af675c0797fcb51fd726aab5323e22f125bc7a1b3a204fdbe9fcf60df52285d", func := "handsel/handsellaw19.VoteCounts", spec := "voteCounts", unfollowed := true, recurses := true, apart := false }
def VoteCountsSaid : Prop := voteCountsRow.holds Try.pinned (OpenSpec.ofChange voteCountsSpec)

/-- ITS FALSE NEIGHBOUR: 'it returns false'. Refute it at one input. -/
def voteCountsWrong : ChangeSpec := { name := "voteCounts", fn := fun _ => fun
  | [d1, d2] => { results := [.lit (.bool false)], args := [d1, d2] }
  | _ => none }
def VoteCountsWrongFalsely : Prop := voteCountsRow.holds Try.pinned (OpenSpec.ofChange voteCountsWrong)

/-- 'handsellaw18.RlogAny': WHATEVER THE INPUT: true; the input reads as it did. -/
def rlogAnySpec : ChangeSpec := { name := "rlogAny", fn := fun _ => fun
  | [d1, d2, d3] => { results := [.lit (.bool true)], args := [d1, d2, d3] }
  | _ => none }
def rlogAnyRow : OpenClaim := { program := "ytbcbgfkojmligaa", sum := "2af675c0797fcb51fd726aab5323e22f125bc7a1b3a204fdbe9fcf60df52285d", func := "handsel/handsellaw18.RlogAny", spec := "rlogAny", unfollowed := true, recurses := true, apart := false }
def RlogAnySaid : Prop := rlogAnyRow.holds Try.pinned (OpenSpec.ofChange rlogAnySpec)

/-- ITS FALSE NEIGHBOUR: 'it returns false'. Refute it at one input. -/
def rlogAnyWrong : ChangeSpec := { name := "rlogAny", fn := fun _ => fun
  | [d1, d2, d3] => { results := [.lit (.bool false)], args := [d1, d2, d3] }
  | _ => none }
def RlogAnyWrongFalsely : Prop := rlogAnyRow.holds Try.pinned (OpenSpec.ofChange rlogAnyWrong)

/-- 'handsellaw18.RlogCuts': WHATEVER THE INPUT: true; the input reads as it did. -/
def rlogCutsSpec : ChangeSpec := { name := "rlogCuts", fn := fun _ => fun
  | [d1, d2, d3] => { results := [.lit (.bool true)], args := [d1, d2, d3] }
  | _ => none }
def rlogCutsRow : OpenClaim := { program := "ytbcbgfkojmligaa", sum := "2af675c0797fcb51fd726aab5323e22f125bc7a1b3a204fdbe9fcf60df52285d", func := "handsel/handsellaw18.RlogCuts", spec := "rlogCuts", unfollowed := true, recurses := true, apart := false }
def RlogCutsSaid : Prop := rlogCutsRow.holds Try.pinned (OpenSpec.ofChange rlogCutsSpec)

/-- ITS FALSE NEIGHBOUR: 'it returns false'. Refute it at one input. -/
def rlogCutsWrong : ChangeSpec := { name := "rlogCuts", fn := fun _ => fun
  | [d1, d2, d3] => { results := [.lit (.bool false)], args := [d1, d2, d3] }
  | _ => none }
def RlogCutsWrongFalsely : Prop := rlogCutsRow.holds Try.pinned (OpenSpec.ofChange rlogCutsWrong)

/-- 'handsellaw20.ReplCounts': WHATEVER THE INPUT: true; the input reads as it did. -/
def replCountsSpec : ChangeSpec := { name := "replCounts", fn := fun _ => fun
  | [d1, d2, d3] => { results := [.lit (.bool true)], args := [d1, d2, d3] }
  | _ => none }
def replCountsRow : OpenClaim := { program := "ytbcbgfkojmligaa", sum := "2af675c0797fcb51fd726aab5323e22f125bc7a1b3a204fdbe9fcf60df52285d", func := "handsel/handsellaw20.ReplCounts", spec := "replCounts", apart := false }
def ReplCountsSaid : Prop := replCountsRow.holds Try.pinned (OpenSpec.ofChange replCountsSpec)

/-- ITS FALSE NEIGHBOUR: 'it returns false'. Refute it at one input. -/
def replCountsWrong : ChangeSpec := { name := "replCounts", fn := fun _ => fun
  | [d1, d2, d3] => { results := [.lit (.bool false)], args := [d1, d2, d3] }
  | _ => none }
def ReplCountsWrongFalsely : Prop := replCountsRow.holds Try.pinned (OpenSpec.ofChange replCountsWrong)

/-- 'handsellaw18.RlogNumbers': WHATEVER THE INPUT: true; the input reads as it did. -/
def rlogNumbersSpec : ChangeSpec := { name := "rlogNumbers", fn := fun _ => fun
  | [d1, d2, d3, d4, d5, d6] => { results := [.lit (.bool true)], args := [d1, d2, d3, d4, d5, d6] }
  | _ => none }
def rlogNumbersRow : OpenClaim := { program := "ytbcbgfkojmligaa", sum := "2af675c0797fcb51fd726aab5323e22f125bc7a1b3a204fdbe9fcf60df52285d", func := "handsel/handsellaw18.RlogNumbers", spec := "rlogNumbers", unfollowed := true, recurses := true, apart := false }
def RlogNumbersSaid : Prop := rlogNumbersRow.holds Try.pinned (OpenSpec.ofChange rlogNumbersSpec)

/-- ITS FALSE NEIGHBOUR: 'it returns false'. Refute it at one input. -/
def rlogNumbersWrong : ChangeSpec := { name := "rlogNumbers", fn := fun _ => fun
  | [d1, d2, d3, d4, d5, d6] => { results := [.lit (.bool false)], args := [d1, d2, d3, d4, d5, d6] }
  | _ => none }
def RlogNumbersWrongFalsely : Prop := rlogNumbersRow.holds Try.pinned (OpenSpec.ofChange rlogNumbersWrong)

/-- 'handsellaw20.ReplStays': WHATEVER THE INPUT: true; the input reads as it did. -/
def replStaysSpec : ChangeSpec := { name := "replStays", fn := fun _ => fun
  | [d1, d2, d3] => { results := [.lit (.bool true)], args := [d1, d2, d3] }
  | _ => none }
def replStaysRow : OpenClaim := { program := "ytbcbgfkojmligaa", sum := "2af675c0797fcb51fd726aab5323e22f125bc7a1b3a204fdbe9fcf60df52285d", func := "handsel/handsellaw20.ReplStays", spec := "replStays", recurses := true, apart := false }
def ReplStaysSaid : Prop := replStaysRow.holds Try.pinned (OpenSpec.ofChange replStaysSpec)

/-- ITS FALSE NEIGHBOUR: 'it returns false'. Refute it at one input. -/
def replStaysWrong : ChangeSpec := { name := "replStays", fn := fun _ => fun
  | [d1, d2, d3] => { results := [.lit (.bool false)], args := [d1, d2, d3] }
  | _ => none }
def ReplStaysWrongFalsely : Prop := replStaysRow.holds Try.pinned (OpenSpec.ofChange replStaysWrong)

/-- 'handsellaw20.ReplNumbers': WHATEVER THE INPUT: true; the input reads as it did. -/
def replNumbersSpec : ChangeSpec := { name := "replNumbers", fn := fun _ => fun
  | [d1, d2, d3, d4, d5, d6, d7] => { results := [.lit (.bool true)], args := [d1, d2, d3, d4, d5, d6, d7] }
  | _ => none }
def replNumbersRow : OpenClaim := { program := "ytbcbgfkojmligaa", sum := "2af675c0797fcb51fd726aab5323e22f125bc7a1b3a204fdbe9fcf60df52285d", func := "handsel/handsellaw20.ReplNumbers", spec := "replNumbers", recurses := true, apart := false }
def ReplNumbersSaid : Prop := replNumbersRow.holds Try.pinned (OpenSpec.ofChange replNumbersSpec)

/-- ITS FALSE NEIGHBOUR: 'it returns false'. Refute it at one input. -/
def replNumbersWrong : ChangeSpec := { name := "replNumbers", fn := fun _ => fun
  | [d1, d2, d3, d4, d5, d6, d7] => { results := [.lit (.bool false)], args := [d1, d2, d3, d4, d5, d6, d7] }
  | _ => none }
def ReplNumbersWrongFalsely : Prop := replNumbersRow.holds Try.pinned (OpenSpec.ofChange replNumbersWrong)

/-- 'handsellaw20.ReplFollows': WHATEVER THE INPUT: true; the input reads as it did. -/
def replFollowsSpec : ChangeSpec := { name := "replFollows", fn := fun _ => fun
  | [d1, d2] => { results := [.lit (.bool true)], args := [d1, d2] }
  | _ => none }
def replFollowsRow : OpenClaim := { program := "ytbcbgfkojmligaa", sum := "2af675c0797fcb51fd726aab5323e22f125bc7a1b3a204fdbe9fcf60df52285d", func := "handsel/handsellaw20.ReplFollows", spec := "replFollows", recurses := true, apart := false }
def ReplFollowsSaid : Prop := replFollowsRow.holds Try.pinned (OpenSpec.ofChange replFollowsSpec)

/-- ITS FALSE NEIGHBOUR: 'it returns false'. Refute it at one input. -/
def replFollowsWrong : ChangeSpec := { name := "replFollows", fn := fun _ => fun
  | [d1, d2] => { results := [.lit (.bool false)], args := [d1, d2] }
  | _ => none }
def ReplFollowsWrongFalsely : Prop := replFollowsRow.holds Try.pinned (OpenSpec.ofChange replFollowsWrong)

/-- 'handsellaw20.ReplInstalls': WHATEVER THE INPUT: true; the input reads as it did. -/
def replInstallsSpec : ChangeSpec := { name := "replInstalls", fn := fun _ => fun
  | [d1, d2] => { results := [.lit (.bool true)], args := [d1, d2] }
  | _ => none }
def replInstallsRow : OpenClaim := { program := "ytbcbgfkojmligaa", sum := "2af675c0797fcb51fd726aab5323e22f125bc7a1b3a204fdbe9fcf60df52285d", func := "handsel/handsellaw20.ReplInstalls", spec := "replInstalls", recurses := true, apart := false }
def ReplInstallsSaid : Prop := replInstallsRow.holds Try.pinned (OpenSpec.ofChange replInstallsSpec)

/-- ITS FALSE NEIGHBOUR: 'it returns false'. Refute it at one input. -/
def replInstallsWrong : ChangeSpec := { name := "replInstalls", fn := fun _ => fun
  | [d1, d2] => { results := [.lit (.bool false)], args := [d1, d2] }
  | _ => none }
def ReplInstallsWrongFalsely : Prop := replInstallsRow.holds Try.pinned (OpenSpec.ofChange replInstallsWrong)

/-- 'handsellaw20.ReplOld': WHATEVER THE INPUT: true; the input reads as it did. -/
def replOldSpec : ChangeSpec := { name := "replOld", fn := fun _ => fun
  | [d1, d2, d3] => { results := [.lit (.bool true)], args := [d1, d2, d3] }
  | _ => none }
def replOldRow : OpenClaim := { program := "ytbcbgfkojmligaa", sum := "2af675c0797fcb51fd726aab5323e22f125bc7a1b3a204fdbe9fcf60df52285d", func := "handsel/handsellaw20.ReplOld", spec := "replOld", apart := false }
def ReplOldSaid : Prop := replOldRow.holds Try.pinned (OpenSpec.ofChange replOldSpec)

/-- ITS FALSE NEIGHBOUR: 'it returns false'. Refute it at one input. -/
def replOldWrong : ChangeSpec := { name := "replOld", fn := fun _ => fun
  | [d1, d2, d3] => { results := [.lit (.bool false)], args := [d1, d2, d3] }
  | _ => none }
def ReplOldWrongFalsely : Prop := replOldRow.holds Try.pinned (OpenSpec.ofChange replOldWrong)

/-- 'handsellaw21.RaftNumbers': WHATEVER THE INPUT: true; the input reads as it did. -/
def raftNumbersSpec : ChangeSpec := { name := "raftNumbers", fn := fun _ => fun
  | [d1, d2, d3, d4, d5, d6, d7] => { results := [.lit (.bool true)], args := [d1, d2, d3, d4, d5, d6, d7] }
  | _ => none }
def raftNumbersRow : OpenClaim := { program := "ytbcbgfkojmligaa", sum := "2af675c0797fcb51fd726aab5323e22f125bc7a1b3a204fdbe9fcf60df52285d", func := "handsel/handsellaw21.RaftNumbers", spec := "raftNumbers", unfollowed := true, recurses := true, apart := false }
def RaftNumbersSaid : Prop := raftNumbersRow.holds Try.pinned (OpenSpec.ofChange raftNumbersSpec)

/-- ITS FALSE NEIGHBOUR: 'it returns false'. Refute it at one input. -/
def raftNumbersWrong : ChangeSpec := { name := "raftNumbers", fn := fun _ => fun
  | [d1, d2, d3, d4, d5, d6, d7] => { results := [.lit (.bool false)], args := [d1, d2, d3, d4, d5, d6, d7] }
  | _ => none }
def RaftNumbersWrongFalsely : Prop := raftNumbersRow.holds Try.pinned (OpenSpec.ofChange raftNumbersWrong)

/-- 'handsellaw21.RaftSafe': WHATEVER THE INPUT: true; the input reads as it did. -/
def raftSafeSpec : ChangeSpec := { name := "raftSafe", fn := fun _ => fun
  | [d1, d2] => { results := [.lit (.bool true)], args := [d1, d2] }
  | _ => none }
def raftSafeRow : OpenClaim := { program := "ytbcbgfkojmligaa", sum := "2af675c0797fcb51fd726aab5323e22f125bc7a1b3a204fdbe9fcf60df52285d", func := "handsel/handsellaw21.RaftSafe", spec := "raftSafe", unfollowed := true, recurses := true, apart := false }
def RaftSafeSaid : Prop := raftSafeRow.holds Try.pinned (OpenSpec.ofChange raftSafeSpec)

/-- ITS FALSE NEIGHBOUR: 'it returns false'. Refute it at one input. -/
def raftSafeWrong : ChangeSpec := { name := "raftSafe", fn := fun _ => fun
  | [d1, d2] => { results := [.lit (.bool false)], args := [d1, d2] }
  | _ => none }
def RaftSafeWrongFalsely : Prop := raftSafeRow.holds Try.pinned (OpenSpec.ofChange raftSafeWrong)

/-- 'handsellaw21.RaftElects': WHATEVER THE INPUT: true; the input reads as it did. -/
def raftElectsSpec : ChangeSpec := { name := "raftElects", fn := fun _ => fun
  | [d1, d2] => { results := [.lit (.bool true)], args := [d1, d2] }
  | _ => none }
def raftElectsRow : OpenClaim := { program := "ytbcbgfkojmligaa", sum := "2af675c0797fcb51fd726aab5323e22f125bc7a1b3a204fdbe9fcf60df52285d", func := "handsel/handsellaw21.RaftElects", spec := "raftElects", unfollowed := true, recurses := true, apart := false }
def RaftElectsSaid : Prop := raftElectsRow.holds Try.pinned (OpenSpec.ofChange raftElectsSpec)

/-- ITS FALSE NEIGHBOUR: 'it returns false'. Refute it at one input. -/
def raftElectsWrong : ChangeSpec := { name := "raftElects", fn := fun _ => fun
  | [d1, d2] => { results := [.lit (.bool false)], args := [d1, d2] }
  | _ => none }
def RaftElectsWrongFalsely : Prop := raftElectsRow.holds Try.pinned (OpenSpec.ofChange raftElectsWrong)

/-- 'handsellaw21.RaftWrong': WHATEVER THE INPUT: true; the input reads as it did. -/
def raftWrongSpec : ChangeSpec := { name := "raftWrong", fn := fun _ => fun
  | [d1, d2] => { results := [.lit (.bool true)], args := [d1, d2] }
  | _ => none }
def raftWrongRow : OpenClaim := { program := "ytbcbgfkojmligaa", sum := "2af675c0797fcb51fd726aab5323e22f125bc7a1b3a204fdbe9fcf60df52285d", func := "handsel/handsellaw21.RaftWrong", spec := "raftWrong", unfollowed := true, recurses := true, apart := false }
def RaftWrongSaid : Prop := raftWrongRow.holds Try.pinned (OpenSpec.ofChange raftWrongSpec)

/-- ITS FALSE NEIGHBOUR: 'it returns false'. Refute it at one input. -/
def raftWrongWrong : ChangeSpec := { name := "raftWrong", fn := fun _ => fun
  | [d1, d2] => { results := [.lit (.bool false)], args := [d1, d2] }
  | _ => none }
def RaftWrongWrongFalsely : Prop := raftWrongRow.holds Try.pinned (OpenSpec.ofChange raftWrongWrong)

/- THE SECOND FORM. 'bulk': how many values and letters a reading holds, each counted each time it is reached (what is shared counts as often as it is met; a slice's spare places count too). A statement '..UptoSaid' is the law's where the arguments, and the package variables that the reading takes, are together of bulk at most 1048576: NARROWER than '..Said'. Prove '..Said' where nothing that the law and all that it calls make is longer than what came in: it says more and counts as full. Else prove '..UptoSaid'. A law counts once. -/
mutual
def uptoBulk {H : Type} : DataW H → Nat
  | .lit (.string bytes) => bytes.length + 1
  | .lit _ => 1
  | .nil => 1
  | .ptr d => uptoBulk d + 1
  | .slice elems spare => uptoBulkAll elems + uptoBulkAll spare + 1
  | .agg parts => uptoBulkAll parts + 1
  | .iface _ d => uptoBulk d + 1
  | .map entries => uptoBulkEntries entries + 1
  | .held _ => 1
def uptoBulkAll {H : Type} : List (DataW H) → Nat
  | [] => 0
  | d :: r => uptoBulk d + uptoBulkAll r
def uptoBulkEntries {H : Type} : List (Lit × DataW H) → Nat
  | [] => 0
  | x :: r => uptoBulkEntry x + uptoBulkEntries r
def uptoBulkEntry {H : Type} : Lit × DataW H → Nat
  | (.string bytes, d) => bytes.length + uptoBulk d + 1
  | (_, d) => uptoBulk d + 1
 end
def uptoSmall : (H : Type) → List (DataW H) → Bool := fun _ ds => decide (uptoBulkAll ds ≤ 1048576)
def OpenSpec.upto (s : _root_.Go.ChangeSpec) : _root_.Go.OpenSpec := { _root_.Go.OpenSpec.ofChange s with cond := some uptoSmall }

/-- 'handsellaw19.VoteOnce', WHERE WHAT IT READS IS OF BULK AT MOST 1048576: true; the input reads as it did. -/
def voteOnceUptoRow : OpenClaim := { program := "ytbcbgfkojmligaa", sum := "2af675c0797fcb51fd726aab5323e22f125bc7a1b3a204fdbe9fcf60df52285d", func := "handsel/handsellaw19.VoteOnce", spec := "voteOnce", recurses := true, apart := false, narrowed := true }
def VoteOnceUptoSaid : Prop := voteOnceUptoRow.holds Try.pinned (OpenSpec.upto voteOnceSpec)

/-- 'handsellaw19.VoteUp', WHERE WHAT IT READS IS OF BULK AT MOST 1048576: true; the input reads as it did. -/
def voteUpUptoRow : OpenClaim := { program := "ytbcbgfkojmligaa", sum := "2af675c0797fcb51fd726aab5323e22f125bc7a1b3a204fdbe9fcf60df52285d", func := "handsel/handsellaw19.VoteUp", spec := "voteUp", recurses := true, apart := false, narrowed := true }
def VoteUpUptoSaid : Prop := voteUpUptoRow.holds Try.pinned (OpenSpec.upto voteUpSpec)

/-- 'handsellaw19.VoteDown', WHERE WHAT IT READS IS OF BULK AT MOST 1048576: true; the input reads as it did. -/
def voteDownUptoRow : OpenClaim := { program := "ytbcbgfkojmligaa", sum := "2af675c0797fcb51fd726aab5323e22f125bc7a1b3a204fdbe9fcf60df52285d", func := "handsel/handsellaw19.VoteDown", spec := "voteDown", apart := false, narrowed := true }
def VoteDownUptoSaid : Prop := voteDownUptoRow.holds Try.pinned (OpenSpec.upto voteDownSpec)

/-- 'handsellaw18.RlogPuts', WHERE WHAT IT READS IS OF BULK AT MOST 1048576: true; the input reads as it did. -/
def rlogPutsUptoRow : OpenClaim := { program := "ytbcbgfkojmligaa", sum := "2af675c0797fcb51fd726aab5323e22f125bc7a1b3a204fdbe9fcf60df52285d", func := "handsel/handsellaw18.RlogPuts", spec := "rlogPuts", unfollowed := true, recurses := true, apart := false, narrowed := true }
def RlogPutsUptoSaid : Prop := rlogPutsUptoRow.holds Try.pinned (OpenSpec.upto rlogPutsSpec)

/-- 'handsellaw19.VoteNumbers', WHERE WHAT IT READS IS OF BULK AT MOST 1048576: true; the input reads as it did. -/
def voteNumbersUptoRow : OpenClaim := { program := "ytbcbgfkojmligaa", sum := "2af675c0797fcb51fd726aab5323e22f125bc7a1b3a204fdbe9fcf60df52285d", func := "handsel/handsellaw19.VoteNumbers", spec := "voteNumbers", unfollowed := true, recurses := true, apart := false, narrowed := true }
def VoteNumbersUptoSaid : Prop := voteNumbersUptoRow.holds Try.pinned (OpenSpec.upto voteNumbersSpec)

/-- 'handsellaw19.VoteCounts', WHERE WHAT IT READS IS OF BULK AT MOST 1048576: true; the input reads as it did. -/
def voteCountsUptoRow : OpenClaim := { program := "ytbcbgfkojmligaa", sum := "2af675c0797fcb51fd726aab5323e22f125bc7a1b3a204fdbe9fcf60df52285d", func := "handsel/handsellaw19.VoteCounts", spec := "voteCounts", unfollowed := true, recurses := true, apart := false, narrowed := true }
def VoteCountsUptoSaid : Prop := voteCountsUptoRow.holds Try.pinned (OpenSpec.upto voteCountsSpec)

/-- 'handsellaw18.RlogAny', WHERE WHAT IT READS IS OF BULK AT MOST 1048576: true; the input reads as it did. -/
def rlogAnyUptoRow : OpenClaim := { program := "ytbcbgfkojmligaa", sum := "2af675c0797fcb51fd726aab5323e22f125bc7a1b3a204fdbe9fcf60df52285d", func := "handsel/handsellaw18.RlogAny", spec := "rlogAny", unfollowed := true, recurses := true, apart := false, narrowed := true }
def RlogAnyUptoSaid : Prop := rlogAnyUptoRow.holds Try.pinned (OpenSpec.upto rlogAnySpec)

/-- 'handsellaw18.RlogCuts', WHERE WHAT IT READS IS OF BULK AT MOST 1048576: true; the input reads as it did. -/
def rlogCutsUptoRow : OpenClaim := { program := "ytbcbgfkojmligaa", sum := "2af675c0797fcb51fd726aab5323e22f125bc7a1b3a204fdbe9fcf60df52285d", func := "handsel/handsellaw18.RlogCuts", spec := "rlogCuts", unfollowed := true, recurses := true, apart := false, narrowed := true }
def RlogCutsUptoSaid : Prop := rlogCutsUptoRow.holds Try.pinned (OpenSpec.upto rlogCutsSpec)

/-- 'handsellaw20.ReplCounts', WHERE WHAT IT READS IS OF BULK AT MOST 1048576: true; the input reads as it did. -/
def replCountsUptoRow : OpenClaim := { program := "ytbcbgfkojmligaa", sum := "2af675c0797fcb51fd726aab5323e22f125bc7a1b3a204fdbe9fcf60df52285d", func := "handsel/handsellaw20.ReplCounts", spec := "replCounts", apart := false, narrowed := true }
def ReplCountsUptoSaid : Prop := replCountsUptoRow.holds Try.pinned (OpenSpec.upto replCountsSpec)

/-- 'handsellaw18.RlogNumbers', WHERE WHAT IT READS IS OF BULK AT MOST 1048576: true; the input reads as it did. -/
def rlogNumbersUptoRow : OpenClaim := { program := "ytbcbgfkojmligaa", sum := "2af675c0797fcb51fd726aab5323e22f125bc7a1b3a204fdbe9fcf60df52285d", func := "handsel/handsellaw18.RlogNumbers", spec := "rlogNumbers", unfollowed := true, recurses := true, apart := false, narrowed := true }
def RlogNumbersUptoSaid : Prop := rlogNumbersUptoRow.holds Try.pinned (OpenSpec.upto rlogNumbersSpec)

/-- 'handsellaw20.ReplStays', WHERE WHAT IT READS IS OF BULK AT MOST 1048576: true; the input reads as it did. -/
def replStaysUptoRow : OpenClaim := { program := "ytbcbgfkojmligaa", sum := "2af675c0797fcb51fd726aab5323e22f125bc7a1b3a204fdbe9fcf60df52285d", func := "handsel/handsellaw20.ReplStays", spec := "replStays", recurses := true, apart := false, narrowed := true }
def ReplStaysUptoSaid : Prop := replStaysUptoRow.holds Try.pinned (OpenSpec.upto replStaysSpec)

/-- 'handsellaw20.ReplNumbers', WHERE WHAT IT READS IS OF BULK AT MOST 1048576: true; the input reads as it did. -/
def replNumbersUptoRow : OpenClaim := { program := "ytbcbgfkojmligaa", sum := "2af675c0797fcb51fd726aab5323e22f125bc7a1b3a204fdbe9fcf60df52285d", func := "handsel/handsellaw20.ReplNumbers", spec := "replNumbers", recurses := true, apart := false, narrowed := true }
def ReplNumbersUptoSaid : Prop := replNumbersUptoRow.holds Try.pinned (OpenSpec.upto replNumbersSpec)

/-- 'handsellaw20.ReplFollows', WHERE WHAT IT READS IS OF BULK AT MOST 1048576: true; the input reads as it did. -/
def replFollowsUptoRow : OpenClaim := { program := "ytbcbgfkojmligaa", sum := "2af675c0797fcb51fd726aab5323e22f125bc7a1b3a204fdbe9fcf60df52285d", func := "handsel/handsellaw20.ReplFollows", spec := "replFollows", recurses := true, apart := false, narrowed := true }
def ReplFollowsUptoSaid : Prop := replFollowsUptoRow.holds Try.pinned (OpenSpec.upto replFollowsSpec)

/-- 'handsellaw20.ReplInstalls', WHERE WHAT IT READS IS OF BULK AT MOST 1048576: true; the input reads as it did. -/
def replInstallsUptoRow : OpenClaim := { program := "ytbcbgfkojmligaa", sum := "2af675c0797fcb51fd726aab5323e22f125bc7a1b3a204fdbe9fcf60df52285d", func := "handsel/handsellaw20.ReplInstalls", spec := "replInstalls", recurses := true, apart := false, narrowed := true }
def ReplInstallsUptoSaid : Prop := replInstallsUptoRow.holds Try.pinned (OpenSpec.upto replInstallsSpec)

/-- 'handsellaw20.ReplOld', WHERE WHAT IT READS IS OF BULK AT MOST 1048576: true; the input reads as it did. -/
def replOldUptoRow : OpenClaim := { program := "ytbcbgfkojmligaa", sum := "2af675c0797fcb51fd726aab5323e22f125bc7a1b3a204fdbe9fcf60df52285d", func := "handsel/handsellaw20.ReplOld", spec := "replOld", apart := false, narrowed := true }
def ReplOldUptoSaid : Prop := replOldUptoRow.holds Try.pinned (OpenSpec.upto replOldSpec)

/-- 'handsellaw21.RaftNumbers', WHERE WHAT IT READS IS OF BULK AT MOST 1048576: true; the input reads as it did. -/
def raftNumbersUptoRow : OpenClaim := { program := "ytbcbgfkojmligaa", sum := "2af675c0797fcb51fd726aab5323e22f125bc7a1b3a204fdbe9fcf60df52285d", func := "handsel/handsellaw21.RaftNumbers", spec := "raftNumbers", unfollowed := true, recurses := true, apart := false, narrowed := true }
def RaftNumbersUptoSaid : Prop := raftNumbersUptoRow.holds Try.pinned (OpenSpec.upto raftNumbersSpec)

/-- 'handsellaw21.RaftSafe', WHERE WHAT IT READS IS OF BULK AT MOST 1048576: true; the input reads as it did. -/
def raftSafeUptoRow : OpenClaim := { program := "ytbcbgfkojmligaa", sum := "2af675c0797fcb51fd726aab5323e22f125bc7a1b3a204fdbe9fcf60df52285d", func := "handsel/handsellaw21.RaftSafe", spec := "raftSafe", unfollowed := true, recurses := true, apart := false, narrowed := true }
def RaftSafeUptoSaid : Prop := raftSafeUptoRow.holds Try.pinned (OpenSpec.upto raftSafeSpec)

/-- 'handsellaw21.RaftElects', WHERE WHAT IT READS IS OF BULK AT MOST 1048576: true; the input reads as it did. -/
def raftElectsUptoRow : OpenClaim := { program := "ytbcbgfkojmligaa", sum := "2af675c0797fcb51fd726aab5323e22f125bc7a1b3a204fdbe9fcf60df52285d", func := "handsel/handsellaw21.RaftElects", spec := "raftElects", unfollowed := true, recurses := true, apart := false, narrowed := true }
def RaftElectsUptoSaid : Prop := raftElectsUptoRow.holds Try.pinned (OpenSpec.upto raftElectsSpec)

/-- 'handsellaw21.RaftWrong', WHERE WHAT IT READS IS OF BULK AT MOST 1048576: true; the input reads as it did. -/
def raftWrongUptoRow : OpenClaim := { program := "ytbcbgfkojmligaa", sum := "2af675c0797fcb51fd726aab5323e22f125bc7a1b3a204fdbe9fcf60df52285d", func := "handsel/handsellaw21.RaftWrong", spec := "raftWrong", unfollowed := true, recurses := true, apart := false, narrowed := true }
def RaftWrongUptoSaid : Prop := raftWrongUptoRow.holds Try.pinned (OpenSpec.upto raftWrongSpec)

end Rows
end Go.Proofs.Ytbcbgfkojmligaa
