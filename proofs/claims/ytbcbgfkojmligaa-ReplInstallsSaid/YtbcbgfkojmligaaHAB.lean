import Derived.Test.YtbcbgfkojmligaaHAA
import Derived.Test.YtbcbgfkojmligaaTAB
/- What functions of the program answer, each under the conditions that its contract names. -/
set_option linter.unusedVariables false
set_option linter.unusedSimpArgs false
set_option maxRecDepth 100000
set_option maxHeartbeats 40000000
set_option linter.unusedSimpArgs false
namespace Go.AM
open Go.Proofs
attribute [local congr] vc_congr evOps_congr evTab_congr bind_congr condK_congr tabK_congr
def insE (j : Nat) : E := mkE (1 + (j : Int) / 25) (digits j)
def insLog (k : Nat) : List E := (List.range k).map insE
theorem insLog_len (k : Nat) : (insLog k).length = k := by unfold insLog; rw [List.length_map, List.length_range]
theorem insLog_succ (k : Nat) : insLog (k + 1) = insLog k ++ [insE k] := by unfold insLog; rw [List.range_succ, List.map_append]; rfl
theorem insLog_get {k j : Nat} (h : j < k) : (insLog k)[j]? = some (insE j) := by
  unfold insLog
  rw [List.getElem?_map, List.getElem?_range h]
  rfl
def insN (k : Nat) (c : Int) : Node := mkN (nId (newN 0 2)) (nNodes (newN 0 2)) 3 (nVote (newN 0 2)) (nBase (newN 0 2)) (nBT (newN 0 2)) (nSnap (newN 0 2)) (insLog k) (nRole (newN 0 2)) (nLead (newN 0 2)) c (nVotes (newN 0 2)) (nNext (newN 0 2)) (nMatch (newN 0 2)) (nClock (newN 0 2))
def snapB : ByteArray := ⟨#[115, 110, 97, 112]⟩
theorem ins_last (k : Nat) (c : Int) : last (insN k c) = k := by
  show (0 : Int) + ((insLog k).length : Int) = k
  rw [insLog_len]; omega
def insC (k : Nat) (c : Int) : Node := mkN (nId (newN 0 2)) (nNodes (newN 0 2)) 3 (nVote (newN 0 2)) c (1 + (c - 1) / 25) snapB ((insLog k).drop c.toNat) (nRole (newN 0 2)) (nLead (newN 0 2)) k (nVotes (newN 0 2)) (nNext (newN 0 2)) (nMatch (newN 0 2)) (nClock (newN 0 2))
theorem ins_cut {k : Nat} {c : Int} (h1 : 1 ≤ c) (h2 : c ≤ k) : cutN (insN k k) c snapB = insC k c := by
  unfold cutN
  have hb : nBase (insN k k) = 0 := rfl
  have hc : nCommit (insN k k) = k := rfl
  have ht : termV (insN k k) c = 1 + (c - 1) / 25 := by
    unfold termV
    rw [hb, ins_last, if_neg (by omega), if_pos ⟨by omega, h2⟩, List.getD_eq_getElem?_getD]
    have hl : nLog (insN k k) = insLog k := rfl
    rw [hl, insLog_get (by omega)]
    show 1 + (((c - 0 - 1).toNat : Nat) : Int) / 25 = _
    rw [show (((c - 0 - 1).toNat : Nat) : Int) = c - 1 by omega]
  rw [if_neg (by rw [hb, hc, ins_last]; omega), ht]
  have hB : behindN (insN k k) c = (insLog k).drop c.toNat := by
    unfold behindN; rw [hb, show (c - 0).toNat = c.toNat by omega]; rfl
  rw [hB]
  rfl
/-- how the run ends -/
def InsEnd (k : Nat) (c : Int) (s : RS) : Prop := s.l = [] ∧ s.k = 1 ∧ nBase s.f = c ∧ nSnap s.f = snapB ∧ ((nLog s.f).length : Int) = k - c + 1 ∧ nCommit s.n = k + 1 ∧ c ≤ nCommit s.f ∧ nBT s.f = 1 + (c - 1) / 25
theorem ins_run {k : Nat} {c : Int} (h1 : 1 ≤ c) (h2 : c ≤ k) (h3 : k ≤ 60) : rgL (insC k c) ∧ ∃ sF, InsEnd k c sF ∧ ∃ j, j ≤ 200 ∧ Path ⟨lead1 (insC k c), newN 1 2, lead2 (insC k c), 0⟩ j sF := by
  have hlen : ((insLog k).drop c.toNat).length = k - c.toNat := by rw [List.length_drop, insLog_len]
  have hla : last (insC k c) = k := by
    show c + (((insLog k).drop c.toNat).length : Int) = k
    rw [hlen]; omega
  have hlog : nLog (insC k c) = (insLog k).drop c.toNat := rfl
  have hrg : rgL (insC k c) := by
    refine ⟨⟨show (0 : Int) ≤ c by omega, show c ≤ (k : Int) by omega, show (k : Int) ≤ _ by omega, by rw [hla]; omega, by rw [sm, hlog, hlen]; omega, ?_, ?_, ?_, ?_⟩, by rw [hla]; omega, by rw [hlog, hlen]; omega⟩
    · exact of_decide_eq_true (by rfl)
    · exact of_decide_eq_true (by rfl)
    · exact of_decide_eq_true (by rfl)
    · exact of_decide_eq_true (by rfl)
  refine ⟨hrg, ?_⟩
  obtain ⟨a1, a2, a3⟩ := lead_LS (n := insC k c) rfl rfl (show (0 : Int) ≤ c by omega) (show c ≤ (k : Int) by omega) (by rw [hla]; exact Int.le_refl _) (by rw [hla]; omega)
  rw [hla] at a1
  have hF : FS 0 0 3 (newN 1 2) := by
    refine ⟨rfl, rfl, rfl, of_decide_eq_true (by rfl), ⟨?_, ?_, ?_, ?_, ?_, ?_, ?_, ?_, ?_⟩, of_decide_eq_true (by rfl)⟩
    all_goals exact of_decide_eq_true (by rfl)
  have hlg : (((nLog (insC k c) ++ [mkE (nTerm (insC k c)) noB]).length : Nat) : Int) = k - c + 1 := by
    rw [List.length_append, hlog, hlen]
    show ((k - c.toNat + 1 : Nat) : Int) = _
    omega
  have hT : ((nLog (insC k c) ++ [mkE (nTerm (insC k c)) noB]).getD ((nLog (insC k c) ++ [mkE (nTerm (insC k c)) noB]).length - 1) (dflt tEntry)).1 = 3 := by
    rw [List.getD_eq_getElem?_getD, List.length_append, show (nLog (insC k c)).length + [mkE (nTerm (insC k c)) noB].length - 1 = (nLog (insC k c)).length by show (nLog (insC k c)).length + 1 - 1 = _; omega, List.getElem?_append_right (Nat.le_refl _), Nat.sub_self]
    rfl
  obtain ⟨j, n', f', b1, b2, b3, b4, b5, b6, b7, b8⟩ := far h1 h2 (by omega) hlg hT a1 hF rfl rfl
  rw [a2]
  exact ⟨⟨n', f', [], 1⟩, ⟨rfl, rfl, b4, by show nSnap f' = _; rw [b6, a3]; rfl, by show ((nLog f').length : Int) = _; rw [b7, hlg], b3, b8, b5⟩, j, b1, b2⟩
def replInstallsFn : Fn := { a := .pair tI (.pair tI .unit), r := .pair .bool .unit, pre := fun _ => True, f := fun _ => (true, ()) }
theorem h16  : Holds Try.prog 16 (replInstallsFn) := by
  refine Holds.of_vcc (T := [(23, fn23), (31, fn31F), (50, fn50), (59, fn59), (67, fn67), (65, fn65), (74, fn74), (57, fn57)]) (TT := ttL) (rowAt := []) (c := c16) (ros := [.t 4]) (.cons _ h23 (.cons _ h31F (.cons _ h50 (.cons _ h59 (.cons _ h67 (.cons _ h65 (.cons _ h74 (.cons _ h57 (.nil _))))))))) mixed Try.func16 (by decide +kernel) (by rfl) comp16 (by kernel_rfl) rfl rfl (fun h => by cases h) ?_
  rintro ⟨(sz : Int), (cu : Int), _⟩ hpre
  simp only [replInstallsFn] at hpre ⊢
  simp only [c16, fn23, fn31F, fn50, fn59, fn67, fn65, fn74, fn57, go_sem, reduceIte, Nat.reduceBEq, Nat.reduceMul, reduceCtorEq, Nat.reduceAdd, Nat.reduceEqDiff, decide_eq_true_eq, decide_eq_false_iff_not, Bool.not_eq_true', Bool.not_eq_false', Bool.and_eq_true, Bool.or_eq_true, Bool.and_eq_false_iff, Bool.or_eq_false_iff, Bool.cond_true_left, Bool.cond_false_right, Bool.cond_true_right, Bool.cond_false_left, Bool.or_false, Bool.and_true, inR, fn23, p19]
  have hk0 := Int.emod_nonneg sz (show (60 : Int) ≠ 0 by decide)
  have hk1 := Int.emod_lt_of_pos sz (show (0 : Int) < 60 by decide)
  obtain ⟨K, hK⟩ : ∃ K : Int, K = 1 + sz % 60 := ⟨_, rfl⟩
  simp only [← hK]
  have hc0 := Int.emod_nonneg cu (show K ≠ 0 by omega)
  have hc1 := Int.emod_lt_of_pos cu (show (0 : Int) < K by omega)
  obtain ⟨c, hc⟩ : ∃ c : Int, c = 1 + cu % K := ⟨_, rfl⟩
  simp only [← hc]
  have hk : 1 ≤ K ∧ K ≤ 60 := by omega
  have hcc : 1 ≤ c ∧ c ≤ K := by omega
  clear hk0 hk1 hc0 hc1 hK
  refine ⟨by decide, by omega, show (0 : Int) < K ∧ K ≤ 1099511627776 by omega, by omega, ?_⟩
  refine loop_rule (β := Nat) (fun i => ⟨[(5, .int .i64 K), (6, .int .i64 c), (7, .ptr 7 0), (8, .ptr 8 0), (9, .int .i64 i)],
    [(7, .box [.int .i64 (nId (newN 0 2)), .int .i64 (nNodes (newN 0 2)), .int .i64 3, .int .i64 (nVote (newN 0 2)), .int .i64 (nBase (newN 0 2)), .int .i64 (nBT (newN 0 2)), .str (nSnap (newN 0 2)), .own 41 0 i, .int .i64 (nRole (newN 0 2)), .int .i64 (nLead (newN 0 2)), .int .i64 (nCommit (newN 0 2)), .sl .bool (nVotes (newN 0 2)) false, .sl tI (nNext (newN 0 2)) false, .sl tI (nMatch (newN 0 2)) false, .int .i64 (nClock (newN 0 2))]), (8, .box (cellsA tNode (newN 1 2) [])), (41, .row tEntry (insLog i) false)]⟩) (fun i => (i : Int) ≤ K) (fun i => 60 - i) 0 ?_ ?_ ?_
  · refine Ent_of [(7, 7), (8, 8)] rfl ?_ ?_
    · simp only [go_sem, reduceIte, Nat.reduceBEq, Nat.reduceMul, reduceCtorEq, Nat.reduceAdd, Nat.reduceEqDiff, decide_eq_true_eq, decide_eq_false_iff_not, Bool.not_eq_true', Bool.not_eq_false', Bool.and_eq_true, Bool.or_eq_true, Bool.and_eq_false_iff, Bool.or_eq_false_iff, Bool.cond_true_left, Bool.cond_false_right, Bool.cond_true_right, Bool.cond_false_left, Bool.or_false, Bool.and_true]
      exact ⟨rfl, rfl, by decide⟩
    · simp only [go_sem, reduceIte, Nat.reduceBEq, Nat.reduceMul, reduceCtorEq, Nat.reduceAdd, Nat.reduceEqDiff, decide_eq_true_eq, decide_eq_false_iff_not, Bool.not_eq_true', Bool.not_eq_false', Bool.and_eq_true, Bool.or_eq_true, Bool.and_eq_false_iff, Bool.or_eq_false_iff, Bool.cond_true_left, Bool.cond_false_right, Bool.cond_true_right, Bool.cond_false_left, Bool.or_false, Bool.and_true]
      rfl
  · show ((0 : Nat) : Int) ≤ K; omega
  intro i hi
  simp (maxSteps := 10000000) only [go_sem, reduceIte, Nat.reduceBEq, Nat.reduceMul, reduceCtorEq, Nat.reduceAdd, Nat.reduceEqDiff, decide_eq_true_eq, decide_eq_false_iff_not, Bool.not_eq_true', Bool.not_eq_false', Bool.and_eq_true, Bool.or_eq_true, Bool.and_eq_false_iff, Bool.or_eq_false_iff, Bool.cond_true_left, Bool.cond_false_right, Bool.cond_true_right, Bool.cond_false_left, Bool.or_false, Bool.and_true, inR]
  generalize hV : vc _ (C.cut c16_43) _ = V
  have hq : ((i : Int).tdiv 25 : Int) = (i : Int) / 25 := tq1 (by omega)
  simp only [hq]
  refine ⟨fun h => ⟨⟨by decide, by omega, by omega⟩, by omega, ⟨show (0 : Int) ≤ (i : Int) by omega, show (i : Int) < 10000000000000000000 by omega, by decide⟩, by omega, by rfl, by omega, Again.intro (i + 1) (Ent_of [(7, 7), (8, 8), (41, 41)] rfl ?_ ?_) (show ((i + 1 : Nat) : Int) ≤ K by omega) (show 60 - (i + 1) < 60 - i by omega)⟩, fun h => ?_⟩
  · simp only [go_sem, reduceIte, Nat.reduceBEq, Nat.reduceMul, reduceCtorEq, Nat.reduceAdd, Nat.reduceEqDiff, decide_eq_true_eq, decide_eq_false_iff_not, Bool.not_eq_true', Bool.not_eq_false', Bool.and_eq_true, Bool.or_eq_true, Bool.and_eq_false_iff, Bool.or_eq_false_iff, Bool.cond_true_left, Bool.cond_false_right, Bool.cond_true_right, Bool.cond_false_left, Bool.or_false, Bool.and_true]
    rw [insLog_succ, List.take_of_length_le (by rw [insLog_len]; exact Nat.le_refl _)]; rfl
  · simp only [go_sem, reduceIte, Nat.reduceBEq, Nat.reduceMul, reduceCtorEq, Nat.reduceAdd, Nat.reduceEqDiff, decide_eq_true_eq, decide_eq_false_iff_not, Bool.not_eq_true', Bool.not_eq_false', Bool.and_eq_true, Bool.or_eq_true, Bool.and_eq_false_iff, Bool.or_eq_false_iff, Bool.cond_true_left, Bool.cond_false_right, Bool.cond_true_right, Bool.cond_false_left, Bool.or_false, Bool.and_true]
    omega
  have hki : K = i := by omega
  subst hki
  refine cut_at hV ⟨[(5, .int .i64 i), (6, .int .i64 c), (7, .ptr 7 0), (8, .ptr 8 0)],
    [(7, .box [.int .i64 (nId (newN 0 2)), .int .i64 (nNodes (newN 0 2)), .int .i64 3, .int .i64 (nVote (newN 0 2)), .int .i64 (nBase (newN 0 2)), .int .i64 (nBT (newN 0 2)), .str (nSnap (newN 0 2)), .own 41 0 i, .int .i64 (nRole (newN 0 2)), .int .i64 (nLead (newN 0 2)), .int .i64 (nCommit (newN 0 2)), .sl .bool (nVotes (newN 0 2)) false, .sl tI (nNext (newN 0 2)) false, .sl tI (nMatch (newN 0 2)) false, .int .i64 (nClock (newN 0 2))]), (8, .box (cellsA tNode (newN 1 2) [])), (41, .row tEntry (insLog i) false)]⟩ ?_ (Ent_of [(7, 7), (8, 8), (41, 41)] rfl ?_ ?_)
  rotate_left
  · simp only [go_sem, reduceIte, Nat.reduceBEq, Nat.reduceMul, reduceCtorEq, Nat.reduceAdd, Nat.reduceEqDiff, decide_eq_true_eq, decide_eq_false_iff_not, Bool.not_eq_true', Bool.not_eq_false', Bool.and_eq_true, Bool.or_eq_true, Bool.and_eq_false_iff, Bool.or_eq_false_iff, Bool.cond_true_left, Bool.cond_false_right, Bool.cond_true_right, Bool.cond_false_left, Bool.or_false, Bool.and_true]
  · simp only [go_sem, reduceIte, Nat.reduceBEq, Nat.reduceMul, reduceCtorEq, Nat.reduceAdd, Nat.reduceEqDiff, decide_eq_true_eq, decide_eq_false_iff_not, Bool.not_eq_true', Bool.not_eq_false', Bool.and_eq_true, Bool.or_eq_true, Bool.and_eq_false_iff, Bool.or_eq_false_iff, Bool.cond_true_left, Bool.cond_false_right, Bool.cond_true_right, Bool.cond_false_left, Bool.or_false, Bool.and_true]
  clear hV V
  simp (maxSteps := 10000000) only [c16_43, go_sem, reduceIte, Nat.reduceBEq, Nat.reduceMul, reduceCtorEq, Nat.reduceAdd, Nat.reduceEqDiff, decide_eq_true_eq, decide_eq_false_iff_not, Bool.not_eq_true', Bool.not_eq_false', Bool.and_eq_true, Bool.or_eq_true, Bool.and_eq_false_iff, Bool.or_eq_false_iff, Bool.cond_true_left, Bool.cond_false_right, Bool.cond_true_right, Bool.cond_false_left, Bool.or_false, Bool.and_true, inR]
  simp only [mkPr]
  generalize hV : vc _ (C.cut c16_49) _ = V
  have hx : mkN (nId (newN 0 2)) (nNodes (newN 0 2)) 3 (nVote (newN 0 2)) (nBase (newN 0 2)) (nBT (newN 0 2)) (nSnap (newN 0 2)) (List.take i (insLog i)) (nRole (newN 0 2)) (nLead (newN 0 2)) i (nVotes (newN 0 2)) (nNext (newN 0 2)) (nMatch (newN 0 2)) (nClock (newN 0 2)) = insN i i := by
    rw [List.take_of_length_le (by rw [insLog_len]; exact Nat.le_refl _)]; rfl
  simp only [hx]
  have hxb : nBase (insN i i) = 0 := rfl
  have hxl := ins_last i i
  have hlg : nLog (insN i i) = insLog i := rfl
  have hsl : smallL (nLog (insN i i)) := by rw [sm, hlg, insLog_len]; omega
  have hcut : cutN (insN i i) c ⟨#[115, 110, 97, 112]⟩ = insC i c := ins_cut hcc.1 (by omega)
  simp only [hcut]
  obtain ⟨hrl, sF, hend, hrun⟩ := ins_run hcc.1 hcc.2 (by omega)
  refine ⟨⟨by omega, by omega, by omega, hsl⟩, ?_⟩
  refine cut_at hV ⟨[(5, .int .i64 i), (6, .int .i64 c), (7, .ptr 7 0), (8, .ptr 8 0)], [(7, .box (cellsA tNode (insC i c) [])), (8, .box (cellsA tNode (newN 1 2) []))]⟩ ?_ (Ent_of [(7, 7), (8, 8)] rfl ?_ ?_)
  rotate_left
  · simp only [go_sem, reduceIte, Nat.reduceBEq, Nat.reduceMul, reduceCtorEq, Nat.reduceAdd, Nat.reduceEqDiff, decide_eq_true_eq, decide_eq_false_iff_not, Bool.not_eq_true', Bool.not_eq_false', Bool.and_eq_true, Bool.or_eq_true, Bool.and_eq_false_iff, Bool.or_eq_false_iff, Bool.cond_true_left, Bool.cond_false_right, Bool.cond_true_right, Bool.cond_false_left, Bool.or_false, Bool.and_true]
  · simp only [go_sem, reduceIte, Nat.reduceBEq, Nat.reduceMul, reduceCtorEq, Nat.reduceAdd, Nat.reduceEqDiff, decide_eq_true_eq, decide_eq_false_iff_not, Bool.not_eq_true', Bool.not_eq_false', Bool.and_eq_true, Bool.or_eq_true, Bool.and_eq_false_iff, Bool.or_eq_false_iff, Bool.cond_true_left, Bool.cond_false_right, Bool.cond_true_right, Bool.cond_false_left, Bool.or_false, Bool.and_true]
  clear hV V hx hxb hxl hlg hsl hcut
  simp (maxSteps := 10000000) only [c16_49, go_sem, reduceIte, Nat.reduceBEq, Nat.reduceMul, reduceCtorEq, Nat.reduceAdd, Nat.reduceEqDiff, decide_eq_true_eq, decide_eq_false_iff_not, Bool.not_eq_true', Bool.not_eq_false', Bool.and_eq_true, Bool.or_eq_true, Bool.and_eq_false_iff, Bool.or_eq_false_iff, Bool.cond_true_left, Bool.cond_false_right, Bool.cond_true_right, Bool.cond_false_left, Bool.or_false, Bool.and_true, inR]
  generalize hV : vc _ (C.cut c16_11) _ = V
  refine ⟨hrl, ?_⟩
  refine cut_at hV ⟨[(5, .int .i64 i), (6, .int .i64 c), (7, .ptr 7 0), (8, .ptr 8 0), (10, .own 15001 0 (lead2 (insC i c)).length)], [(7, .box (cellsA tNode (lead1 (insC i c)) [])), (8, .box (cellsA tNode (newN 1 2) [])), (15001, .row tMsg (lead2 (insC i c)) false)]⟩ ?_ (Ent_of [(7, 7), (8, 8), (15001, 15001)] rfl ?_ ?_)
  rotate_left
  · simp only [go_sem, reduceIte, Nat.reduceBEq, Nat.reduceMul, reduceCtorEq, Nat.reduceAdd, Nat.reduceEqDiff, decide_eq_true_eq, decide_eq_false_iff_not, Bool.not_eq_true', Bool.not_eq_false', Bool.and_eq_true, Bool.or_eq_true, Bool.and_eq_false_iff, Bool.or_eq_false_iff, Bool.cond_true_left, Bool.cond_false_right, Bool.cond_true_right, Bool.cond_false_left, Bool.or_false, Bool.and_true]
  · simp only [go_sem, reduceIte, Nat.reduceBEq, Nat.reduceMul, reduceCtorEq, Nat.reduceAdd, Nat.reduceEqDiff, decide_eq_true_eq, decide_eq_false_iff_not, Bool.not_eq_true', Bool.not_eq_false', Bool.and_eq_true, Bool.or_eq_true, Bool.and_eq_false_iff, Bool.or_eq_false_iff, Bool.cond_true_left, Bool.cond_false_right, Bool.cond_true_right, Bool.cond_false_left, Bool.or_false, Bool.and_true]
  clear hV V
  simp (maxSteps := 10000000) only [c16_11, go_sem, reduceIte, Nat.reduceBEq, Nat.reduceMul, reduceCtorEq, Nat.reduceAdd, Nat.reduceEqDiff, decide_eq_true_eq, decide_eq_false_iff_not, Bool.not_eq_true', Bool.not_eq_false', Bool.and_eq_true, Bool.or_eq_true, Bool.and_eq_false_iff, Bool.or_eq_false_iff, Bool.cond_true_left, Bool.cond_false_right, Bool.cond_true_right, Bool.cond_false_left, Bool.or_false, Bool.and_true, inR]
  refine loop_rule (β := Nat × RS) (fun p => ⟨[(5, .int .i64 i), (6, .int .i64 c), (7, .ptr 7 0), (8, .ptr 8 0), (10, .own 15001 0 p.2.l.length), (11, .int .i64 p.2.k), (12, .int .i64 p.1)], [(7, .box (cellsA tNode p.2.n [])), (8, .box (cellsA tNode p.2.f [])), (15001, .row tMsg p.2.l false)]⟩) (fun p => ∃ j, p.1 + j ≤ 200 ∧ 0 ≤ p.2.k ∧ p.2.k ≤ p.1 ∧ Path p.2 j sF) (fun p => 200 - p.1) (0, ⟨lead1 (insC i c), newN 1 2, lead2 (insC i c), 0⟩) ?_ ?_ ?_
  · refine Ent_of [(7, 7), (8, 8), (15001, 15001)] rfl ?_ ?_
    · simp only [go_sem, reduceIte, Nat.reduceBEq, Nat.reduceMul, reduceCtorEq, Nat.reduceAdd, Nat.reduceEqDiff, decide_eq_true_eq, decide_eq_false_iff_not, Bool.not_eq_true', Bool.not_eq_false', Bool.and_eq_true, Bool.or_eq_true, Bool.and_eq_false_iff, Bool.or_eq_false_iff, Bool.cond_true_left, Bool.cond_false_right, Bool.cond_true_right, Bool.cond_false_left, Bool.or_false, Bool.and_true]
    · simp only [go_sem, reduceIte, Nat.reduceBEq, Nat.reduceMul, reduceCtorEq, Nat.reduceAdd, Nat.reduceEqDiff, decide_eq_true_eq, decide_eq_false_iff_not, Bool.not_eq_true', Bool.not_eq_false', Bool.and_eq_true, Bool.or_eq_true, Bool.and_eq_false_iff, Bool.or_eq_false_iff, Bool.cond_true_left, Bool.cond_false_right, Bool.cond_true_right, Bool.cond_false_left, Bool.or_false, Bool.and_true]
      rfl
  · obtain ⟨j, h1, h2⟩ := hrun
    exact ⟨j, by show 0 + j ≤ 200; omega, Int.le_refl _, Int.le_refl _, h2⟩
  rintro ⟨q, n, f, l, k⟩ ⟨j, hj, hkq0, hkq, hp⟩
  have hkq0 : 0 ≤ k := hkq0
  have hkq : k ≤ q := hkq
  have hj : q + j ≤ 200 := hj
  simp (maxSteps := 10000000) only [go_sem, reduceIte, Nat.reduceBEq, Nat.reduceMul, reduceCtorEq, Nat.reduceAdd, Nat.reduceEqDiff, decide_eq_true_eq, decide_eq_false_iff_not, Bool.not_eq_true', Bool.not_eq_false', Bool.and_eq_true, Bool.or_eq_true, Bool.and_eq_false_iff, Bool.or_eq_false_iff, Bool.cond_true_left, Bool.cond_false_right, Bool.cond_true_right, Bool.cond_false_left, Bool.or_false, Bool.and_true, inR]
  generalize hV : vc _ (C.cut c16_100) _ = V
  have hg := hp.good
  rcases hp.drop hend.1 with ⟨h0, rfl⟩ | ⟨hne, j', rfl, hp'⟩
  · have h0 : l = [] := h0
    subst h0
    refine ⟨fun h => absurd h (by simp), fun _ => ?_⟩
    refine cut_at hV ⟨[(5, .int .i64 i), (6, .int .i64 c), (7, .ptr 7 0), (8, .ptr 8 0), (10, .own 15001 0 0), (11, .int .i64 k)], [(7, .box (cellsA tNode n [])), (8, .box (cellsA tNode f [])), (15001, .row tMsg [] false)]⟩ ?_ (Ent_of [(7, 7), (8, 8), (15001, 15001)] rfl ?_ ?_)
    rotate_left
    · simp only [go_sem, reduceIte, Nat.reduceBEq, Nat.reduceMul, reduceCtorEq, Nat.reduceAdd, Nat.reduceEqDiff, decide_eq_true_eq, decide_eq_false_iff_not, Bool.not_eq_true', Bool.not_eq_false', Bool.and_eq_true, Bool.or_eq_true, Bool.and_eq_false_iff, Bool.or_eq_false_iff, Bool.cond_true_left, Bool.cond_false_right, Bool.cond_true_right, Bool.cond_false_left, Bool.or_false, Bool.and_true]
    · simp only [go_sem, reduceIte, Nat.reduceBEq, Nat.reduceMul, reduceCtorEq, Nat.reduceAdd, Nat.reduceEqDiff, decide_eq_true_eq, decide_eq_false_iff_not, Bool.not_eq_true', Bool.not_eq_false', Bool.and_eq_true, Bool.or_eq_true, Bool.and_eq_false_iff, Bool.or_eq_false_iff, Bool.cond_true_left, Bool.cond_false_right, Bool.cond_true_right, Bool.cond_false_left, Bool.or_false, Bool.and_true]
    clear hV V
    simp (maxSteps := 10000000) only [c16_100, go_sem, reduceIte, Nat.reduceBEq, Nat.reduceMul, reduceCtorEq, Nat.reduceAdd, Nat.reduceEqDiff, decide_eq_true_eq, decide_eq_false_iff_not, Bool.not_eq_true', Bool.not_eq_false', Bool.and_eq_true, Bool.or_eq_true, Bool.and_eq_false_iff, Bool.or_eq_false_iff, Bool.cond_true_left, Bool.cond_false_right, Bool.cond_true_right, Bool.cond_false_left, Bool.or_false, Bool.and_true, inR]
    obtain ⟨_, e1, e2, e3, e4, e5, e6, e7⟩ := hend
    have htd : (c - 1).tdiv 25 = (c - 1) / 25 := tq1 (by omega)
    have e3' : (ByteArray.toList f.2.2.2.2.2.2.1 == ByteArray.toList ⟨#[115, 110, 97, 112]⟩) = true := by
      rw [show f.2.2.2.2.2.2.1 = (⟨#[115, 110, 97, 112]⟩ : ByteArray) from e3]; exact beq_self_eq_true _
    simp only [htd]
    refine ⟨fun _ => by omega, fun _ => by omega, fun _ => by omega, fun _ => by omega, fun _ => ⟨by decide, by omega, by omega⟩, fun _ => by omega, ⟨⟨⟨⟨⟨⟨⟨rfl, e1⟩, e2⟩, e3'⟩, e4⟩, e5⟩, e6⟩, e7⟩⟩
  · have hl1 := hg.2.2.2.2.1
    have hl1 : l.length ≤ 1 := hl1
    obtain ⟨m, rfl⟩ : ∃ m, l = [m] := by
      cases l with
      | nil => exact absurd rfl hne
      | cons m r => cases r with
        | nil => exact ⟨m, rfl⟩
        | cons a r => simp at hl1
    have hmg := hg.2.2.2.2.2 m (List.mem_singleton.2 rfl)
    have hm0 : List.getD [m] 0 (dflt tMsg) = m := rfl
    simp only [hm0]
    have hsmE : smallL (mEntries m) := by rw [sm]; omega
    have ht2 : (take2 f m).length ≤ 1048576 := (take2_small f m).1
    have hh2 : (heard2 n m).length ≤ 1048576 := (heard2_small n m).1
    have hA : (0 : Int) ≤ 0 ∧ (0 : Int) < ([m].length : Int) := ⟨by decide, by show (0 : Int) < 1; decide⟩
    have hB : (0 : Int) ≤ 1 ∧ (1 : Int) ≤ ([m].length : Int) ∧ ([m].length : Int) ≤ ([m].length : Int) := ⟨by decide, by show (1 : Int) ≤ 1; decide, Int.le_refl _⟩
    have hC : [m].length - Int.toNat 1 = 0 := rfl
    simp only [hC, Nat.zero_add]
    have hq200 : q < 200 := by omega
    have take_done : ∀ {k' : Int}, mTo m = 1 → k' = (if mKind m = 5 then k + 1 else k) → Path ⟨n, take1 f m, take2 f m, k'⟩ j' sF := by
      intro k' hto hk'
      rw [rstep_f hto, ← hk'] at hp'
      exact hp'
    have hKr : okIdx (mIndex m) := ⟨by omega, by omega⟩
    refine ⟨fun h => ⟨hA, fun hto => ⟨hA, fun hk5 => ⟨by omega, hA, ⟨hg.2.1, hKr, hsmE⟩, by decide +kernel, hB, ⟨by omega, by omega⟩, by decide +kernel, by omega, Again.intro (q + 1, ⟨n, take1 f m, take2 f m, k + 1⟩) (Ent_of [(7, 7), (8, 8), (15001, 86)] rfl ?_ ?_) ⟨j', show q + 1 + j' ≤ 200 by omega, show 0 ≤ k + 1 by omega, show k + 1 ≤ ((q + 1 : Nat) : Int) by omega, take_done hto (if_pos hk5).symm⟩ (show 200 - (q + 1) < 200 - q by omega)⟩,
      fun hk5 => ⟨hA, ⟨hg.2.1, hKr, hsmE⟩, by decide +kernel, hB, ⟨by omega, by omega⟩, by decide +kernel, by omega, Again.intro (q + 1, ⟨n, take1 f m, take2 f m, k⟩) (Ent_of [(7, 7), (8, 8), (15001, 86)] rfl ?_ ?_) ⟨j', show q + 1 + j' ≤ 200 by omega, show 0 ≤ k by omega, show k ≤ ((q + 1 : Nat) : Int) by omega, take_done hto (if_neg hk5).symm⟩ (show 200 - (q + 1) < 200 - q by omega)⟩⟩,
      fun hto => ⟨hA, ⟨hg.1, hg.2.2.1 _, by omega, by omega, hg.2.2.2.1⟩, by decide +kernel, hB, ⟨by omega, by omega⟩, by decide +kernel, by omega, Again.intro (q + 1, ⟨heard1 n m, f, heard2 n m, k⟩) (Ent_of [(7, 7), (8, 8), (15001, 99)] rfl ?_ ?_) ⟨j', show q + 1 + j' ≤ 200 by omega, show 0 ≤ k by omega, show k ≤ ((q + 1 : Nat) : Int) by omega, by rw [rstep_n hto] at hp'; exact hp'⟩ (show 200 - (q + 1) < 200 - q by omega)⟩⟩, fun h => ?_⟩
    · simp only [go_sem, reduceIte, Nat.reduceBEq, Nat.reduceMul, reduceCtorEq, Nat.reduceAdd, Nat.reduceEqDiff, decide_eq_true_eq, decide_eq_false_iff_not, Bool.not_eq_true', Bool.not_eq_false', Bool.and_eq_true, Bool.or_eq_true, Bool.and_eq_false_iff, Bool.or_eq_false_iff, Bool.cond_true_left, Bool.cond_false_right, Bool.cond_true_right, Bool.cond_false_left, Bool.or_false, Bool.and_true]
      rfl
    · simp only [go_sem, reduceIte, Nat.reduceBEq, Nat.reduceMul, reduceCtorEq, Nat.reduceAdd, Nat.reduceEqDiff, decide_eq_true_eq, decide_eq_false_iff_not, Bool.not_eq_true', Bool.not_eq_false', Bool.and_eq_true, Bool.or_eq_true, Bool.and_eq_false_iff, Bool.or_eq_false_iff, Bool.cond_true_left, Bool.cond_false_right, Bool.cond_true_right, Bool.cond_false_left, Bool.or_false, Bool.and_true]
      rfl
    · simp only [go_sem, reduceIte, Nat.reduceBEq, Nat.reduceMul, reduceCtorEq, Nat.reduceAdd, Nat.reduceEqDiff, decide_eq_true_eq, decide_eq_false_iff_not, Bool.not_eq_true', Bool.not_eq_false', Bool.and_eq_true, Bool.or_eq_true, Bool.and_eq_false_iff, Bool.or_eq_false_iff, Bool.cond_true_left, Bool.cond_false_right, Bool.cond_true_right, Bool.cond_false_left, Bool.or_false, Bool.and_true]
      rfl
    · simp only [go_sem, reduceIte, Nat.reduceBEq, Nat.reduceMul, reduceCtorEq, Nat.reduceAdd, Nat.reduceEqDiff, decide_eq_true_eq, decide_eq_false_iff_not, Bool.not_eq_true', Bool.not_eq_false', Bool.and_eq_true, Bool.or_eq_true, Bool.and_eq_false_iff, Bool.or_eq_false_iff, Bool.cond_true_left, Bool.cond_false_right, Bool.cond_true_right, Bool.cond_false_left, Bool.or_false, Bool.and_true]
      rfl
    · simp only [go_sem, reduceIte, Nat.reduceBEq, Nat.reduceMul, reduceCtorEq, Nat.reduceAdd, Nat.reduceEqDiff, decide_eq_true_eq, decide_eq_false_iff_not, Bool.not_eq_true', Bool.not_eq_false', Bool.and_eq_true, Bool.or_eq_true, Bool.and_eq_false_iff, Bool.or_eq_false_iff, Bool.cond_true_left, Bool.cond_false_right, Bool.cond_true_right, Bool.cond_false_left, Bool.or_false, Bool.and_true]
      rfl
    · simp only [go_sem, reduceIte, Nat.reduceBEq, Nat.reduceMul, reduceCtorEq, Nat.reduceAdd, Nat.reduceEqDiff, decide_eq_true_eq, decide_eq_false_iff_not, Bool.not_eq_true', Bool.not_eq_false', Bool.and_eq_true, Bool.or_eq_true, Bool.and_eq_false_iff, Bool.or_eq_false_iff, Bool.cond_true_left, Bool.cond_false_right, Bool.cond_true_right, Bool.cond_false_left, Bool.or_false, Bool.and_true]
      rfl
    · exfalso
      omega
end Go.AM
