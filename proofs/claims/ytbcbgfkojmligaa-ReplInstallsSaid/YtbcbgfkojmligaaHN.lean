import Derived.Test.YtbcbgfkojmligaaHL
import Derived.Test.YtbcbgfkojmligaaTN
/- What functions of the program answer, each under the conditions that its contract names. -/
set_option linter.unusedVariables false
set_option linter.unusedSimpArgs false
set_option maxRecDepth 100000
set_option maxHeartbeats 8000000
set_option linter.unusedSimpArgs false
namespace Go.AM
open Go.Proofs
attribute [local congr] vc_congr evOps_congr evTab_congr bind_congr condK_congr tabK_congr
/-- A node whose log may be appended to. -/
@[reducible] def tNodeF : Ty := .pair tI (.pair tI (.pair tI (.pair tI (.pair tI (.pair tI (.pair .str (.pair (.flist tEntry) (.pair tI (.pair tI (.pair tI (.pair (.list .bool) (.pair (.list tI) (.pair (.list tI) (.pair tI .unit))))))))))))))
def fn31F : Fn := { a := .pair tI (.pair tI .unit), r := .pair tNodeF .unit, pre := fun _ => True, f := fun x => (newN x.1 x.2.1, ()) }
theorem h31F  : Holds Try.prog 31 (fn31F) := by
  refine Holds.of_vc (T := []) (TT := ttL) (rowAt := []) (c := c31) (ros := [.c 4 15]) (.nil _) mixed Try.func31 (by decide +kernel) (by rfl) comp31 (by kernel_rfl) rfl rfl (fun h => by cases h) ?_
  rintro ⟨(id : Int), (nodes : Int), _⟩ hpre
  simp only [fn31F] at hpre ⊢
  simp only [c31, go_sem, reduceIte, Nat.reduceBEq, Nat.reduceMul, reduceCtorEq, Nat.reduceAdd, Nat.reduceEqDiff, decide_eq_true_eq, decide_eq_false_iff_not, Bool.not_eq_true', Bool.not_eq_false', Bool.and_eq_true, Bool.or_eq_true, Bool.and_eq_false_iff, Bool.or_eq_false_iff, Bool.cond_true_left, Bool.cond_false_right, Bool.cond_true_right, Bool.cond_false_left, Bool.or_false, Bool.and_true, inR]
  simp only [newN]
  have hk1 : 1 ≤ min (max nodes 1) 5 := by omega
  have hk5 : min (max nodes 1) 5 ≤ 5 := by omega
  generalize min (max nodes 1) 5 = k at *
  refine ⟨by omega, by omega, by omega, by omega, by rfl, ?_⟩
  refine loop_rule (β := Nat) (fun i => ⟨[(4, .ptr 4 0), (5, .int .i64 k), (6, .ptr 6 0), (7, .int .i64 i)], [(4, .box [.int .i64 0, .int .i64 0, .int .i64 0, .int .i64 0, .int .i64 0, .int .i64 0, .str ⟨#[]⟩, .sl tEntry [] true, .int .i64 0, .int .i64 0, .int .i64 0, .sl .bool [] true, .sl tI [] true, .sl tI [] true, .int .i64 0]),
    (6, .box [.int .i64 (min (max id 0) (k - 1)), .int .i64 k, .int .i64 0, .int .i64 (-1), .int .i64 0, .int .i64 0, .str ⟨#[]⟩, .sl tEntry [] true, .int .i64 0, .int .i64 (-1), .int .i64 0, .own 18 0 k.toNat, .own 20 0 k.toNat, .own 22 0 k.toNat, .int .i64 0]),
    (18, .row .bool (List.replicate k.toNat false) false), (20, .row tI (List.replicate i (1 : Int) ++ List.replicate (k.toNat - i) (0 : Int)) false), (22, .row tI (List.replicate k.toNat (0 : Int)) false)]⟩)
    (fun i => i ≤ k.toNat) (fun i => k.toNat - i) 0 ?_ ?_ ?_
  · refine Ent_of [(4, 4), (6, 6), (18, 18), (20, 20), (22, 22)] rfl ?_ ?_
    · simp only [go_sem, reduceIte, Nat.reduceBEq, Nat.reduceMul, reduceCtorEq, Nat.reduceAdd, Nat.reduceEqDiff, decide_eq_true_eq, decide_eq_false_iff_not, Bool.not_eq_true', Bool.not_eq_false', Bool.and_eq_true, Bool.or_eq_true, Bool.and_eq_false_iff, Bool.or_eq_false_iff, Bool.cond_true_left, Bool.cond_false_right, Bool.cond_true_right, Bool.cond_false_left, Bool.or_false, Bool.and_true]
      exact ⟨rfl, rfl, rfl⟩
    · simp only [go_sem, reduceIte, Nat.reduceBEq, Nat.reduceMul, reduceCtorEq, Nat.reduceAdd, Nat.reduceEqDiff, decide_eq_true_eq, decide_eq_false_iff_not, Bool.not_eq_true', Bool.not_eq_false', Bool.and_eq_true, Bool.or_eq_true, Bool.and_eq_false_iff, Bool.or_eq_false_iff, Bool.cond_true_left, Bool.cond_false_right, Bool.cond_true_right, Bool.cond_false_left, Bool.or_false, Bool.and_true]
      trivial
  · exact Nat.zero_le _
  · intro i hi
    simp only [go_sem, reduceIte, Nat.reduceBEq, Nat.reduceMul, reduceCtorEq, Nat.reduceAdd, Nat.reduceEqDiff, decide_eq_true_eq, decide_eq_false_iff_not, Bool.not_eq_true', Bool.not_eq_false', Bool.and_eq_true, Bool.or_eq_true, Bool.and_eq_false_iff, Bool.or_eq_false_iff, Bool.cond_true_left, Bool.cond_false_right, Bool.cond_true_right, Bool.cond_false_left, Bool.or_false, Bool.and_true, inR]
    refine ⟨fun h => ⟨by omega, by omega, Again.intro (i + 1) (Ent_of [(4, 4), (6, 6), (18, 18), (20, 20), (22, 22)] rfl ?_ ?_) ?_ ?_⟩, fun h => ?_⟩
    · simp only [go_sem, reduceIte, Nat.reduceBEq, Nat.reduceMul, reduceCtorEq, Nat.reduceAdd, Nat.reduceEqDiff, decide_eq_true_eq, decide_eq_false_iff_not, Bool.not_eq_true', Bool.not_eq_false', Bool.and_eq_true, Bool.or_eq_true, Bool.and_eq_false_iff, Bool.or_eq_false_iff, Bool.cond_true_left, Bool.cond_false_right, Bool.cond_true_right, Bool.cond_false_left, Bool.or_false, Bool.and_true]
      exact (ones_set i k.toNat (by omega)).symm
    · simp only [go_sem, reduceIte, Nat.reduceBEq, Nat.reduceMul, reduceCtorEq, Nat.reduceAdd, Nat.reduceEqDiff, decide_eq_true_eq, decide_eq_false_iff_not, Bool.not_eq_true', Bool.not_eq_false', Bool.and_eq_true, Bool.or_eq_true, Bool.and_eq_false_iff, Bool.or_eq_false_iff, Bool.cond_true_left, Bool.cond_false_right, Bool.cond_true_right, Bool.cond_false_left, Bool.or_false, Bool.and_true]
      omega
    · show i + 1 ≤ k.toNat; omega
    · show k.toNat - (i + 1) < k.toNat - i; omega
    · rw [show i = k.toNat by omega, Nat.sub_self, List.replicate_zero, List.append_nil, List.take_replicate, Nat.min_self]
      rfl
def cutE (j : Nat) : E := mkE ((j : Int) / 3) (digits j)
def cutLog (k : Nat) : List E := (List.range k).map cutE
/-- the node of RlogCuts: so many entries, so many committed -/
def xN (k : Nat) (c : Int) : Node := mkN (nId (newN 0 3)) (nNodes (newN 0 3)) 50 (nVote (newN 0 3)) (nBase (newN 0 3)) (nBT (newN 0 3)) (nSnap (newN 0 3)) (cutLog k) (nRole (newN 0 3)) (nLead (newN 0 3)) c (nVotes (newN 0 3)) (nNext (newN 0 3)) (nMatch (newN 0 3)) (nClock (newN 0 3))
theorem cutLog_len (k : Nat) : (cutLog k).length = k := by unfold cutLog; rw [List.length_map, List.length_range]
theorem cutLog_succ (k : Nat) : cutLog (k + 1) = cutLog k ++ [cutE k] := by unfold cutLog; rw [List.range_succ, List.map_append]; rfl
def yN (k : Nat) (c u : Int) (s : ByteArray) : Node := mkN (nId (newN 0 3)) (nNodes (newN 0 3)) 50 (nVote (newN 0 3)) u ((u - 1) / 3) s ((cutLog k).drop u.toNat) (nRole (newN 0 3)) (nLead (newN 0 3)) c (nVotes (newN 0 3)) (nNext (newN 0 3)) (nMatch (newN 0 3)) (nClock (newN 0 3))
theorem cutLog_get {k j : Nat} (h : j < k) : (cutLog k)[j]? = some (cutE j) := by
  unfold cutLog
  rw [List.getElem?_map, List.getElem?_range h]
  rfl
theorem x_last (k : Nat) (c : Int) : last (xN k c) = k := by
  show (0 : Int) + ((cutLog k).length : Int) = k
  rw [cutLog_len]; omega
theorem x_term {k : Nat} {c i : Int} (h1 : 1 ≤ i) (h2 : i ≤ k) : termV (xN k c) i = (i - 1) / 3 := by
  unfold termV
  have hb : nBase (xN k c) = 0 := rfl
  rw [hb, x_last, if_neg (by omega), if_pos ⟨by omega, h2⟩, List.getD_eq_getElem?_getD]
  have hl : nLog (xN k c) = cutLog k := rfl
  rw [hl, cutLog_get (by omega)]
  show (((i - 0 - 1).toNat : Nat) : Int) / 3 = _
  rw [show (((i - 0 - 1).toNat : Nat) : Int) = i - 1 by omega]
theorem cut_x {k : Nat} {c u : Int} {s : ByteArray} (h1 : 1 ≤ u) (h2 : u ≤ c) (h3 : c ≤ k) : cutN (xN k c) u s = yN k c u s := by
  unfold cutN
  have hb : nBase (xN k c) = 0 := rfl
  have hc : nCommit (xN k c) = c := rfl
  rw [if_neg (by rw [hb, hc, x_last]; omega), x_term h1 (by omega)]
  have hB : behindN (xN k c) u = (cutLog k).drop u.toNat := by
    unfold behindN; rw [hb, show (u - 0).toNat = u.toNat by omega]; rfl
  rw [hB]
  rfl
theorem cut_x0 {k : Nat} {c u : Int} {s : ByteArray} (h : u ≤ 0 ∨ c < u) : cutN (xN k c) u s = xN k c := by
  unfold cutN
  have hb : nBase (xN k c) = 0 := rfl
  have hc : nCommit (xN k c) = c := rfl
  exact if_pos (by rw [hb, hc]; omega)
theorem y_last {k : Nat} {c u : Int} {s : ByteArray} (h1 : 1 ≤ u) (h2 : u ≤ k) : last (yN k c u s) = k := by
  show u + (((cutLog k).drop u.toNat).length : Int) = k
  rw [List.length_drop, cutLog_len]; omega
theorem y_term {k : Nat} {c u i : Int} {s : ByteArray} (h1 : 1 ≤ u) (h2 : u ≤ i) (h3 : i ≤ k) : termV (yN k c u s) i = (i - 1) / 3 := by
  unfold termV
  have hb : nBase (yN k c u s) = u := rfl
  have ht : nBT (yN k c u s) = (u - 1) / 3 := rfl
  rw [hb, y_last h1 (by omega), ht]
  split
  · rename_i e; rw [e]
  · rw [if_pos ⟨h2, h3⟩, List.getD_eq_getElem?_getD]
    have hl : nLog (yN k c u s) = (cutLog k).drop u.toNat := rfl
    rw [hl, List.getElem?_drop, cutLog_get (by omega)]
    show (((u.toNat + (i - u - 1).toNat : Nat) : Nat) : Int) / 3 = _
    rw [show ((u.toNat + (i - u - 1).toNat : Nat) : Int) = i - 1 by omega]
theorem y_ok {k : Nat} {c u i : Int} {s : ByteArray} (h1 : 1 ≤ u) (h2 : u ≤ k) : termOk (yN k c u s) i = decide (u ≤ i ∧ i ≤ k) := by
  unfold termOk
  rw [y_last h1 h2]
  rfl
theorem y_behind {k : Nat} {c u i : Int} {s : ByteArray} (h1 : 1 ≤ u) (h2 : u ≤ i) : behindN (yN k c u s) i = behindN (xN k c) i := by
  unfold behindN
  show ((cutLog k).drop u.toNat).drop (i - u).toNat = (cutLog k).drop (i - 0).toNat
  rw [List.drop_drop, show u.toNat + (i - u).toNat = (i - 0).toNat by omega]
theorem y_check {k : Nat} {c u : Int} {s : ByteArray} (h1 : 1 ≤ u) (h2 : u ≤ c) (h3 : c ≤ k) (hk : k ≤ 30) : checkN (yN k c u s) = true := by
  have hA : checkA (yN k c u s) = true := by rfl
  have hB : checkB (yN k c u s) = true := by
    unfold checkB
    have e1 : eachB [nTerm (yN k c u s), nBase (yN k c u s), nBT (yN k c u s), nCommit (yN k c u s), nClock (yN k c u s)] 0 MM = true := by
      show eachB [50, u, (u - 1) / 3, c, 0] 0 MM = true
      have b1 : inB u 0 MM = true := by unfold inB MM; simp only [Bool.and_eq_true, Bool.or_eq_true, decide_eq_true_eq, decide_eq_false_iff_not, Bool.and_eq_false_iff, Bool.or_eq_false_iff, Bool.not_eq_true', Bool.not_eq_false']; omega
      have b2 : inB ((u - 1) / 3) 0 MM = true := by unfold inB MM; simp only [Bool.and_eq_true, Bool.or_eq_true, decide_eq_true_eq, decide_eq_false_iff_not, Bool.and_eq_false_iff, Bool.or_eq_false_iff, Bool.not_eq_true', Bool.not_eq_false']; omega
      have b3 : inB c 0 MM = true := by unfold inB MM; simp only [Bool.and_eq_true, Bool.or_eq_true, decide_eq_true_eq, decide_eq_false_iff_not, Bool.and_eq_false_iff, Bool.or_eq_false_iff, Bool.not_eq_true', Bool.not_eq_false']; omega
      have b4 : inB 50 0 MM = true := by rfl
      have b5 : inB 0 0 MM = true := by rfl
      unfold eachB
      simp only [List.any_cons, List.any_nil, b1, b2, b3, b4, b5]
      rfl
    rw [e1]
    rfl
  have hC : checkC (yN k c u s) = true := by
    unfold checkC
    rw [y_last h1 (by omega)]
    have e1 : inB (nCommit (yN k c u s)) (nBase (yN k c u s)) k = true := by
      show inB c u k = true
      unfold inB; simp only [Bool.and_eq_true, Bool.or_eq_true, decide_eq_true_eq, decide_eq_false_iff_not, Bool.and_eq_false_iff, Bool.or_eq_false_iff, Bool.not_eq_true', Bool.not_eq_false']; omega
    have e2 : eachB (nNext (yN k c u s)) 1 MM = true := by rfl
    have e3 : eachB (nMatch (yN k c u s)) 0 MM = true := by rfl
    have e4 : ((nLog (yN k c u s)).any fun e => !inB e.1 0 (nTerm (yN k c u s))) = false := by
      rw [List.any_eq_false]
      intro e he
      have he2 : e ∈ cutLog k := List.mem_of_mem_drop he
      unfold cutLog at he2
      obtain ⟨j, hj, rfl⟩ := List.mem_map.1 he2
      rw [List.mem_range] at hj
      have : inB (cutE j).1 0 (nTerm (yN k c u s)) = true := by
        show inB ((j : Int) / 3) 0 50 = true
        unfold inB; simp only [Bool.and_eq_true, Bool.or_eq_true, decide_eq_true_eq, decide_eq_false_iff_not, Bool.and_eq_false_iff, Bool.or_eq_false_iff, Bool.not_eq_true', Bool.not_eq_false']; omega
      rw [this]; decide
    rw [e1, e2, e3, e4]
    rfl
  unfold checkN
  rw [hA, hB, hC]
  rfl
def rlogCutsFn : Fn := { a := .pair tI (.pair tI (.pair tI .unit)), r := .pair .bool .unit, pre := fun _ => True, f := fun _ => (true, ()) }
theorem h10  : Holds Try.prog 10 (rlogCutsFn) := by
  refine Holds.of_vcc (T := [(23, fn23), (31, fn31F), (50, fn50), (51, fn51), (33, fn33), (36, fn36), (52, fn52), (46, fn46), (48, fn48), (53, fn53), (37, fn37), (55, fn55), (54, fn54)]) (TT := ttL) (rowAt := []) (c := c10) (ros := [.t 6]) (.cons _ h23 (.cons _ h31F (.cons _ h50 (.cons _ h51 (.cons _ h33 (.cons _ h36 (.cons _ h52 (.cons _ h46 (.cons _ h48 (.cons _ h53 (.cons _ h37 (.cons _ h55 (.cons _ h54 (.nil _)))))))))))))) mixed Try.func10 (by decide +kernel) (by rfl) comp10 (by kernel_rfl) rfl rfl (fun h => by cases h) ?_
  rintro ⟨(n : Int), (cm : Int), (up : Int), _⟩ hpre
  simp only [rlogCutsFn] at hpre ⊢
  simp only [c10, fn23, fn31F, fn50, fn51, fn33, fn36, fn52, fn46, fn48, fn53, fn37, fn55, fn54, go_sem, reduceIte, Nat.reduceBEq, Nat.reduceMul, reduceCtorEq, Nat.reduceAdd, Nat.reduceEqDiff, decide_eq_true_eq, decide_eq_false_iff_not, Bool.not_eq_true', Bool.not_eq_false', Bool.and_eq_true, Bool.or_eq_true, Bool.and_eq_false_iff, Bool.or_eq_false_iff, Bool.cond_true_left, Bool.cond_false_right, Bool.cond_true_right, Bool.cond_false_left, Bool.or_false, Bool.and_true, inR, fn23, p19]
  have hk0 := Int.emod_nonneg n (show (30 : Int) ≠ 0 by decide)
  have hk1 := Int.emod_lt_of_pos n (show (0 : Int) < 30 by decide)
  generalize (n % 30 : Int) = k at *
  have hc0 := Int.emod_nonneg cm (show k + 1 ≠ 0 by omega)
  have hc1 := Int.emod_lt_of_pos cm (show (0 : Int) < k + 1 by omega)
  generalize (cm % (k + 1) : Int) = c at *
  refine ⟨show (0 : Int) < 30 ∧ (30 : Int) ≤ 1099511627776 by decide, by omega, show (0 : Int) < k + 1 ∧ k + 1 ≤ 1099511627776 from by omega, ?_⟩
  refine loop_rule (β := Nat) (fun i => ⟨[(2, .int .i64 up), (7, .int .i64 k), (8, .int .i64 c), (9, .ptr 9 0), (10, .int .i64 i)],
    [(9, .box [.int .i64 (nId (newN 0 3)), .int .i64 (nNodes (newN 0 3)), .int .i64 50, .int .i64 (nVote (newN 0 3)), .int .i64 (nBase (newN 0 3)), .int .i64 (nBT (newN 0 3)), .str (nSnap (newN 0 3)), .own 42 0 i, .int .i64 (nRole (newN 0 3)), .int .i64 (nLead (newN 0 3)), .int .i64 (nCommit (newN 0 3)), .sl .bool (nVotes (newN 0 3)) false, .sl tI (nNext (newN 0 3)) false, .sl tI (nMatch (newN 0 3)) false, .int .i64 (nClock (newN 0 3))]),
     (42, .row tEntry (cutLog i) false)]⟩) (fun i => (i : Int) ≤ k) (fun i => 30 - i) 0 ?_ ?_ ?_
  · refine Ent_of [(9, 9)] rfl ?_ ?_
    · simp only [go_sem, reduceIte, Nat.reduceBEq, Nat.reduceMul, reduceCtorEq, Nat.reduceAdd, Nat.reduceEqDiff, decide_eq_true_eq, decide_eq_false_iff_not, Bool.not_eq_true', Bool.not_eq_false', Bool.and_eq_true, Bool.or_eq_true, Bool.and_eq_false_iff, Bool.or_eq_false_iff, Bool.cond_true_left, Bool.cond_false_right, Bool.cond_true_right, Bool.cond_false_left, Bool.or_false, Bool.and_true]
      exact ⟨rfl, rfl, by decide⟩
    · simp only [go_sem, reduceIte, Nat.reduceBEq, Nat.reduceMul, reduceCtorEq, Nat.reduceAdd, Nat.reduceEqDiff, decide_eq_true_eq, decide_eq_false_iff_not, Bool.not_eq_true', Bool.not_eq_false', Bool.and_eq_true, Bool.or_eq_true, Bool.and_eq_false_iff, Bool.or_eq_false_iff, Bool.cond_true_left, Bool.cond_false_right, Bool.cond_true_right, Bool.cond_false_left, Bool.or_false, Bool.and_true]
      rfl
  · show ((0 : Nat) : Int) ≤ k; omega
  intro i hi
  simp (maxSteps := 10000000) only [go_sem, reduceIte, Nat.reduceBEq, Nat.reduceMul, reduceCtorEq, Nat.reduceAdd, Nat.reduceEqDiff, decide_eq_true_eq, decide_eq_false_iff_not, Bool.not_eq_true', Bool.not_eq_false', Bool.and_eq_true, Bool.or_eq_true, Bool.and_eq_false_iff, Bool.or_eq_false_iff, Bool.cond_true_left, Bool.cond_false_right, Bool.cond_true_right, Bool.cond_false_left, Bool.or_false, Bool.and_true, inR]
  generalize hV : vc _ (C.cut c10_44) _ = V
  have hq : ((i : Int).tdiv 3 : Int) = (i : Int) / 3 := tq1 (by omega)
  refine ⟨fun h => ⟨⟨by decide, by omega, by omega⟩, ⟨show (0 : Int) ≤ (i : Int) by omega, show (i : Int) < 10000000000000000000 by omega, by decide⟩, by omega, by rfl, by omega, Again.intro (i + 1) (Ent_of [(9, 9), (42, 42)] rfl ?_ ?_) (show ((i + 1 : Nat) : Int) ≤ k by omega) (show 30 - (i + 1) < 30 - i by omega)⟩, fun h => ?_⟩
  · simp only [go_sem, reduceIte, Nat.reduceBEq, Nat.reduceMul, reduceCtorEq, Nat.reduceAdd, Nat.reduceEqDiff, decide_eq_true_eq, decide_eq_false_iff_not, Bool.not_eq_true', Bool.not_eq_false', Bool.and_eq_true, Bool.or_eq_true, Bool.and_eq_false_iff, Bool.or_eq_false_iff, Bool.cond_true_left, Bool.cond_false_right, Bool.cond_true_right, Bool.cond_false_left, Bool.or_false, Bool.and_true]
    rw [cutLog_succ, hq, List.take_of_length_le (by rw [cutLog_len]; exact Nat.le_refl _)]; rfl
  · simp only [go_sem, reduceIte, Nat.reduceBEq, Nat.reduceMul, reduceCtorEq, Nat.reduceAdd, Nat.reduceEqDiff, decide_eq_true_eq, decide_eq_false_iff_not, Bool.not_eq_true', Bool.not_eq_false', Bool.and_eq_true, Bool.or_eq_true, Bool.and_eq_false_iff, Bool.or_eq_false_iff, Bool.cond_true_left, Bool.cond_false_right, Bool.cond_true_right, Bool.cond_false_left, Bool.or_false, Bool.and_true]
    omega
  have hki : k = i := by omega
  subst hki
  refine cut_at hV ⟨[(2, .int .i64 up), (7, .int .i64 i), (8, .int .i64 c), (9, .ptr 9 0)],
    [(9, .box [.int .i64 (nId (newN 0 3)), .int .i64 (nNodes (newN 0 3)), .int .i64 50, .int .i64 (nVote (newN 0 3)), .int .i64 (nBase (newN 0 3)), .int .i64 (nBT (newN 0 3)), .str (nSnap (newN 0 3)), .own 42 0 i, .int .i64 (nRole (newN 0 3)), .int .i64 (nLead (newN 0 3)), .int .i64 (nCommit (newN 0 3)), .sl .bool (nVotes (newN 0 3)) false, .sl tI (nNext (newN 0 3)) false, .sl tI (nMatch (newN 0 3)) false, .int .i64 (nClock (newN 0 3))]),
     (42, .row tEntry (cutLog i) false)]⟩ ?_ (Ent_of [(9, 9), (42, 42)] rfl ?_ ?_)
  rotate_left
  · simp only [go_sem, reduceIte, Nat.reduceBEq, Nat.reduceMul, reduceCtorEq, Nat.reduceAdd, Nat.reduceEqDiff, decide_eq_true_eq, decide_eq_false_iff_not, Bool.not_eq_true', Bool.not_eq_false', Bool.and_eq_true, Bool.or_eq_true, Bool.and_eq_false_iff, Bool.or_eq_false_iff, Bool.cond_true_left, Bool.cond_false_right, Bool.cond_true_right, Bool.cond_false_left, Bool.or_false, Bool.and_true]
  · simp only [go_sem, reduceIte, Nat.reduceBEq, Nat.reduceMul, reduceCtorEq, Nat.reduceAdd, Nat.reduceEqDiff, decide_eq_true_eq, decide_eq_false_iff_not, Bool.not_eq_true', Bool.not_eq_false', Bool.and_eq_true, Bool.or_eq_true, Bool.and_eq_false_iff, Bool.or_eq_false_iff, Bool.cond_true_left, Bool.cond_false_right, Bool.cond_true_right, Bool.cond_false_left, Bool.or_false, Bool.and_true]
  clear hV V
  simp (maxSteps := 10000000) only [c10_44, go_sem, reduceIte, Nat.reduceBEq, Nat.reduceMul, reduceCtorEq, Nat.reduceAdd, Nat.reduceEqDiff, decide_eq_true_eq, decide_eq_false_iff_not, Bool.not_eq_true', Bool.not_eq_false', Bool.and_eq_true, Bool.or_eq_true, Bool.and_eq_false_iff, Bool.or_eq_false_iff, Bool.cond_true_left, Bool.cond_false_right, Bool.cond_true_right, Bool.cond_false_left, Bool.or_false, Bool.and_true, inR, fn23, p19]
  simp only [mkPr]
  generalize hV : vc _ (C.cut c10_53) _ = V
  have hx : mkN (nId (newN 0 3)) (nNodes (newN 0 3)) 50 (nVote (newN 0 3)) (nBase (newN 0 3)) (nBT (newN 0 3)) (nSnap (newN 0 3)) (List.take i (cutLog i)) (nRole (newN 0 3)) (nLead (newN 0 3)) c (nVotes (newN 0 3)) (nNext (newN 0 3)) (nMatch (newN 0 3)) (nClock (newN 0 3)) = xN i c := by
    rw [List.take_of_length_le (by rw [cutLog_len]; exact Nat.le_refl _)]; rfl
  simp only [hx]
  have hu0 := Int.emod_nonneg up (show (i : Int) + 3 ≠ 0 by omega)
  have hu1 := Int.emod_lt_of_pos up (show (0 : Int) < (i : Int) + 3 by omega)
  generalize (up % ((i : Int) + 3) : Int) = u at *
  have hxb : nBase (xN i c) = 0 := rfl
  have hxl := x_last i c
  have hsm : smallN (xN i c) := by
    refine ⟨?_, show (nVotes (newN 0 3)).length ≤ 1048576 by decide, show (nNext (newN 0 3)).length ≤ 1048576 by decide, show (nMatch (newN 0 3)).length ≤ 1048576 by decide⟩
    rw [sm]; show (cutLog i).length ≤ _; rw [cutLog_len]; omega
  have hlg : nLog (xN i c) = cutLog i := rfl
  generalize hy : cutN (xN i c) u ⟨#[115, 110, 97, 112]⟩ = y
  refine ⟨by omega, show (0 : Int) < (i : Int) + 3 ∧ (i : Int) + 3 ≤ 1099511627776 from by omega, ⟨by omega, by omega, by omega, hsm.1⟩, ?_⟩
  refine cut_at hV ⟨[(7, .int .i64 i), (8, .int .i64 c), (9, .ptr 9 0), (11, .int .i64 u), (12, .ptr 12 0)], [(9, .box (cellsA tNode (xN i c) [])), (12, .box (cellsA tNode y []))]⟩ ?_ (Ent_of [(9, 9), (12, 12)] rfl ?_ ?_)
  rotate_left
  · simp only [go_sem, reduceIte, Nat.reduceBEq, Nat.reduceMul, reduceCtorEq, Nat.reduceAdd, Nat.reduceEqDiff, decide_eq_true_eq, decide_eq_false_iff_not, Bool.not_eq_true', Bool.not_eq_false', Bool.and_eq_true, Bool.or_eq_true, Bool.and_eq_false_iff, Bool.or_eq_false_iff, Bool.cond_true_left, Bool.cond_false_right, Bool.cond_true_right, Bool.cond_false_left, Bool.or_false, Bool.and_true]
    exact ⟨rfl, rfl, rfl, rfl, rfl, rfl, rfl, List.take_of_length_le (by rw [cutLog_len]; exact Nat.le_refl _), rfl, rfl, rfl, rfl, rfl, rfl, rfl⟩
  · simp only [go_sem, reduceIte, Nat.reduceBEq, Nat.reduceMul, reduceCtorEq, Nat.reduceAdd, Nat.reduceEqDiff, decide_eq_true_eq, decide_eq_false_iff_not, Bool.not_eq_true', Bool.not_eq_false', Bool.and_eq_true, Bool.or_eq_true, Bool.and_eq_false_iff, Bool.or_eq_false_iff, Bool.cond_true_left, Bool.cond_false_right, Bool.cond_true_right, Bool.cond_false_left, Bool.or_false, Bool.and_true]
  clear hV V
  simp (maxSteps := 10000000) only [c10_53, go_sem, reduceIte, Nat.reduceBEq, Nat.reduceMul, reduceCtorEq, Nat.reduceAdd, Nat.reduceEqDiff, decide_eq_true_eq, decide_eq_false_iff_not, Bool.not_eq_true', Bool.not_eq_false', Bool.and_eq_true, Bool.or_eq_true, Bool.and_eq_false_iff, Bool.or_eq_false_iff, Bool.cond_true_left, Bool.cond_false_right, Bool.cond_true_right, Bool.cond_false_left, Bool.or_false, Bool.and_true, inR]
  generalize hV : vc _ (C.cut c10_66) _ = V
  refine ⟨fun h => ⟨hsm, by rw [← hy, cut_x0 (by omega)]; exact eqB_self _⟩, fun hu => ?_⟩
  have hyN : y = yN i c u ⟨#[115, 110, 97, 112]⟩ := by rw [← hy]; exact cut_x (by omega) (by omega) (by omega)
  have b1 : y.2.2.2.2.1 = u := by rw [hyN]; rfl
  have b2 : y.2.2.2.2.2.1 = (u - 1) / 3 := by rw [hyN]; rfl
  have b3 : y.2.2.2.2.2.2.1 = ⟨#[115, 110, 97, 112]⟩ := by rw [hyN]; rfl
  have b4 : (y.2.2.2.2.2.2.2.1.length : Int) = (i : Int) - u := by
    rw [hyN]; show (((cutLog i).drop u.toNat).length : Int) = _
    rw [List.length_drop, cutLog_len]; omega
  have b5 : last y = i := by rw [hyN]; exact y_last (by omega) (by omega)
  have b6 : checkN y = true := by rw [hyN]; exact y_check (by omega) (by omega) (by omega) (by omega)
  have b7 : (u - 1).tdiv 3 = (u - 1) / 3 := tq1 (by omega)
  have b8 : smallL (nLog y) := by rw [sm]; have : ((nLog y).length : Int) = (i : Int) - u := b4; omega
  have b9 : nBase y = u := b1
  refine cut_at hV ⟨[(7, .int .i64 i), (9, .ptr 9 0), (11, .int .i64 u), (12, .ptr 12 0)], [(9, .box (cellsA tNode (xN i c) [])), (12, .box (cellsA tNode y []))]⟩ ?_ (Ent_of [(9, 9), (12, 12)] rfl ?_ ?_)
  rotate_left
  · simp only [go_sem, reduceIte, Nat.reduceBEq, Nat.reduceMul, reduceCtorEq, Nat.reduceAdd, Nat.reduceEqDiff, decide_eq_true_eq, decide_eq_false_iff_not, Bool.not_eq_true', Bool.not_eq_false', Bool.and_eq_true, Bool.or_eq_true, Bool.and_eq_false_iff, Bool.or_eq_false_iff, Bool.cond_true_left, Bool.cond_false_right, Bool.cond_true_right, Bool.cond_false_left, Bool.or_false, Bool.and_true]
  · simp only [go_sem, reduceIte, Nat.reduceBEq, Nat.reduceMul, reduceCtorEq, Nat.reduceAdd, Nat.reduceEqDiff, decide_eq_true_eq, decide_eq_false_iff_not, Bool.not_eq_true', Bool.not_eq_false', Bool.and_eq_true, Bool.or_eq_true, Bool.and_eq_false_iff, Bool.or_eq_false_iff, Bool.cond_true_left, Bool.cond_false_right, Bool.cond_true_right, Bool.cond_false_left, Bool.or_false, Bool.and_true]
  clear hV V
  have d1 : decide (y.2.2.2.2.1 = u) = true := decide_eq_true b1
  have d2 : decide (y.2.2.2.2.2.1 = (u - 1) / 3) = true := decide_eq_true b2
  have d3 : decide (y.2.2.2.2.2.2.1 = ⟨#[115, 110, 97, 112]⟩) = true := decide_eq_true b3
  have d4 : decide ((y.2.2.2.2.2.2.2.1.length : Int) = (i : Int) - u) = true := decide_eq_true b4
  have d5 : smallL (nNext y) ∧ smallL (nMatch y) := by rw [hyN]; exact ⟨hsm.2.2.1, hsm.2.2.2⟩
  simp (maxSteps := 10000000) only [c10_66, go_sem, reduceIte, Nat.reduceBEq, Nat.reduceMul, reduceCtorEq, Nat.reduceAdd, Nat.reduceEqDiff, decide_eq_true_eq, decide_eq_false_iff_not, Bool.not_eq_true', Bool.not_eq_false', Bool.and_eq_true, Bool.or_eq_true, Bool.and_eq_false_iff, Bool.or_eq_false_iff, Bool.cond_true_left, Bool.cond_false_right, Bool.cond_true_right, Bool.cond_false_left, Bool.or_false, Bool.and_true, inR, d1, d2, d3, d4, b5, b6, b7, decide_true, str_eq]
  generalize hV : vc _ (C.cut c10_103) _ = V
  refine ⟨by omega, ⟨by decide, by omega, by omega⟩, by omega, by omega, ⟨by omega, b8, d5.1, d5.2⟩, ?_⟩
  refine cut_at hV ⟨[(7, .int .i64 i), (9, .ptr 9 0), (11, .int .i64 u), (12, .ptr 12 0)], [(9, .box (cellsA tNode (xN i c) [])), (12, .box (cellsA tNode y []))]⟩ ?_ (Ent_of [(9, 9), (12, 12)] rfl ?_ ?_)
  rotate_left
  · simp only [go_sem, reduceIte, Nat.reduceBEq, Nat.reduceMul, reduceCtorEq, Nat.reduceAdd, Nat.reduceEqDiff, decide_eq_true_eq, decide_eq_false_iff_not, Bool.not_eq_true', Bool.not_eq_false', Bool.and_eq_true, Bool.or_eq_true, Bool.and_eq_false_iff, Bool.or_eq_false_iff, Bool.cond_true_left, Bool.cond_false_right, Bool.cond_true_right, Bool.cond_false_left, Bool.or_false, Bool.and_true]
  · simp only [go_sem, reduceIte, Nat.reduceBEq, Nat.reduceMul, reduceCtorEq, Nat.reduceAdd, Nat.reduceEqDiff, decide_eq_true_eq, decide_eq_false_iff_not, Bool.not_eq_true', Bool.not_eq_false', Bool.and_eq_true, Bool.or_eq_true, Bool.and_eq_false_iff, Bool.or_eq_false_iff, Bool.cond_true_left, Bool.cond_false_right, Bool.cond_true_right, Bool.cond_false_left, Bool.or_false, Bool.and_true]
  clear hV V
  simp (maxSteps := 10000000) only [c10_103, go_sem, reduceIte, Nat.reduceBEq, Nat.reduceMul, reduceCtorEq, Nat.reduceAdd, Nat.reduceEqDiff, decide_eq_true_eq, decide_eq_false_iff_not, Bool.not_eq_true', Bool.not_eq_false', Bool.and_eq_true, Bool.or_eq_true, Bool.and_eq_false_iff, Bool.or_eq_false_iff, Bool.cond_true_left, Bool.cond_false_right, Bool.cond_true_right, Bool.cond_false_left, Bool.or_false, Bool.and_true, inR]
  refine loop_rule (β := Nat) (fun j => ⟨[(7, .int .i64 i), (9, .ptr 9 0), (11, .int .i64 u), (12, .ptr 12 0), (13, .int .i64 (u + j))], [(9, .box (cellsA tNode (xN i c) [])), (12, .box (cellsA tNode y []))]⟩)
    (fun j => u + j ≤ i + 1) (fun j => (i + 1 - (u + j)).toNat) 0 ?_ ?_ ?_
  · refine Ent_of [(9, 9), (12, 12)] rfl ?_ ?_
    · simp only [go_sem, reduceIte, Nat.reduceBEq, Nat.reduceMul, reduceCtorEq, Nat.reduceAdd, Nat.reduceEqDiff, decide_eq_true_eq, decide_eq_false_iff_not, Bool.not_eq_true', Bool.not_eq_false', Bool.and_eq_true, Bool.or_eq_true, Bool.and_eq_false_iff, Bool.or_eq_false_iff, Bool.cond_true_left, Bool.cond_false_right, Bool.cond_true_right, Bool.cond_false_left, Bool.or_false, Bool.and_true]
    · simp only [go_sem, reduceIte, Nat.reduceBEq, Nat.reduceMul, reduceCtorEq, Nat.reduceAdd, Nat.reduceEqDiff, decide_eq_true_eq, decide_eq_false_iff_not, Bool.not_eq_true', Bool.not_eq_false', Bool.and_eq_true, Bool.or_eq_true, Bool.and_eq_false_iff, Bool.or_eq_false_iff, Bool.cond_true_left, Bool.cond_false_right, Bool.cond_true_right, Bool.cond_false_left, Bool.or_false, Bool.and_true]
      show u + ((0 : Nat) : Int) = u; omega
  · show u + ((0 : Nat) : Int) ≤ i + 1; omega
  intro j hj
  have hj : u + (j : Int) ≤ (i : Int) + 1 := hj
  by_cases hle : u + (j : Int) ≤ (i : Int)
  · have t1 : termV y (u + (j : Int)) = (u + (j : Int) - 1) / 3 := by rw [hyN]; exact y_term (by omega) (by omega) hle
    have t2 : termOk y (u + (j : Int)) = true := by rw [hyN, y_ok (by omega) (by omega)]; exact decide_eq_true ⟨by omega, hle⟩
    have t3 : behindN y (u + (j : Int)) = behindN (xN i c) (u + (j : Int)) := by rw [hyN]; exact y_behind (by omega) (by omega)
    have t4 : (u + (j : Int) - 1).tdiv 3 = (u + (j : Int) - 1) / 3 := tq1 (by omega)
    have t5 : smallL (behindN (xN i c) (u + (j : Int))) := by
      have := hsm.1
      rw [sm] at this ⊢
      unfold behindN; rw [List.length_drop]; omega
    simp (maxSteps := 10000000) only [go_sem, reduceIte, Nat.reduceBEq, Nat.reduceMul, reduceCtorEq, Nat.reduceAdd, Nat.reduceEqDiff, decide_eq_true_eq, decide_eq_false_iff_not, Bool.not_eq_true', Bool.not_eq_false', Bool.and_eq_true, Bool.or_eq_true, Bool.and_eq_false_iff, Bool.or_eq_false_iff, Bool.cond_true_left, Bool.cond_false_right, Bool.cond_true_right, Bool.cond_false_left, Bool.or_false, Bool.and_true, inR, hle, t1, t2, t3, t4, eqB_self, decide_true, fn48]
    refine ⟨⟨by omega, by omega, by omega⟩, by omega, ⟨by decide, by omega, by omega⟩, by omega, by omega, t5, by rfl, by omega, Again.intro (j + 1) (Ent_of [(9, 9), (12, 12)] rfl ?_ ?_) (show u + ((j + 1 : Nat) : Int) ≤ (i : Int) + 1 by omega) (show ((i : Int) + 1 - (u + ((j + 1 : Nat) : Int))).toNat < ((i : Int) + 1 - (u + (j : Int))).toNat by omega)⟩
    · simp only [go_sem, reduceIte, Nat.reduceBEq, Nat.reduceMul, reduceCtorEq, Nat.reduceAdd, Nat.reduceEqDiff, decide_eq_true_eq, decide_eq_false_iff_not, Bool.not_eq_true', Bool.not_eq_false', Bool.and_eq_true, Bool.or_eq_true, Bool.and_eq_false_iff, Bool.or_eq_false_iff, Bool.cond_true_left, Bool.cond_false_right, Bool.cond_true_right, Bool.cond_false_left, Bool.or_false, Bool.and_true]
    · simp only [go_sem, reduceIte, Nat.reduceBEq, Nat.reduceMul, reduceCtorEq, Nat.reduceAdd, Nat.reduceEqDiff, decide_eq_true_eq, decide_eq_false_iff_not, Bool.not_eq_true', Bool.not_eq_false', Bool.and_eq_true, Bool.or_eq_true, Bool.and_eq_false_iff, Bool.or_eq_false_iff, Bool.cond_true_left, Bool.cond_false_right, Bool.cond_true_right, Bool.cond_false_left, Bool.or_false, Bool.and_true]
      omega
  · simp (maxSteps := 10000000) only [go_sem, reduceIte, Nat.reduceBEq, Nat.reduceMul, reduceCtorEq, Nat.reduceAdd, Nat.reduceEqDiff, decide_eq_true_eq, decide_eq_false_iff_not, Bool.not_eq_true', Bool.not_eq_false', Bool.and_eq_true, Bool.or_eq_true, Bool.and_eq_false_iff, Bool.or_eq_false_iff, Bool.cond_true_left, Bool.cond_false_right, Bool.cond_true_right, Bool.cond_false_left, Bool.or_false, Bool.and_true, inR, hle, decide_false]
    generalize hV : vc _ (C.cut c10_135) _ = V
    refine cut_at hV ⟨[(7, .int .i64 i), (11, .int .i64 u), (12, .ptr 12 0)], [(12, .box (cellsA tNode y []))]⟩ ?_ (Ent_of [(12, 12)] rfl ?_ ?_)
    rotate_left
    · simp only [go_sem, reduceIte, Nat.reduceBEq, Nat.reduceMul, reduceCtorEq, Nat.reduceAdd, Nat.reduceEqDiff, decide_eq_true_eq, decide_eq_false_iff_not, Bool.not_eq_true', Bool.not_eq_false', Bool.and_eq_true, Bool.or_eq_true, Bool.and_eq_false_iff, Bool.or_eq_false_iff, Bool.cond_true_left, Bool.cond_false_right, Bool.cond_true_right, Bool.cond_false_left, Bool.or_false, Bool.and_true]
    · simp only [go_sem, reduceIte, Nat.reduceBEq, Nat.reduceMul, reduceCtorEq, Nat.reduceAdd, Nat.reduceEqDiff, decide_eq_true_eq, decide_eq_false_iff_not, Bool.not_eq_true', Bool.not_eq_false', Bool.and_eq_true, Bool.or_eq_true, Bool.and_eq_false_iff, Bool.or_eq_false_iff, Bool.cond_true_left, Bool.cond_false_right, Bool.cond_true_right, Bool.cond_false_left, Bool.or_false, Bool.and_true]
    clear hV V
    have r1 : termOk y (u - 1) = false := by rw [hyN, y_ok (by omega) (by omega)]; exact decide_eq_false (by omega)
    have r2 : termOk y ((i : Int) + 1) = false := by rw [hyN, y_ok (by omega) (by omega)]; exact decide_eq_false (by omega)
    simp (maxSteps := 10000000) only [c10_135, go_sem, reduceIte, Nat.reduceBEq, Nat.reduceMul, reduceCtorEq, Nat.reduceAdd, Nat.reduceEqDiff, decide_eq_true_eq, decide_eq_false_iff_not, Bool.not_eq_true', Bool.not_eq_false', Bool.and_eq_true, Bool.or_eq_true, Bool.and_eq_false_iff, Bool.or_eq_false_iff, Bool.cond_true_left, Bool.cond_false_right, Bool.cond_true_right, Bool.cond_false_left, Bool.or_false, Bool.and_true, inR, fn48, r1, r2]
    generalize hV : vc _ (C.cut c10_151) _ = V
    have z1 : (wakeN 2 3 (hard y)).2.2.2.2.2.2.2.2.2.2.1 = u := b1
    have z2 : (wakeN 2 3 (hard y)).1 = 2 := rfl
    have z3 : (wakeN 2 3 (hard y)).2.2.2.2.2.2.2.2.1 = 0 := rfl
    have z4 : (wakeN 2 3 (hard y)).2.2.2.2.2.2.2.1 = y.2.2.2.2.2.2.2.1 := rfl
    generalize wakeN 2 3 (hard y) = z at *
    refine ⟨by omega, ⟨by omega, by omega, by omega⟩, by omega, ⟨by omega, by omega, by omega⟩, b8, b8, ?_⟩
    refine cut_at hV ⟨[(11, .int .i64 u), (12, .ptr 12 0), (17, .bool false), (19, .bool false), (20, .ptr 20 0)], [(12, .box (cellsA tNode y [])), (20, .box (cellsA tNode z []))]⟩ ?_ (Ent_of [(12, 12), (20, 20)] rfl ?_ ?_)
    rotate_left
    · simp only [go_sem, reduceIte, Nat.reduceBEq, Nat.reduceMul, reduceCtorEq, Nat.reduceAdd, Nat.reduceEqDiff, decide_eq_true_eq, decide_eq_false_iff_not, Bool.not_eq_true', Bool.not_eq_false', Bool.and_eq_true, Bool.or_eq_true, Bool.and_eq_false_iff, Bool.or_eq_false_iff, Bool.cond_true_left, Bool.cond_false_right, Bool.cond_true_right, Bool.cond_false_left, Bool.or_false, Bool.and_true]
    · simp only [go_sem, reduceIte, Nat.reduceBEq, Nat.reduceMul, reduceCtorEq, Nat.reduceAdd, Nat.reduceEqDiff, decide_eq_true_eq, decide_eq_false_iff_not, Bool.not_eq_true', Bool.not_eq_false', Bool.and_eq_true, Bool.or_eq_true, Bool.and_eq_false_iff, Bool.or_eq_false_iff, Bool.cond_true_left, Bool.cond_false_right, Bool.cond_true_right, Bool.cond_false_left, Bool.or_false, Bool.and_true]
    clear hV
    have q1 : decide (z.2.2.2.2.2.2.2.2.2.2.1 = u) = true := decide_eq_true z1
    have q2 : decide (z.1 = 2) = true := decide_eq_true z2
    have q3 : decide (z.2.2.2.2.2.2.2.2.1 = 0) = true := decide_eq_true z3
    simp (maxSteps := 10000000) only [c10_151, go_sem, reduceIte, Nat.reduceBEq, Nat.reduceMul, reduceCtorEq, Nat.reduceAdd, Nat.reduceEqDiff, decide_eq_true_eq, decide_eq_false_iff_not, Bool.not_eq_true', Bool.not_eq_false', Bool.and_eq_true, Bool.or_eq_true, Bool.and_eq_false_iff, Bool.or_eq_false_iff, Bool.cond_true_left, Bool.cond_false_right, Bool.cond_true_right, Bool.cond_false_left, Bool.or_false, Bool.and_true, inR, q1, q2, q3, z4, eqB_self, decide_true]
    exact b8
end Go.AM
