import Derived.Test.YtbcbgfkojmligaaHY
import Derived.Test.YtbcbgfkojmligaaTZ
/- What functions of the program answer, each under the conditions that its contract names. -/
set_option linter.unusedVariables false
set_option linter.unusedSimpArgs false
set_option maxRecDepth 100000
set_option maxHeartbeats 40000000
set_option linter.unusedSimpArgs false
namespace Go.AM
open Go.Proofs
attribute [local congr] vc_congr evOps_congr evTab_congr bind_congr condK_congr tabK_congr
theorem role_given2 {n : Node} {m : Msg} (h : given2 n m = true) : nRole (given1 n m) = 1 := by
  unfold given2 at h
  unfold given1
  generalize down n (mTerm m) = d at *
  unfold given2' at h
  unfold given1'
  by_cases hc : givenC d m
  · rw [if_pos hc]
    exact hc.2.2.1
  · rw [if_neg hc] at h
    cases h
def fn81 : Fn := { a := .pair tNode (.pair tMsg .unit), r := .pair tNode (.pair (.list tMsg) .unit), pre := fun x => stepOk x.1 ∧ wfR x.1 ∧ (nVotes x.1).length = (nNodes x.1).toNat ∧ smallL (mEntries x.2.1), f := fun x => (step1 x.1 x.2.1, step2 x.1 x.2.1, ()) }
theorem h81  : Holds Try.prog 81 (fn81) := by
  refine Holds.of_vcc (T := [(85, fn85), (39, fn39), (41, fn41), (68, fn68), (75, fn75), (73, fn73)]) (TT := ttL) (rowAt := []) (c := c81) (ros := [.c 4 15, .t 5]) (.cons _ h85 (.cons _ h39 (.cons _ h41 (.cons _ h68 (.cons _ h75 (.cons _ h73 (.nil _))))))) mixed Try.func81 (by decide +kernel) (by rfl) comp81 (by kernel_rfl) rfl rfl (fun h => by cases h) ?_
  rintro ⟨(n : Node), (m : Msg), _⟩ hpre
  simp only [fn81] at hpre ⊢
  simp only [c81, fn85, fn39, fn41, fn68, fn75, fn73, go_sem, reduceIte, Nat.reduceBEq, Nat.reduceMul, reduceCtorEq, Nat.reduceAdd, Nat.reduceEqDiff, decide_eq_true_eq, decide_eq_false_iff_not, Bool.not_eq_true', Bool.not_eq_false', Bool.and_eq_true, Bool.or_eq_true, Bool.and_eq_false_iff, Bool.or_eq_false_iff, Bool.cond_true_left, Bool.cond_false_right, Bool.cond_true_right, Bool.cond_false_left, Bool.or_false, Bool.and_true, inR]
  generalize hV : vc _ (C.cut c81_21) _ = V
  have hL := hpre.1.1
  have hR := hL
  simp only [rgL, rgN, sm] at hR
  obtain ⟨⟨_, _, hat⟩, hwf, hvl, hme⟩ := hpre
  have hw2 := hwf.2
  have hl : last n = nBase n + (nLog n).length := rfl
  have hN : nNodes n = n.2.1 := rfl
  refine ⟨hme, fun h => ?_, fun h => ?_⟩
  · have hn : ¬ (rightB m (nNodes n) = true ∧ mTo m = nId n) := fun hc => by
      rcases h with h | h
      · rw [show rightB m n.2.1 = true from hc.1] at h; cases h
      · exact h hc.2
    exact ⟨(if_neg hn).symm, (if_neg hn).symm⟩
  have e1 : step1 n m = (if mKind m = 1 then asked1 n m else if mKind m = 2 then gv1 n m else if mKind m = 4 then heard1 n m else take1 n m) := if_pos h
  have e2 : step2 n m = (if mKind m = 1 then asked2 n m else if mKind m = 2 then gv2 n m else if mKind m = 4 then heard2 n m else take2 n m) := if_pos h
  rw [e1, e2] at hV
  obtain ⟨_, _, hfr, _, _, hix, _⟩ := rightB_iff.1 h.1
  clear e1 e2 h
  have hg := rgL_given (m := m) hL
  have hgn : nNodes (given1 n m) = nNodes n ∧ nId (given1 n m) = nId n := by
    unfold given1 given1' down
    split <;> split <;> exact ⟨rfl, rfl⟩
  have hrole : given2 n m = true → nRole (given1 n m) = 1 := role_given2
  have hgv1 : gv1 n m = if given2 n m = true then lead1 (given1 n m) else given1 n m := by
    unfold gv1
    by_cases h : given2 n m = true
    · rw [if_pos ⟨h, hrole h⟩, if_pos h]
    · rw [if_neg (fun hc => h hc.1), if_neg h]
  have hgv2 : gv2 n m = if given2 n m = true then lead2 (given1 n m) else [] := by
    unfold gv2
    by_cases h : given2 n m = true
    · rw [if_pos ⟨h, hrole h⟩, if_pos h]
    · rw [if_neg (fun hc => h hc.1), if_neg h]
  rw [hgv1, hgv2] at hV
  refine cut_at hV ⟨[(2, .ptr 2 0), (3, .ptr 3 0), (4, .ptr 4 0)], [(2, .box (cellsA tNode n [])), (3, .box (cellsA tMsg m [])), (4, .box zN)]⟩ ?_ (Ent_of [(2, 2), (3, 3), (4, 4)] rfl ?_ ?_)
  rotate_left
  · simp only [go_sem, reduceIte, Nat.reduceBEq, Nat.reduceMul, reduceCtorEq, Nat.reduceAdd, Nat.reduceEqDiff, decide_eq_true_eq, decide_eq_false_iff_not, Bool.not_eq_true', Bool.not_eq_false', Bool.and_eq_true, Bool.or_eq_true, Bool.and_eq_false_iff, Bool.or_eq_false_iff, Bool.cond_true_left, Bool.cond_false_right, Bool.cond_true_right, Bool.cond_false_left, Bool.or_false, Bool.and_true]
  · simp only [go_sem, reduceIte, Nat.reduceBEq, Nat.reduceMul, reduceCtorEq, Nat.reduceAdd, Nat.reduceEqDiff, decide_eq_true_eq, decide_eq_false_iff_not, Bool.not_eq_true', Bool.not_eq_false', Bool.and_eq_true, Bool.or_eq_true, Bool.and_eq_false_iff, Bool.or_eq_false_iff, Bool.cond_true_left, Bool.cond_false_right, Bool.cond_true_right, Bool.cond_false_left, Bool.or_false, Bool.and_true]
  clear hV V
  simp (maxSteps := 10000000) only [c81_21, go_sem, reduceIte, Nat.reduceBEq, Nat.reduceMul, reduceCtorEq, Nat.reduceAdd, Nat.reduceEqDiff, decide_eq_true_eq, decide_eq_false_iff_not, Bool.not_eq_true', Bool.not_eq_false', Bool.and_eq_true, Bool.or_eq_true, Bool.and_eq_false_iff, Bool.or_eq_false_iff, Bool.cond_true_left, Bool.cond_false_right, Bool.cond_true_right, Bool.cond_false_left, Bool.or_false, Bool.and_true, inR]
  have i1 : InR .i64 (last n) := by rw [inR]; omega
  have hk : okIdx (mIndex m) := ⟨by omega, by omega⟩
  refine ⟨fun h1 => ⟨⟨i1, by omega, by omega, by omega⟩, ?_⟩, fun h1 => ⟨fun h2 => ⟨⟨by omega, by omega, hvl, by omega, by omega⟩, ?_⟩, fun h2 => ⟨fun g3 => ⟨⟨hwf, hat _, by omega, by omega, by omega, by omega, by omega⟩, ?_⟩, fun g3 => ⟨⟨hR.1, hk, hme, by omega, by omega⟩, ?_⟩⟩⟩⟩
  · exact ⟨(if_pos h1).symm, (if_pos h1).symm⟩
  · rw [if_neg h1, if_pos h2, if_neg h1, if_pos h2]
    refine ⟨fun hg0 => ?_, fun hg1 => ⟨⟨hg, by omega, by omega, by omega, by omega⟩, ?_⟩⟩
    · rw [hg0]; exact ⟨rfl, rfl⟩
    · rw [if_pos hg1, if_pos hg1]; exact ⟨rfl, rfl⟩
  · rw [if_neg h1, if_neg h2, if_pos g3, if_neg h1, if_neg h2, if_pos g3]; exact ⟨rfl, rfl⟩
  · rw [if_neg h1, if_neg h2, if_neg g3, if_neg h1, if_neg h2, if_neg g3]; exact ⟨rfl, rfl⟩
end Go.AM

set_option maxRecDepth 100000
set_option maxHeartbeats 40000000
set_option linter.unusedSimpArgs false
namespace Go.AM
open Go.Proofs
attribute [local congr] vc_congr evOps_congr evTab_congr bind_congr condK_congr tabK_congr
theorem made_clock (l : List Int) (id nodes : Int) : 0 ≤ nClock (made l id nodes) ∧ nClock (made l id nodes) ≤ 30 := by
  unfold made
  have hf : ∀ (l : List Int) (n : Node), (0 ≤ nClock n ∧ nClock n ≤ 30) → (0 ≤ nClock (l.foldl madeStep n) ∧ nClock (l.foldl madeStep n) ≤ 30) := by
    intro l
    induction l with
    | nil => intro n h; exact h
    | cons v l ih =>
      intro n h
      refine ih _ ?_
      unfold madeStep
      split
      · exact h
      split
      · exact h
      split
      · unfold cutN; split <;> exact h
      split
      · exact h
      split
      · exact h
      split
      · have h1 := Int.emod_nonneg (mkK v / 12) (show (30 : Int) ≠ 0 by decide)
        have h2 := Int.emod_lt_of_pos (mkK v / 12) (show (0 : Int) < 30 by decide)
        show 0 ≤ mkK v / 12 % 30 ∧ mkK v / 12 % 30 ≤ 30
        omega
      · exact h
  exact hf _ _ (by show (0 : Int) ≤ 0 ∧ (0 : Int) ≤ 30; decide)
theorem nextsOk_MX {n : Node} (h : MX n) : nextsOk n := fun v hv => by have := h.1 v hv; omega
theorem small_lead {n : Node} (h : rgL n) (hs : smallN n) : smallN (lead1 n) := lead1_small h hs.2.1
theorem tick1_small {n : Node} (h : rgL n) (hs : smallN n) : smallN (tick1 n) := by
  unfold tick1
  split
  · exact hs
  split
  · exact hs
  have h1 : smallN (start1 (setClock n (nClock n + 1))) := small_start (n := setClock n (nClock n + 1)) hs
  split
  · exact small_lead (rgL_start (n := setClock n (nClock n + 1)) h) h1
  · exact h1
def smallMs (l : List Msg) : Prop := smallL l ∧ ∀ m ∈ l, smallL (mEntries m)
theorem smallMs_nil : smallMs [] := ⟨Nat.zero_le _, fun m hm => by cases hm⟩
theorem tick2_small (n : Node) : smallMs (tick2 n) := by
  unfold tick2
  split
  · exact others_small _
  split
  · exact smallMs_nil
  have h1 := start2_small (setClock n (nClock n + 1))
  split
  · have h2 : smallMs (lead2 (start1 (setClock n (nClock n + 1)))) := others_small _
    have g3 : (lead2 (start1 (setClock n (nClock n + 1)))).length ≤ 5 := others_len _
    have g4 := start2_len (setClock n (nClock n + 1))
    refine ⟨by rw [sm, List.length_append]; omega, fun m hm => ?_⟩
    rcases List.mem_append.1 hm with hm | hm
    · exact h1.2 m hm
    · exact h2.2 m hm
  · exact h1
theorem step1_small {n : Node} {m : Msg} (h : rgL n) (hl : (nLog n).length ≤ 1000000) (hs : smallN n) : smallN (step1 n m) := by
  unfold step1
  split
  · rename_i hr
    have he : (mEntries m).length ≤ 20 := (right_bd hr.1).2.2.2
    split
    · exact small_asked hs
    split
    · unfold gv1
      split
      · exact small_lead (rgL_given h) (small_given hs)
      · exact small_given hs
    split
    · exact small_heard m hs
    · exact small_take hs hl he
  · exact hs
theorem step2_small (n : Node) (m : Msg) : smallMs (step2 n m) := by
  unfold step2
  split
  · split
    · exact asked2_small n m
    split
    · unfold gv2
      split
      · exact others_small _
      · exact smallMs_nil
    split
    · exact heard2_small n m
    · exact take2_small n m
  · exact smallMs_nil
theorem prop1_small {n : Node} {cmd : ByteArray} (h : rgL n) (hs : smallN n) : smallN (prop1 n cmd) := by
  unfold prop1
  split
  · have ha := rgN_addE h cmd
    unfold moreN ownM
    refine small_adv ⟨ha.2.2.2.2.1, hs.2.1, hs.2.2.1, ?_⟩
    show smallL (putL _ _ _)
    rw [sm, putL_len]
    exact hs.2.2.2
  · exact hs
theorem prop2_small (n : Node) (cmd : ByteArray) : smallMs (prop2 n cmd) := by
  unfold prop2
  split
  · exact others_small _
  · exact smallMs_nil
def raftNumbersFn : Fn := { a := .pair (.list tI) (.pair tI (.pair tI (.pair tI (.pair tI (.pair (.list tI) (.pair .str .unit)))))), r := .pair .bool .unit, pre := fun _ => True, f := fun _ => (true, ()) }
theorem h18  : Holds Try.prog 18 (raftNumbersFn) := by
  refine Holds.of_vcc (T := [(76, fn76), (22, fn22), (77, fn77), (78, fn78), (79, fn79), (80, fn80), (81, fn81), (82, fn82), (83, fn83), (33, fn33), (42, fn42), (84, fn84), (85, fn85)]) (TT := ttL) (rowAt := []) (c := c18) (ros := [.t 14]) (.cons _ h76 (.cons _ h22 (.cons _ h77 (.cons _ h78 (.cons _ h79 (.cons _ h80 (.cons _ h81 (.cons _ h82 (.cons _ h83 (.cons _ h33 (.cons _ h42 (.cons _ h84 (.cons _ h85 (.nil _)))))))))))))) mixed Try.func18 (by decide +kernel) (by rfl) comp18 (by kernel_rfl) rfl rfl (fun h => by cases h) ?_
  rintro ⟨(l : List Int), (id : Int), (nodes : Int), (v : Int), (w : Int), (es : List Int), (cmd : ByteArray), _⟩ hpre
  simp only [raftNumbersFn] at hpre ⊢
  simp only [c18, fn76, fn22, fn77, fn78, fn79, fn80, fn81, fn82, fn83, fn33, fn42, fn84, fn85, go_sem, reduceIte, Nat.reduceBEq, Nat.reduceMul, reduceCtorEq, Nat.reduceAdd, Nat.reduceEqDiff, decide_eq_true_eq, decide_eq_false_iff_not, Bool.not_eq_true', Bool.not_eq_false', Bool.and_eq_true, Bool.or_eq_true, Bool.and_eq_false_iff, Bool.or_eq_false_iff, Bool.cond_true_left, Bool.cond_false_right, Bool.cond_true_right, Bool.cond_false_left, Bool.or_false, Bool.and_true, inR, fn24]
  generalize hV : vc _ (C.cut c18_39) _ = V
  intro _
  have hM := MI_made l id nodes
  have hX := MX_made l id nodes
  have hC := made_clock l id nodes
  generalize made l id nodes = n at *
  refine cut_at hV ⟨[(3, .int .i64 v), (4, .int .i64 w), (5, .sl tI es false), (6, .str cmd), (15, .ptr 15 0)], [(15, .box (cellsA tNode n []))]⟩ ?_ (Ent_of [(15, 15)] rfl ?_ ?_)
  rotate_left
  · simp only [go_sem, reduceIte, Nat.reduceBEq, Nat.reduceMul, reduceCtorEq, Nat.reduceAdd, Nat.reduceEqDiff, decide_eq_true_eq, decide_eq_false_iff_not, Bool.not_eq_true', Bool.not_eq_false', Bool.and_eq_true, Bool.or_eq_true, Bool.and_eq_false_iff, Bool.or_eq_false_iff, Bool.cond_true_left, Bool.cond_false_right, Bool.cond_true_right, Bool.cond_false_left, Bool.or_false, Bool.and_true]
  · simp only [go_sem, reduceIte, Nat.reduceBEq, Nat.reduceMul, reduceCtorEq, Nat.reduceAdd, Nat.reduceEqDiff, decide_eq_true_eq, decide_eq_false_iff_not, Bool.not_eq_true', Bool.not_eq_false', Bool.and_eq_true, Bool.or_eq_true, Bool.and_eq_false_iff, Bool.or_eq_false_iff, Bool.cond_true_left, Bool.cond_false_right, Bool.cond_true_right, Bool.cond_false_left, Bool.or_false, Bool.and_true]
  clear hV V
  simp (maxSteps := 10000000) only [c18_39, fn24, go_sem, reduceIte, Nat.reduceBEq, Nat.reduceMul, reduceCtorEq, Nat.reduceAdd, Nat.reduceEqDiff, decide_eq_true_eq, decide_eq_false_iff_not, Bool.not_eq_true', Bool.not_eq_false', Bool.and_eq_true, Bool.or_eq_true, Bool.and_eq_false_iff, Bool.or_eq_false_iff, Bool.cond_true_left, Bool.cond_false_right, Bool.cond_true_right, Bool.cond_false_left, Bool.or_false, Bool.and_true, inR]
  generalize hV : vc _ (C.cut c18_45) _ = V
  have hwf := wf_of_MI hM (by decide)
  have hsm := small_MI hM (by decide)
  have hM2 := hM
  simp only [MI] at hM2
  have hlast : last n = nBase n + (nLog n).length := rfl
  have hrg : rgN n := by simp only [rgN, sm]; omega
  have hrl : rgL n := ⟨hrg, by omega, by omega⟩
  have hwR : wfR n := ⟨hrg, hM2.1, hM2.2.1, hM2.2.2.1, hM2.2.2.2.1, by omega, by omega⟩
  have hnx : nextsOk n := nextsOk_MX hX
  have hat : ∀ i, okAt n i := okAt_MX hX
  have hll : (nLog n).length ≤ 1000000 := by omega
  have hme : (mEntries (message v w n es)).length ≤ 20 := by
    show (ite _ _ _ : List E).length ≤ 20
    split
    · exact entries_len _ _
    · exact Nat.zero_le _
  generalize message v w n es = m at *
  have hmes : smallL (mEntries m) := by rw [sm]; omega
  have hb : InR .i64 (nNodes n - 1) := by rw [inR]; omega
  refine ⟨hwf, ?_⟩
  refine cut_at hV ⟨[(6, .str cmd), (15, .ptr 15 0), (16, .ptr 16 0)], [(15, .box (cellsA tNode n [])), (16, .box (cellsA tMsg m []))]⟩ ?_ (Ent_of [(15, 15), (16, 16)] rfl ?_ ?_)
  rotate_left
  · simp only [go_sem, reduceIte, Nat.reduceBEq, Nat.reduceMul, reduceCtorEq, Nat.reduceAdd, Nat.reduceEqDiff, decide_eq_true_eq, decide_eq_false_iff_not, Bool.not_eq_true', Bool.not_eq_false', Bool.and_eq_true, Bool.or_eq_true, Bool.and_eq_false_iff, Bool.or_eq_false_iff, Bool.cond_true_left, Bool.cond_false_right, Bool.cond_true_right, Bool.cond_false_left, Bool.or_false, Bool.and_true]
  · simp only [go_sem, reduceIte, Nat.reduceBEq, Nat.reduceMul, reduceCtorEq, Nat.reduceAdd, Nat.reduceEqDiff, decide_eq_true_eq, decide_eq_false_iff_not, Bool.not_eq_true', Bool.not_eq_false', Bool.and_eq_true, Bool.or_eq_true, Bool.and_eq_false_iff, Bool.or_eq_false_iff, Bool.cond_true_left, Bool.cond_false_right, Bool.cond_true_right, Bool.cond_false_left, Bool.or_false, Bool.and_true]
  clear hV V
  simp (maxSteps := 10000000) only [c18_45, go_sem, reduceIte, Nat.reduceBEq, Nat.reduceMul, reduceCtorEq, Nat.reduceAdd, Nat.reduceEqDiff, decide_eq_true_eq, decide_eq_false_iff_not, Bool.not_eq_true', Bool.not_eq_false', Bool.and_eq_true, Bool.or_eq_true, Bool.and_eq_false_iff, Bool.or_eq_false_iff, Bool.cond_true_left, Bool.cond_false_right, Bool.cond_true_right, Bool.cond_false_left, Bool.or_false, Bool.and_true, inR]
  generalize hV : vc _ (C.cut c18_55) _ = V
  have ha := tick1_small hrl hsm
  have hal := tick2_small n
  have hvs : smallL (nVotes n) := hsm.2.1
  have hln := step1_small (m := m) hrl hll hsm
  have hls := step2_small n m
  have hpn := prop1_small (cmd := cmd) hrl hsm
  have hps := prop2_small n cmd
  generalize tick1 n = a at *
  generalize tick2 n = al at *
  refine ⟨⟨hrl, hnx, by omega, by omega, by omega, by omega, by omega, by omega⟩, ⟨hrl, hwR, hnx, by omega, by omega, by omega, by omega⟩, ?_⟩
  refine cut_at hV ⟨[(6, .str cmd), (15, .ptr 15 0), (16, .ptr 16 0), (17, .ptr 17 0), (18, .own 14601 0 al.length), (19, .ptr 19 0), (20, .own 15101 0 al.length)], [(15, .box (cellsA tNode n [])), (16, .box (cellsA tMsg m [])), (17, .box (cellsA tNode a [])), (19, .box (cellsA tNode a [])), (14601, .row tMsg al false), (15101, .row tMsg al false)]⟩ ?_ (Ent_of [(15, 15), (16, 16), (17, 17), (19, 19), (14601, 14601), (15101, 15101)] rfl ?_ ?_)
  rotate_left
  · simp only [go_sem, reduceIte, Nat.reduceBEq, Nat.reduceMul, reduceCtorEq, Nat.reduceAdd, Nat.reduceEqDiff, decide_eq_true_eq, decide_eq_false_iff_not, Bool.not_eq_true', Bool.not_eq_false', Bool.and_eq_true, Bool.or_eq_true, Bool.and_eq_false_iff, Bool.or_eq_false_iff, Bool.cond_true_left, Bool.cond_false_right, Bool.cond_true_right, Bool.cond_false_left, Bool.or_false, Bool.and_true]
  · simp only [go_sem, reduceIte, Nat.reduceBEq, Nat.reduceMul, reduceCtorEq, Nat.reduceAdd, Nat.reduceEqDiff, decide_eq_true_eq, decide_eq_false_iff_not, Bool.not_eq_true', Bool.not_eq_false', Bool.and_eq_true, Bool.or_eq_true, Bool.and_eq_false_iff, Bool.or_eq_false_iff, Bool.cond_true_left, Bool.cond_false_right, Bool.cond_true_right, Bool.cond_false_left, Bool.or_false, Bool.and_true]
  clear hV V
  simp (maxSteps := 10000000) only [c18_55, go_sem, reduceIte, Nat.reduceBEq, Nat.reduceMul, reduceCtorEq, Nat.reduceAdd, Nat.reduceEqDiff, decide_eq_true_eq, decide_eq_false_iff_not, Bool.not_eq_true', Bool.not_eq_false', Bool.and_eq_true, Bool.or_eq_true, Bool.and_eq_false_iff, Bool.or_eq_false_iff, Bool.cond_true_left, Bool.cond_false_right, Bool.cond_true_right, Bool.cond_false_left, Bool.or_false, Bool.and_true, inR]
  generalize hV : vc _ (C.cut c18_67) _ = V
  generalize step1 n m = c at *
  generalize step2 n m = cl at *
  refine ⟨⟨hrl, hvs, hat⟩, ⟨⟨hrl, hvs, hat⟩, hwR, by omega, hmes⟩, ?_⟩
  refine cut_at hV ⟨[(6, .str cmd), (15, .ptr 15 0), (16, .ptr 16 0), (17, .ptr 17 0), (18, .own 14601 0 al.length), (19, .ptr 19 0), (20, .own 15101 0 al.length), (21, .ptr 21 0), (22, .sl tMsg cl false), (23, .ptr 23 0), (24, .sl tMsg cl false)], [(15, .box (cellsA tNode n [])), (16, .box (cellsA tMsg m [])), (17, .box (cellsA tNode a [])), (19, .box (cellsA tNode a [])), (21, .box (cellsA tNode c [])), (23, .box (cellsA tNode c [])), (14601, .row tMsg al false), (15101, .row tMsg al false)]⟩ ?_ (Ent_of [(15, 15), (16, 16), (17, 17), (19, 19), (21, 21), (23, 23), (14601, 14601), (15101, 15101)] rfl ?_ ?_)
  rotate_left
  · simp only [go_sem, reduceIte, Nat.reduceBEq, Nat.reduceMul, reduceCtorEq, Nat.reduceAdd, Nat.reduceEqDiff, decide_eq_true_eq, decide_eq_false_iff_not, Bool.not_eq_true', Bool.not_eq_false', Bool.and_eq_true, Bool.or_eq_true, Bool.and_eq_false_iff, Bool.or_eq_false_iff, Bool.cond_true_left, Bool.cond_false_right, Bool.cond_true_right, Bool.cond_false_left, Bool.or_false, Bool.and_true]
  · simp only [go_sem, reduceIte, Nat.reduceBEq, Nat.reduceMul, reduceCtorEq, Nat.reduceAdd, Nat.reduceEqDiff, decide_eq_true_eq, decide_eq_false_iff_not, Bool.not_eq_true', Bool.not_eq_false', Bool.and_eq_true, Bool.or_eq_true, Bool.and_eq_false_iff, Bool.or_eq_false_iff, Bool.cond_true_left, Bool.cond_false_right, Bool.cond_true_right, Bool.cond_false_left, Bool.or_false, Bool.and_true]
  clear hV V
  simp (maxSteps := 10000000) only [c18_67, go_sem, reduceIte, Nat.reduceBEq, Nat.reduceMul, reduceCtorEq, Nat.reduceAdd, Nat.reduceEqDiff, decide_eq_true_eq, decide_eq_false_iff_not, Bool.not_eq_true', Bool.not_eq_false', Bool.and_eq_true, Bool.or_eq_true, Bool.and_eq_false_iff, Bool.or_eq_false_iff, Bool.cond_true_left, Bool.cond_false_right, Bool.cond_true_right, Bool.cond_false_left, Bool.or_false, Bool.and_true, inR]
  generalize hV : vc _ (C.cut c18_80) _ = V
  generalize prop1 n cmd = p at *
  generalize prop2 n cmd = pl at *
  generalize prop3 n = p3 at *
  refine ⟨⟨hrl, hnx⟩, ⟨hwR, hrl, hnx⟩, ?_⟩
  refine cut_at hV ⟨[(15, .ptr 15 0), (16, .ptr 16 0), (17, .ptr 17 0), (18, .own 14601 0 al.length), (19, .ptr 19 0), (20, .own 15101 0 al.length), (21, .ptr 21 0), (22, .sl tMsg cl false), (23, .ptr 23 0), (24, .sl tMsg cl false), (25, .ptr 25 0), (26, .own 16901 0 pl.length), (27, .int .i64 p3), (28, .ptr 28 0), (29, .own 17601 0 pl.length), (30, .int .i64 p3)], [(15, .box (cellsA tNode n [])), (16, .box (cellsA tMsg m [])), (17, .box (cellsA tNode a [])), (19, .box (cellsA tNode a [])), (21, .box (cellsA tNode c [])), (23, .box (cellsA tNode c [])), (25, .box (cellsA tNode p [])), (28, .box (cellsA tNode p [])), (14601, .row tMsg al false), (15101, .row tMsg al false), (16901, .row tMsg pl false), (17601, .row tMsg pl false)]⟩ ?_ (Ent_of [(15, 15), (16, 16), (17, 17), (19, 19), (21, 21), (23, 23), (25, 25), (28, 28), (14601, 14601), (15101, 15101), (16901, 16901), (17601, 17601)] rfl ?_ ?_)
  rotate_left
  · simp only [go_sem, reduceIte, Nat.reduceBEq, Nat.reduceMul, reduceCtorEq, Nat.reduceAdd, Nat.reduceEqDiff, decide_eq_true_eq, decide_eq_false_iff_not, Bool.not_eq_true', Bool.not_eq_false', Bool.and_eq_true, Bool.or_eq_true, Bool.and_eq_false_iff, Bool.or_eq_false_iff, Bool.cond_true_left, Bool.cond_false_right, Bool.cond_true_right, Bool.cond_false_left, Bool.or_false, Bool.and_true]
  · simp only [go_sem, reduceIte, Nat.reduceBEq, Nat.reduceMul, reduceCtorEq, Nat.reduceAdd, Nat.reduceEqDiff, decide_eq_true_eq, decide_eq_false_iff_not, Bool.not_eq_true', Bool.not_eq_false', Bool.and_eq_true, Bool.or_eq_true, Bool.and_eq_false_iff, Bool.or_eq_false_iff, Bool.cond_true_left, Bool.cond_false_right, Bool.cond_true_right, Bool.cond_false_left, Bool.or_false, Bool.and_true]
  clear hV V
  simp (maxSteps := 10000000) only [c18_80, go_sem, reduceIte, Nat.reduceBEq, Nat.reduceMul, reduceCtorEq, Nat.reduceAdd, Nat.reduceEqDiff, decide_eq_true_eq, decide_eq_false_iff_not, Bool.not_eq_true', Bool.not_eq_false', Bool.and_eq_true, Bool.or_eq_true, Bool.and_eq_false_iff, Bool.or_eq_false_iff, Bool.cond_true_left, Bool.cond_false_right, Bool.cond_true_right, Bool.cond_false_left, Bool.or_false, Bool.and_true, inR, eqB_self, decide_true]
  exact ⟨ha, hal, hln, hls, hpn, hps, by rw [inR] at hb; exact hb, hmes, by decide +kernel, beq_self_eq_true _⟩
end Go.AM
