import Derived.Test.YtbcbgfkojmligaaHQ
import Derived.Test.YtbcbgfkojmligaaTR
/- What functions of the program answer, each under the conditions that its contract names. -/
set_option linter.unusedVariables false
set_option linter.unusedSimpArgs false
set_option maxRecDepth 100000
set_option maxHeartbeats 8000000
set_option linter.unusedSimpArgs false
namespace Go.AM
open Go.Proofs
attribute [local congr] vc_congr evOps_congr evTab_congr bind_congr condK_congr tabK_congr
def MX (n : Node) : Prop := (∀ v ∈ nNext n, (0 : Int) ≤ v ∧ v ≤ 1000) ∧ (∀ v ∈ nMatch n, (0 : Int) ≤ v ∧ v ≤ 1000)
theorem MX_new (id nodes : Int) : MX (newN id nodes) :=
  ⟨fun w hw => by have := List.eq_of_mem_replicate hw; rw [this]; decide, fun w hw => by have := List.eq_of_mem_replicate hw; rw [this]; decide⟩
theorem MX_step (n : Node) (v : Int) (hM : MI 40 n) (h : MX n) : MX (madeStep n v) := by
  have hl : 0 ≤ last n ∧ last n ≤ 40 := by simp only [MI] at hM; omega
  have g5 := Int.emod_nonneg (mkK v / 60) (show last n + 2 ≠ 0 by omega)
  have g6 := Int.emod_lt_of_pos (mkK v / 60) (show 0 < last n + 2 by omega)
  have g7 := Int.emod_nonneg (mkK v / 600) (show last n + 1 ≠ 0 by omega)
  have g8 := Int.emod_lt_of_pos (mkK v / 600) (show 0 < last n + 1 by omega)
  unfold madeStep
  split
  · exact h
  split
  · exact h
  split
  · unfold cutN
    split
    · exact h
    · exact h
  split
  · exact h
  split
  · refine ⟨fun w hw => ?_, fun w hw => ?_⟩
    · rcases List.mem_or_eq_of_mem_set hw with hw | hw
      · exact h.1 w hw
      · rw [hw]; omega
    · rcases List.mem_or_eq_of_mem_set hw with hw | hw
      · exact h.2 w hw
      · rw [hw]; omega
  split
  · exact h
  · exact h
theorem MX_made (l : List Int) (id nodes : Int) : MX (made l id nodes) := by
  unfold made
  have hf : ∀ (l : List Int) (i : Nat) (n : Node), i + l.length ≤ 40 → MI i n → MX n → MX (l.foldl madeStep n) := by
    intro l
    induction l with
    | nil => intro i n _ _ h; exact h
    | cons v l ih =>
      intro i n hi hM h
      rw [List.length_cons] at hi
      exact ih (i + 1) _ (by omega) (MI_step i n v hM) (MX_step n v (by simp only [MI] at hM ⊢; omega) h)
  exact hf _ 0 _ (by rw [List.length_take]; omega) (MI_new id nodes) (MX_new id nodes)
theorem okAt_MX {n : Node} (h : MX n) (i : Int) : okAt n i := by
  refine ⟨?_, ?_⟩
  · rcases atL_mem (l := nNext n) (i := i) with h1 | h1
    · rw [h1]; unfold okS; decide
    · have := h.1 _ h1; unfold okS; omega
  · rcases atL_mem (l := nMatch n) (i := i) with h1 | h1
    · rw [h1]; unfold okS; decide
    · have := h.2 _ h1; unfold okS; omega
def smallM (m : Msg) : Prop := smallL (mEntries m)
theorem send_small (n : Node) (to : Int) : smallL (mEntries (sendM n to)) := by
  unfold sendM; split
  · exact Nat.zero_le _
  · rw [sm]; show (List.take 20 _).length ≤ _
    rw [List.length_take]; omega
theorem others_small (n : Node) : smallL (othersN n) ∧ ∀ m ∈ othersN n, smallL (mEntries m) := by
  have hq : (nodesN n).toNat ≤ 5 := by unfold nodesN; omega
  refine ⟨?_, fun m hm => ?_⟩
  · have := sendsN_len n (nodesN n).toNat
    rw [sm]; unfold othersN; omega
  · unfold othersN sendsN at hm
    obtain ⟨j, _, rfl⟩ := List.mem_map.1 hm
    exact send_small n j
theorem heard2_small (n : Node) (m : Msg) : smallL (heard2 n m) ∧ ∀ x ∈ heard2 n m, smallL (mEntries x) := by
  have one : ∀ a to, smallL [sendM a to] ∧ ∀ x ∈ [sendM a to], smallL (mEntries x) := fun a to =>
    ⟨by rw [sm]; show 1 ≤ _; decide, fun x hx => by rw [List.mem_singleton.1 hx]; exact send_small a to⟩
  have none_ : smallL ([] : List Msg) ∧ ∀ x ∈ ([] : List Msg), smallL (mEntries x) := ⟨Nat.zero_le _, fun x hx => by cases hx⟩
  unfold heard2 heard2'
  split
  · split
    · split
      · exact one _ _
      · exact none_
    · exact one _ _
  · exact none_
theorem take2_small (n : Node) (m : Msg) : smallL (take2 n m) ∧ ∀ x ∈ take2 n m, smallL (mEntries x) := by
  have one : ∀ a b y i, smallL (takenM a b y i) ∧ ∀ x ∈ takenM a b y i, smallL (mEntries x) := fun a b y i =>
    ⟨by rw [sm]; show 1 ≤ _; decide, fun x hx => by rw [List.mem_singleton.1 hx]; exact Nat.zero_le _⟩
  unfold take2 take2'
  split
  · exact one _ _ _ _
  split
  · exact one _ _ _ _
  split
  · exact one _ _ _ _
  split
  · exact one _ _ _ _
  · exact one _ _ _ _
theorem small_adv {n : Node} (h : smallN n) : smallN (adv n) := by unfold adv; split <;> exact h
theorem small_heard {n : Node} (m : Msg) (h : smallN n) : smallN (heard1 n m) := by
  have hd := small_down (mTerm m) h
  unfold heard1
  generalize down n (mTerm m) = d at *
  unfold heard1'
  split
  · split
    · unfold got1
      refine small_adv ⟨hd.1, hd.2.1, ?_, ?_⟩
      · rw [sm]; show (putL _ _ _).length ≤ _; rw [putL_len]; exact hd.2.2.1
      · rw [sm]; show (putL _ _ _).length ≤ _; rw [putL_len]; exact hd.2.2.2
    · refine ⟨hd.1, hd.2.1, ?_, hd.2.2.2⟩
      rw [sm]; show (putL _ _ _).length ≤ _; rw [putL_len]; exact hd.2.2.1
  · exact hd
theorem put'_le2 (m : List E) : ∀ (l : List E) (k : Nat), k ≤ m.length → (put' m k l).length ≤ max m.length (k + l.length) := by
  intro l
  induction l with
  | nil => intro k hk; show m.length ≤ _; omega
  | cons e l ih =>
    intro k hk
    unfold put'
    rw [List.length_cons]
    split
    · rename_i he
      have hlt : k < m.length := by
        rcases Nat.lt_or_ge k m.length with h1 | h1
        · exact h1
        · rw [List.getElem?_eq_none h1] at he; cases he
      have := ih (k + 1) hlt
      omega
    · rw [List.length_append, List.length_take, List.length_cons]; omega
theorem put_small {n : Node} {p : Int} {e : List E} (h : smallN n) (hl : (nLog n).length ≤ 1000000) (he : e.length ≤ 20) : smallN (put n p e) := by
  unfold put; split
  · exact h
  · rename_i hc
    refine ⟨?_, h.2.1, h.2.2.1, h.2.2.2⟩
    have := put'_le2 (nLog n) e (p - nBase n).toNat (by have hll : last n = nBase n + (nLog n).length := rfl; omega)
    rw [sm]; show (put' _ _ _).length ≤ _
    have hll : last n = nBase n + (nLog n).length := rfl
    omega
theorem small_take {n : Node} {m : Msg} (h : smallN n) (hl : (nLog n).length ≤ 1000000) (he : (mEntries m).length ≤ 20) : smallN (take1 n m) := by
  have hd := small_down (mTerm m) h
  have hdl : (nLog (down n (mTerm m))).length ≤ 1000000 := by
    have : nLog (down n (mTerm m)) = nLog n := by unfold down; split <;> rfl
    rw [this]; exact hl
  unfold take1
  generalize down n (mTerm m) = d at *
  unfold take1'
  split
  · exact hd
  split
  · unfold inst1
    split
    · exact hd
    · refine ⟨?_, hd.2.1, hd.2.2.1, hd.2.2.2⟩
      rw [sm]; show (keepLog _ _).length ≤ _
      unfold keepLog; split
      · unfold behindN; rw [List.length_drop]
        have : (nLog (foll d m)).length ≤ 1000000 := hdl
        omega
      · exact Nat.zero_le _
  split
  · exact hd
  · exact put_small (n := foll d m) hd hdl he
def withKind (m : Msg) (k : Int) : Msg := mkM k (mFrom m) (mTo m) (mTerm m) (mIndex m) (mAt m) (mYes m) (mCommit m) (mEntries m) (mSnap m)
def replNumbersFn : Fn := { a := .pair (.list tI) (.pair tI (.pair tI (.pair tI (.pair tI (.pair (.list tI) (.pair tI .unit)))))), r := .pair .bool .unit, pre := fun _ => True, f := fun _ => (true, ()) }
theorem h14  : Holds Try.prog 14 (replNumbersFn) := by
  refine Holds.of_vcc (T := [(22, fn22), (66, fn66), (23, fn23), (67, fn67), (68, fn68), (33, fn33), (42, fn42), (70, fn70), (71, fn71), (69, fn69), (56, fn56), (72, fn72), (65, fn65), (73, fn73), (74, fn74), (75, fn75), (57, fn57)]) (TT := ttL) (rowAt := []) (c := c14) (ros := [.t 14]) (.cons _ h22 (.cons _ h66 (.cons _ h23 (.cons _ h67 (.cons _ h68 (.cons _ h33 (.cons _ h42 (.cons _ h70 (.cons _ h71 (.cons _ h69 (.cons _ h56 (.cons _ h72 (.cons _ h65 (.cons _ h73 (.cons _ h74 (.cons _ h75 (.cons _ h57 (.nil _)))))))))))))))))) mixed Try.func14 (by decide +kernel) (by rfl) comp14 (by kernel_rfl) rfl rfl (fun h => by cases h) ?_
  rintro ⟨(l : List Int), (id : Int), (nodes : Int), (v : Int), (w : Int), (es : List Int), (to : Int), _⟩ hpre
  simp only [replNumbersFn] at hpre ⊢
  simp only [c14, fn22, fn66, fn23, fn67, fn68, fn33, fn42, fn70, fn71, fn69, fn56, fn72, fn65, fn73, fn74, fn75, fn57, go_sem, reduceIte, Nat.reduceBEq, Nat.reduceMul, reduceCtorEq, Nat.reduceAdd, Nat.reduceEqDiff, decide_eq_true_eq, decide_eq_false_iff_not, Bool.not_eq_true', Bool.not_eq_false', Bool.and_eq_true, Bool.or_eq_true, Bool.and_eq_false_iff, Bool.or_eq_false_iff, Bool.cond_true_left, Bool.cond_false_right, Bool.cond_true_right, Bool.cond_false_left, Bool.or_false, Bool.and_true, inR, fn23, fn66, fn24, p19]
  generalize hV : vc _ (C.cut c14_44) _ = V
  have hM := MI_made l id nodes
  have hX := MX_made l id nodes
  generalize made l id nodes = n at *
  have hwf := wf_of_MI hM (by decide)
  have hsm := small_MI hM (by decide)
  have hM2 := hM
  simp only [MI] at hM2
  have hlast : last n = nBase n + (nLog n).length := rfl
  have hrg : rgN n := by simp only [rgN, sm]; omega
  have hrl : rgL n := ⟨hrg, by omega, by omega⟩
  have hwR : wfR n := ⟨hrg, hM2.1, hM2.2.1, hM2.2.2.1, hM2.2.2.2.1, by omega, by omega⟩
  have hmf := message_from v w n es hM2.1
  have hmt := message_term v w n es
  have hmi : 0 ≤ mIndex (message v w n es) ∧ mIndex (message v w n es) ≤ 1000 := by
    show 0 ≤ max (last n - 3 + w % 1073741824 % 6) 0 ∧ max (last n - 3 + w % 1073741824 % 6) 0 ≤ 1000
    omega
  have hmk : 1 ≤ mKind (message v w n es) := by show 1 ≤ 1 + v % 1073741824 % 5; omega
  have hme : (mEntries (message v w n es)).length ≤ 20 := by
    show (ite _ _ _ : List E).length ≤ 20
    split
    · exact entries_len _ _
    · exact Nat.zero_le _
  generalize message v w n es = m at *
  have ht0 := Int.emod_nonneg to (show nNodes n ≠ 0 by omega)
  have ht1 := Int.emod_lt_of_pos to (show 0 < nNodes n by omega)
  have e1 : n.2.1 = nNodes n := rfl
  generalize hq : (to % nNodes n : Int) = t at *
  refine ⟨hwf, show 0 < nNodes n ∧ nNodes n ≤ 1099511627776 from by omega, ?_⟩
  refine cut_at hV ⟨[(15, .ptr 15 0), (16, .ptr 16 0), (17, .int .i64 t)], [(15, .box (cellsA tNode n [])), (16, .box (cellsA tMsg m []))]⟩ ?_ (Ent_of [(15, 15), (16, 16)] rfl ?_ ?_)
  rotate_left
  · simp only [go_sem, reduceIte, Nat.reduceBEq, Nat.reduceMul, reduceCtorEq, Nat.reduceAdd, Nat.reduceEqDiff, decide_eq_true_eq, decide_eq_false_iff_not, Bool.not_eq_true', Bool.not_eq_false', Bool.and_eq_true, Bool.or_eq_true, Bool.and_eq_false_iff, Bool.or_eq_false_iff, Bool.cond_true_left, Bool.cond_false_right, Bool.cond_true_right, Bool.cond_false_left, Bool.or_false, Bool.and_true]
  · simp only [go_sem, reduceIte, Nat.reduceBEq, Nat.reduceMul, reduceCtorEq, Nat.reduceAdd, Nat.reduceEqDiff, decide_eq_true_eq, decide_eq_false_iff_not, Bool.not_eq_true', Bool.not_eq_false', Bool.and_eq_true, Bool.or_eq_true, Bool.and_eq_false_iff, Bool.or_eq_false_iff, Bool.cond_true_left, Bool.cond_false_right, Bool.cond_true_right, Bool.cond_false_left, Bool.or_false, Bool.and_true]
  clear hV V hq
  simp (maxSteps := 10000000) only [c14_44, go_sem, reduceIte, Nat.reduceBEq, Nat.reduceMul, reduceCtorEq, Nat.reduceAdd, Nat.reduceEqDiff, decide_eq_true_eq, decide_eq_false_iff_not, Bool.not_eq_true', Bool.not_eq_false', Bool.and_eq_true, Bool.or_eq_true, Bool.and_eq_false_iff, Bool.or_eq_false_iff, Bool.cond_true_left, Bool.cond_false_right, Bool.cond_true_right, Bool.cond_false_left, Bool.or_false, Bool.and_true, inR]
  generalize hV : vc _ (C.cut c14_53) _ = V
  have ha := lead1_small hrl hsm.2.1
  have hal : smallL (lead2 n) ∧ ∀ x ∈ lead2 n, smallL (mEntries x) := others_small (lead1 n)
  generalize lead1 n = a at *
  generalize lead2 n = al at *
  refine ⟨hrl, ⟨hrl, hM2.1, hM2.2.1, hM2.2.2.1, hM2.2.2.2.1⟩, ?_⟩
  refine cut_at hV ⟨[(15, .ptr 15 0), (16, .ptr 16 0), (17, .int .i64 t), (18, .ptr 18 0), (19, .own 14501 0 al.length), (20, .ptr 20 0), (21, .own 15001 0 al.length)],
    [(15, .box (cellsA tNode n [])), (16, .box (cellsA tMsg m [])), (18, .box (cellsA tNode a [])), (20, .box (cellsA tNode a [])), (14501, .row tMsg al false), (15001, .row tMsg al false)]⟩ ?_ (Ent_of [(15, 15), (16, 16), (18, 18), (20, 20), (14501, 14501), (15001, 15001)] rfl ?_ ?_)
  rotate_left
  · simp only [go_sem, reduceIte, Nat.reduceBEq, Nat.reduceMul, reduceCtorEq, Nat.reduceAdd, Nat.reduceEqDiff, decide_eq_true_eq, decide_eq_false_iff_not, Bool.not_eq_true', Bool.not_eq_false', Bool.and_eq_true, Bool.or_eq_true, Bool.and_eq_false_iff, Bool.or_eq_false_iff, Bool.cond_true_left, Bool.cond_false_right, Bool.cond_true_right, Bool.cond_false_left, Bool.or_false, Bool.and_true]
  · simp only [go_sem, reduceIte, Nat.reduceBEq, Nat.reduceMul, reduceCtorEq, Nat.reduceAdd, Nat.reduceEqDiff, decide_eq_true_eq, decide_eq_false_iff_not, Bool.not_eq_true', Bool.not_eq_false', Bool.and_eq_true, Bool.or_eq_true, Bool.and_eq_false_iff, Bool.or_eq_false_iff, Bool.cond_true_left, Bool.cond_false_right, Bool.cond_true_right, Bool.cond_false_left, Bool.or_false, Bool.and_true]
  clear hV V
  simp (maxSteps := 10000000) only [c14_53, go_sem, reduceIte, Nat.reduceBEq, Nat.reduceMul, reduceCtorEq, Nat.reduceAdd, Nat.reduceEqDiff, decide_eq_true_eq, decide_eq_false_iff_not, Bool.not_eq_true', Bool.not_eq_false', Bool.and_eq_true, Bool.or_eq_true, Bool.and_eq_false_iff, Bool.or_eq_false_iff, Bool.cond_true_left, Bool.cond_false_right, Bool.cond_true_right, Bool.cond_false_left, Bool.or_false, Bool.and_true, inR, eqB_self, decide_true]
  generalize hV : vc _ (C.cut c14_81) _ = V
  have hno : nextOk n t := by have := (okAt_MX hX t).1; unfold okS at this; unfold nextOk; omega
  refine ⟨ha, hal, ⟨hrg, hno⟩, ⟨hrg, hno, show 0 ≤ t from ht0, show t < ((nNext n).length : Int) by omega⟩, send_small n t, hrg, hwR, small_adv hsm, by decide +kernel, ?_⟩
  refine cut_at hV ⟨[(15, .ptr 15 0), (16, .ptr 16 0)], [(15, .box (cellsA tNode n [])), (16, .box (cellsA tMsg m []))]⟩ ?_ (Ent_of [(15, 15), (16, 16)] rfl ?_ ?_)
  rotate_left
  · simp only [go_sem, reduceIte, Nat.reduceBEq, Nat.reduceMul, reduceCtorEq, Nat.reduceAdd, Nat.reduceEqDiff, decide_eq_true_eq, decide_eq_false_iff_not, Bool.not_eq_true', Bool.not_eq_false', Bool.and_eq_true, Bool.or_eq_true, Bool.and_eq_false_iff, Bool.or_eq_false_iff, Bool.cond_true_left, Bool.cond_false_right, Bool.cond_true_right, Bool.cond_false_left, Bool.or_false, Bool.and_true]
  · simp only [go_sem, reduceIte, Nat.reduceBEq, Nat.reduceMul, reduceCtorEq, Nat.reduceAdd, Nat.reduceEqDiff, decide_eq_true_eq, decide_eq_false_iff_not, Bool.not_eq_true', Bool.not_eq_false', Bool.and_eq_true, Bool.or_eq_true, Bool.and_eq_false_iff, Bool.or_eq_false_iff, Bool.cond_true_left, Bool.cond_false_right, Bool.cond_true_right, Bool.cond_false_left, Bool.or_false, Bool.and_true]
  clear hV V hal ha
  simp (maxSteps := 10000000) only [c14_81, go_sem, reduceIte, Nat.reduceBEq, Nat.reduceMul, reduceCtorEq, Nat.reduceAdd, Nat.reduceEqDiff, decide_eq_true_eq, decide_eq_false_iff_not, Bool.not_eq_true', Bool.not_eq_false', Bool.and_eq_true, Bool.or_eq_true, Bool.and_eq_false_iff, Bool.or_eq_false_iff, Bool.cond_true_left, Bool.cond_false_right, Bool.cond_true_right, Bool.cond_false_left, Bool.or_false, Bool.and_true, inR]
  generalize hV : vc _ (C.cut c14_88) _ = V
  have hk1 : Int.tmod m.1 2 = mKind m % 2 := tm1 (show 0 ≤ mKind m by omega)
  simp only [hk1]
  generalize ([3, 5].getD (mKind m % 2).toNat 0 : Int) = K at *
  refine ⟨by decide, by omega, ?_⟩
  refine cut_at hV ⟨[(15, .ptr 15 0), (16, .ptr 16 0)], [(15, .box (cellsA tNode n [])), (16, .box (cellsA tMsg (withKind m K) []))]⟩ ?_ (Ent_of [(15, 15), (16, 16)] rfl ?_ ?_)
  rotate_left
  · simp only [go_sem, reduceIte, Nat.reduceBEq, Nat.reduceMul, reduceCtorEq, Nat.reduceAdd, Nat.reduceEqDiff, decide_eq_true_eq, decide_eq_false_iff_not, Bool.not_eq_true', Bool.not_eq_false', Bool.and_eq_true, Bool.or_eq_true, Bool.and_eq_false_iff, Bool.or_eq_false_iff, Bool.cond_true_left, Bool.cond_false_right, Bool.cond_true_right, Bool.cond_false_left, Bool.or_false, Bool.and_true]
    repeat (first | exact rfl | refine ⟨rfl, ?_⟩)
  · simp only [go_sem, reduceIte, Nat.reduceBEq, Nat.reduceMul, reduceCtorEq, Nat.reduceAdd, Nat.reduceEqDiff, decide_eq_true_eq, decide_eq_false_iff_not, Bool.not_eq_true', Bool.not_eq_false', Bool.and_eq_true, Bool.or_eq_true, Bool.and_eq_false_iff, Bool.or_eq_false_iff, Bool.cond_true_left, Bool.cond_false_right, Bool.cond_true_right, Bool.cond_false_left, Bool.or_false, Bool.and_true]
  clear hV V hk1 hmk
  have mf : mFrom (withKind m K) = mFrom m := rfl
  have mi : mIndex (withKind m K) = mIndex m := rfl
  have me : mEntries (withKind m K) = mEntries m := rfl
  generalize withKind m K = q at *
  rw [← mf] at hmf
  rw [← mi] at hmi
  rw [← me] at hme
  clear mf mi me hmt
  simp (maxSteps := 10000000) only [c14_88, go_sem, reduceIte, Nat.reduceBEq, Nat.reduceMul, reduceCtorEq, Nat.reduceAdd, Nat.reduceEqDiff, decide_eq_true_eq, decide_eq_false_iff_not, Bool.not_eq_true', Bool.not_eq_false', Bool.and_eq_true, Bool.or_eq_true, Bool.and_eq_false_iff, Bool.or_eq_false_iff, Bool.cond_true_left, Bool.cond_false_right, Bool.cond_true_right, Bool.cond_false_left, Bool.or_false, Bool.and_true, inR]
  generalize hV : vc _ (C.cut c14_99) _ = V
  have hx := small_take (m := q) hsm (by omega) hme
  have hr := take2_small n q
  generalize take1 n q = x at *
  generalize take2 n q = r at *
  have hqi : okIdx (mIndex q) := by unfold okIdx; omega
  have hqe : smallL (mEntries q) := by rw [sm]; omega
  refine ⟨⟨hrg, hqi, hqe⟩, ⟨hrg, hqi, hqe, by omega, by omega⟩, ?_⟩
  refine cut_at hV ⟨[(15, .ptr 15 0), (16, .ptr 16 0), (22, .ptr 22 0), (23, .sl tMsg r false), (24, .ptr 24 0), (25, .sl tMsg r false)], [(15, .box (cellsA tNode n [])), (16, .box (cellsA tMsg q [])), (22, .box (cellsA tNode x [])), (24, .box (cellsA tNode x []))]⟩ ?_ (Ent_of [(15, 15), (16, 16), (22, 22), (24, 24)] rfl ?_ ?_)
  rotate_left
  · simp only [go_sem, reduceIte, Nat.reduceBEq, Nat.reduceMul, reduceCtorEq, Nat.reduceAdd, Nat.reduceEqDiff, decide_eq_true_eq, decide_eq_false_iff_not, Bool.not_eq_true', Bool.not_eq_false', Bool.and_eq_true, Bool.or_eq_true, Bool.and_eq_false_iff, Bool.or_eq_false_iff, Bool.cond_true_left, Bool.cond_false_right, Bool.cond_true_right, Bool.cond_false_left, Bool.or_false, Bool.and_true]
  · simp only [go_sem, reduceIte, Nat.reduceBEq, Nat.reduceMul, reduceCtorEq, Nat.reduceAdd, Nat.reduceEqDiff, decide_eq_true_eq, decide_eq_false_iff_not, Bool.not_eq_true', Bool.not_eq_false', Bool.and_eq_true, Bool.or_eq_true, Bool.and_eq_false_iff, Bool.or_eq_false_iff, Bool.cond_true_left, Bool.cond_false_right, Bool.cond_true_right, Bool.cond_false_left, Bool.or_false, Bool.and_true]
  clear hV V hqi hqe
  simp (maxSteps := 10000000) only [c14_99, go_sem, reduceIte, Nat.reduceBEq, Nat.reduceMul, reduceCtorEq, Nat.reduceAdd, Nat.reduceEqDiff, decide_eq_true_eq, decide_eq_false_iff_not, Bool.not_eq_true', Bool.not_eq_false', Bool.and_eq_true, Bool.or_eq_true, Bool.and_eq_false_iff, Bool.or_eq_false_iff, Bool.cond_true_left, Bool.cond_false_right, Bool.cond_true_right, Bool.cond_false_left, Bool.or_false, Bool.and_true, inR]
  simp only [mkPrM]
  generalize hV : vc _ (C.cut c14_112) _ = V
  generalize hp : mkM 4 _ _ _ _ _ _ _ _ _ = p
  have ep : p = withKind q 4 := by rw [← hp]; rfl
  have mf : mFrom p = mFrom q := by rw [ep]; rfl
  have mi : mIndex p = mIndex q := by rw [ep]; rfl
  clear hp ep
  have hy := small_heard p hsm
  have hh := heard2_small n p
  generalize heard1 n p = y at *
  generalize heard2 n p = h at *
  have hoa : okAt n (mFrom p) := okAt_MX hX _
  have hil : -4398046511000 ≤ mIndex p ∧ mIndex p ≤ 4398046511000 := by rw [mi]; omega
  have hfl : 0 ≤ mFrom p ∧ mFrom p < nNodes n := by rw [mf]; exact hmf
  have hla : last n ≤ 4398046511000 := by omega
  refine ⟨⟨hrg, hoa, hil.1, hil.2, hla⟩, ⟨hwR, hoa, hil.1, hil.2, hla, hfl.1, hfl.2⟩, ?_⟩
  refine cut_at hV ⟨[(22, .ptr 22 0), (23, .sl tMsg r false), (24, .ptr 24 0), (25, .sl tMsg r false), (26, .ptr 26 0), (27, .sl tMsg h false), (28, .ptr 28 0), (29, .sl tMsg h false)], [(22, .box (cellsA tNode x [])), (24, .box (cellsA tNode x [])), (26, .box (cellsA tNode y [])), (28, .box (cellsA tNode y []))]⟩ ?_ (Ent_of [(22, 22), (24, 24), (26, 26), (28, 28)] rfl ?_ ?_)
  rotate_left
  · simp only [go_sem, reduceIte, Nat.reduceBEq, Nat.reduceMul, reduceCtorEq, Nat.reduceAdd, Nat.reduceEqDiff, decide_eq_true_eq, decide_eq_false_iff_not, Bool.not_eq_true', Bool.not_eq_false', Bool.and_eq_true, Bool.or_eq_true, Bool.and_eq_false_iff, Bool.or_eq_false_iff, Bool.cond_true_left, Bool.cond_false_right, Bool.cond_true_right, Bool.cond_false_left, Bool.or_false, Bool.and_true]
  · simp only [go_sem, reduceIte, Nat.reduceBEq, Nat.reduceMul, reduceCtorEq, Nat.reduceAdd, Nat.reduceEqDiff, decide_eq_true_eq, decide_eq_false_iff_not, Bool.not_eq_true', Bool.not_eq_false', Bool.and_eq_true, Bool.or_eq_true, Bool.and_eq_false_iff, Bool.or_eq_false_iff, Bool.cond_true_left, Bool.cond_false_right, Bool.cond_true_right, Bool.cond_false_left, Bool.or_false, Bool.and_true]
  clear hV V
  simp (maxSteps := 10000000) only [c14_112, go_sem, reduceIte, Nat.reduceBEq, Nat.reduceMul, reduceCtorEq, Nat.reduceAdd, Nat.reduceEqDiff, decide_eq_true_eq, decide_eq_false_iff_not, Bool.not_eq_true', Bool.not_eq_false', Bool.and_eq_true, Bool.or_eq_true, Bool.and_eq_false_iff, Bool.or_eq_false_iff, Bool.cond_true_left, Bool.cond_false_right, Bool.cond_true_right, Bool.cond_false_left, Bool.or_false, Bool.and_true, inR, eqB_self, decide_true]
  exact ⟨hx, hr, hy, hh⟩
end Go.AM
