import Derived.Test.YtbcbgfkojmligaaHAD
/- What functions of the program answer, each under the conditions that its contract names. -/
set_option linter.unusedVariables false
set_option linter.unusedSimpArgs false
set_option maxRecDepth 100000
set_option maxHeartbeats 8000000
set_option linter.unusedSimpArgs false
namespace Go.AM
open Go.Proofs
structure RS where
  n : Node
  f : Node
  l : List Msg
  k : Int
def rstep (s : RS) : RS := match s.l with
  | [] => s
  | m :: r => if mTo m = 1 then ⟨s.n, take1 s.f m, r ++ take2 s.f m, if mKind m = 5 then s.k + 1 else s.k⟩ else ⟨heard1 s.n m, s.f, r ++ heard2 s.n m, s.k⟩
def Good (s : RS) : Prop := rgN s.n ∧ rgN s.f ∧ (∀ i, okAt s.n i) ∧ last s.n ≤ 4398046511000 ∧ s.l.length ≤ 1 ∧ ∀ m ∈ s.l, (-1000 ≤ mIndex m ∧ mIndex m ≤ 1000000) ∧ (mEntries m).length ≤ 20
inductive Path : RS → Nat → RS → Prop
  | nil (s : RS) : Good s → Path s 0 s
  | cons {s s' : RS} {j : Nat} : Good s → s.l ≠ [] → Path (rstep s) j s' → Path s (j + 1) s'
theorem Path.trans {s s' s'' : RS} {i j : Nat} (h1 : Path s i s') (h2 : Path s' j s'') : Path s (i + j) s'' := by
  induction h1 with
  | nil s _ => rw [Nat.zero_add]; exact h2
  | cons hg hl _ ih => rw [Nat.add_right_comm]; exact .cons hg hl (ih h2)
/-- After i of the steps. -/
theorem Path.drop {s s' : RS} {j : Nat} (h : Path s j s') (hl : s'.l = []) : s.l = [] ∧ s = s' ∨ s.l ≠ [] ∧ ∃ i, j = i + 1 ∧ Path (rstep s) i s' := by
  cases h with
  | nil => exact .inl ⟨hl, rfl⟩
  | cons hg hne hp => exact .inr ⟨hne, _, rfl, hp⟩
/-- Where two logs have the same term, they are the same up to there. -/
def Agr (f n : List E) : Prop := ∀ j (h1 : j < f.length) (h2 : j < n.length), f[j].1 = n[j].1 → f.take (j + 1) = n.take (j + 1)
theorem put_follow {f n : List E} (hA : Agr f n) : ∀ (l : List E) (k r : Nat), k ≤ f.length → k ≤ n.length → f.take k = n.take k → l = (n.drop k).take r →
    (put' f k l = f ∧ k + l.length ≤ f.length ∧ f.take (k + l.length) = n.take (k + l.length)) ∨ put' f k l = n.take (k + l.length) := by
  intro l
  induction l with
  | nil => intro k r hk _ ht _; exact .inl ⟨rfl, hk, by simpa using ht⟩
  | cons e l ih =>
    intro k r hk hkn ht hl
    cases r with
    | zero => simp at hl
    | succ r =>
      cases hd : n.drop k with
      | nil => rw [hd] at hl; simp at hl
      | cons e' rest =>
        rw [hd, List.take_succ_cons] at hl
        obtain ⟨rfl, hl2⟩ := List.cons.inj hl
        have hkl : k < n.length := by
          rcases Nat.lt_or_ge k n.length with h | h
          · exact h
          · rw [List.drop_eq_nil_of_le h] at hd; cases hd
        have hnk : n[k] = e := by
          have h1 : (n.drop k)[0]? = some e := by rw [hd]; rfl
          rw [List.getElem?_drop, Nat.add_zero, List.getElem?_eq_getElem hkl] at h1
          exact Option.some.inj h1
        have hrest : rest = n.drop (k + 1) := by
          have := List.drop_eq_getElem_cons hkl
          rw [hd] at this
          exact (List.cons.inj this).2
        unfold put'
        split
        · rename_i hc
          have hkf : k < f.length := by
            rcases Nat.lt_or_ge k f.length with h | h
            · exact h
            · rw [List.getElem?_eq_none h] at hc; cases hc
          rw [List.getElem?_eq_getElem hkf] at hc
          have he : f[k].1 = n[k].1 := by rw [hnk]; exact Option.some.inj hc
          have h1 := hA k hkf hkl he
          have := ih (k + 1) r (by omega) (by omega) h1 (by rw [← hrest]; exact hl2)
          rw [List.length_cons, show k + (l.length + 1) = k + 1 + l.length by omega]
          exact this
        · right
          rw [ht, hl2, hrest, ← hnk, ← List.take_succ_cons, List.getElem_cons_drop]
          refine Eq.trans ?_ (List.take_add ..).symm
          congr 1
          refine List.take_eq_take_iff.2 ?_
          simp only [List.length_take, List.length_drop]
          omega
theorem Agr.take {n : List E} (k : Nat) : Agr (n.take k) n := by
  intro j h1 h2 _
  rw [List.length_take] at h1
  rw [List.take_take, Nat.min_eq_left (by omega)]
structure LS (b BT T : Int) (lg : List E) (n : Node) (x y : Int) : Prop where
  id : nId n = 0
  nodes : nNodes n = 2
  term : nTerm n = T
  base : nBase n = b
  bt : nBT n = BT
  log : nLog n = lg
  role : nRole n = 2
  next : ∃ a : Int, nNext n = [a, x] ∧ okS a
  mt : nMatch n = [b + lg.length, y]
  cm : b ≤ nCommit n ∧ nCommit n ≤ b + lg.length
section
variable {b BT T : Int} {lg : List E} {n : Node} {x y : Int}
theorem LS.last (h : LS b BT T lg n x y) : last n = b + lg.length := by show nBase n + ((nLog n).length : Int) = _; rw [h.base, h.log]
theorem LS.rg (h : LS b BT T lg n x y) (hb : 0 ≤ b ∧ b ≤ 1000) (hl : lg.length ≤ 1000) : rgN n := by
  obtain ⟨a, ha, _⟩ := h.next
  have h1 := h.last
  have h2 := h.cm
  refine ⟨by rw [h.base]; omega, by rw [h.base]; omega, by omega, by omega, by rw [sm, h.log]; omega, by rw [h.nodes]; omega, by rw [h.nodes]; omega, by rw [sm, ha]; show 2 ≤ _; omega, by rw [sm, h.mt]; show 2 ≤ _; omega⟩
theorem atL_1 {a c : Int} : atL [a, c] 1 = c := rfl
theorem atL_2 {a c i : Int} : atL [a, c] i = 0 ∨ atL [a, c] i = a ∨ atL [a, c] i = c := by
  rcases atL_mem (l := [a, c]) (i := i) with h | h
  · exact .inl h
  · simp only [List.mem_cons, List.not_mem_nil, or_false] at h
    exact .inr h
theorem LS.ok (h : LS b BT T lg n x y) (hb : 0 ≤ b ∧ b ≤ 1000) (hl : lg.length ≤ 1000) (hx : okS x) (hy : okS y) (i : Int) : okAt n i := by
  obtain ⟨a, ha, ho⟩ := h.next
  have z : okS 0 := by unfold okS; decide
  have w : okS (b + lg.length) := by unfold okS; omega
  refine ⟨?_, ?_⟩
  · rw [ha]; rcases atL_2 (a := a) (c := x) (i := i) with e | e | e <;> rw [e] <;> assumption
  · rw [h.mt]; rcases atL_2 (a := b + lg.length) (c := y) (i := i) with e | e | e <;> rw [e] <;> assumption
theorem LS.send (h : LS b BT T lg n x y) (hx : b ≤ x - 1) : ∃ c, sendM n 1 = mkM 3 0 1 T (x - 1) (termV n (x - 1)) false c ((lg.drop (x - 1 - b).toNat).take 20) noB := by
  obtain ⟨a, ha, _⟩ := h.next
  unfold sendM
  rw [ha, atL_1, if_neg (by rw [h.base]; omega), h.id, h.term]
  refine ⟨nCommit n, ?_⟩
  unfold behindN
  rw [h.log, h.base]
theorem LS.send5 (h : LS b BT T lg n x y) (hx : x - 1 < b) : sendM n 1 = mkM 5 0 1 T b BT false 0 [] (nSnap n) := by
  obtain ⟨a, ha, _⟩ := h.next
  unfold sendM
  rw [ha, atL_1, if_pos (by rw [h.base]; omega), h.id, h.term, h.base, h.bt]
theorem LS.termV (h : LS b BT T lg n x y) {i : Int} (hi : b < i) (hi2 : i ≤ b + lg.length) : AM.termV n i = (lg.getD (i - b - 1).toNat (dflt tEntry)).1 := by
  have h1 := h.last
  unfold AM.termV
  rw [if_neg (by rw [h.base]; omega), if_pos (by rw [h.base]; omega), h.log, h.base]
theorem LS.termB (h : LS b BT T lg n x y) : AM.termV n b = BT := by
  unfold AM.termV
  rw [if_pos h.base.symm, h.bt]
theorem down_eq {n : Node} {t : Int} (h : t ≤ nTerm n) : down n t = n := by unfold down; exact if_neg (by omega)
/-- told no -/
theorem LS.no (h : LS b BT T lg n x y) {m : Msg} (ht : mTerm m = T) (hf : mFrom m = 1) (hy : mYes m = false) :
    LS b BT T lg (heard1 n m) (max (max 1 (y + 1)) (min (x - 1) (mIndex m + 1))) y ∧ heard2 n m = [sendM (heard1 n m) 1] ∧ nCommit (heard1 n m) = nCommit n ∧ nSnap (heard1 n m) = nSnap n := by
  obtain ⟨a, ha, ho⟩ := h.next
  have h0 := h.term
  unfold heard1 heard2
  rw [down_eq (by omega)]
  have hc : nRole n = 2 ∧ mTerm m = nTerm n := ⟨h.role, by omega⟩
  have e1 : heard1' n m = back1 n m := by unfold heard1'; rw [if_pos hc, if_neg (by rw [hy]; decide)]
  have e2 : heard2' n m = [sendM (back1 n m) (mFrom m)] := by unfold heard2'; rw [if_pos hc, if_neg (by rw [hy]; decide)]
  rw [e1, e2, hf]
  refine ⟨⟨h.id, h.nodes, h.term, h.base, h.bt, h.log, h.role, ⟨a, ?_, ho⟩, h.mt, h.cm⟩, rfl, rfl, rfl⟩
  show putL (nNext n) (mFrom m) (backI n m) = _
  unfold backI
  rw [hf, ha, h.mt, atL_1, atL_1]
  rfl
/-- told yes -/
theorem LS.yes (h : LS b BT T lg n x y) (hl : lg.length ≤ 1000) {m : Msg} (ht : mTerm m = T) (hf : mFrom m = 1) (hy : mYes m = true) (h1 : y ≤ mIndex m) (h2 : mIndex m ≤ b + lg.length) :
    LS b BT T lg (heard1 n m) (mIndex m + 1) (mIndex m) ∧ heard2 n m = (if mIndex m + 1 ≤ b + lg.length then [sendM (heard1 n m) 1] else []) ∧
    (mIndex m = b + lg.length → b < mIndex m → (lg.getD (lg.length - 1) (dflt tEntry)).1 = T → nCommit (heard1 n m) = b + lg.length) ∧ nSnap (heard1 n m) = nSnap n := by
  obtain ⟨a, ha, ho⟩ := h.next
  have h0 := h.term
  have hla := h.last
  unfold heard1 heard2
  rw [down_eq (by omega)]
  have hc : nRole n = 2 ∧ mTerm m = nTerm n := ⟨h.role, by omega⟩
  have hg : gotI n m = mIndex m := by
    unfold gotI
    rw [hf, h.mt, atL_1, hla]
    omega
  have e1 : heard1' n m = got1 n m := by unfold heard1'; rw [if_pos hc, if_pos hy]
  have e2 : heard2' n m = (if gotI n m + 1 ≤ AM.last n then [sendM (got1 n m) (mFrom m)] else []) := by unfold heard2'; rw [if_pos hc, if_pos hy]
  rw [e1, e2, hf, hg, hla]
  have e3 : got1 n m = adv (setNext (setMatch n [b + lg.length, mIndex m]) [a, mIndex m + 1]) := by
    unfold got1
    rw [hf, hg, h.mt, ha]
    rfl
  rw [e3]
  generalize hq : setNext (setMatch n [b + lg.length, mIndex m]) [a, mIndex m + 1] = q
  have q1 : nRole q = 2 := by rw [← hq]; exact h.role
  have q2 : AM.last q = b + lg.length := by rw [← hq]; exact hla
  have q3 : nCommit q = nCommit n := by rw [← hq]; rfl
  have q4 : nMatch q = [b + lg.length, mIndex m] := by rw [← hq]; rfl
  have q5 : nLog q = lg := by rw [← hq]; exact h.log
  have q6 : nBase q = b := by rw [← hq]; exact h.base
  have q7 : nTerm q = T := by rw [← hq]; exact h.term
  have q8 : nNodes q = 2 := by rw [← hq]; exact h.nodes
  have hcm := h.cm
  have e4 : adv q = setCommit q (advC q (AM.last q - nCommit q).toNat) := if_pos q1
  have hbd := advC_bd q (AM.last q - nCommit q).toNat
  rw [e4]
  refine ⟨⟨by rw [← hq]; exact h.id, q8, q7, q6, by rw [← hq]; exact h.bt, q5, q1, ⟨a, by rw [← hq]; rfl, ho⟩, q4, ?_⟩, rfl, fun hi hi0 hT => ?_, by rw [← hq]; rfl⟩
  · show b ≤ advC q _ ∧ advC q _ ≤ _
    omega
  · show advC q (AM.last q - nCommit q).toNat = _
    by_cases hlt : nCommit q < b + lg.length
    · rw [q2]
      refine advC_ok hlt ⟨?_, ?_⟩
      · unfold AM.termV
        rw [if_neg (by rw [q6]; omega), if_pos (by rw [q6, q2]; omega), q5, q6, q7, show (b + (lg.length : Int) - b - 1).toNat = lg.length - 1 by omega]
        exact hT
      · rw [q4, ← hi]
        unfold most
        rw [q8]
        show (2 : Int).tdiv 2 + 1 ≤ (((List.countP (fun k => decide (mIndex m ≤ k)) [mIndex m, mIndex m] : Nat)) : Int)
        simp
    · omega
end
end Go.AM

set_option maxRecDepth 100000
set_option maxHeartbeats 8000000
set_option linter.unusedSimpArgs false
namespace Go.AM
open Go.Proofs
theorem rstep_f {n f : Node} {m : Msg} {r : List Msg} {k : Int} (h : mTo m = 1) : rstep ⟨n, f, m :: r, k⟩ = ⟨n, take1 f m, r ++ take2 f m, if mKind m = 5 then k + 1 else k⟩ := if_pos h
theorem rstep_n {n f : Node} {m : Msg} {r : List Msg} {k : Int} (h : ¬ mTo m = 1) : rstep ⟨n, f, m :: r, k⟩ = ⟨heard1 n m, f, r ++ heard2 n m, k⟩ := if_neg h
structure FS (b BT T : Int) (f : Node) : Prop where
  id : nId f = 1
  base : nBase f = b
  bt : nBT f = BT
  term : nTerm f ≤ T
  rg : rgN f
  len : (nLog f).length ≤ 300
section
variable {b BT T : Int} {lg : List E} {n f : Node} {x y : Int}
theorem down_parts (f : Node) (t : Int) : nId (down f t) = nId f ∧ nBase (down f t) = nBase f ∧ nBT (down f t) = nBT f ∧ nLog (down f t) = nLog f ∧ nCommit (down f t) = nCommit f ∧ nSnap (down f t) = nSnap f ∧ nNext (down f t) = nNext f ∧ nMatch (down f t) = nMatch f ∧ nNodes (down f t) = nNodes f := by
  unfold down; split <;> exact ⟨rfl, rfl, rfl, rfl, rfl, rfl, rfl, rfl, rfl⟩
theorem downT {f : Node} {t : Int} (h : nTerm f ≤ t) : nTerm (down f t) = t := by
  unfold down; split
  · rfl
  · omega
theorem termV_down (f : Node) (t i : Int) : termV (down f t) i = termV f i := by
  have h := down_parts f t
  have h2 := last_down f t
  unfold termV
  rw [h.2.1, h.2.2.1, h.2.2.2.1, h2]
def ackM (T : Int) (yes : Bool) (i : Int) : Msg := mkM 4 1 0 T i 0 yes 0 [] noB
structure Took (b BT T : Int) (f f' : Node) : Prop where
  id : nId f' = 1
  base : nBase f' = b
  bt : nBT f' = BT
  term : nTerm f' = T
  role : nRole f' = 0
  lead : nLead f' = 0
  snap : nSnap f' = nSnap f
  cm : nCommit f ≤ nCommit f'
theorem FS.refuse (h : FS b BT T f) (hb : 0 ≤ b) {i tm c : Int} {es : List E} (hi : b ≤ i) (hn : last f < i ∨ termV f i ≠ tm) :
    Took b BT T f (take1 f (mkM 3 0 1 T i tm false c es noB)) ∧ nLog (take1 f (mkM 3 0 1 T i tm false c es noB)) = nLog f ∧ FS b BT T (take1 f (mkM 3 0 1 T i tm false c es noB)) ∧
    take2 f (mkM 3 0 1 T i tm false c es noB) = [ackM T false (max 0 (min (last f) (i - 1)))] ∧ nCommit (take1 f (mkM 3 0 1 T i tm false c es noB)) = nCommit f := by
  have hd := down_parts f T
  have hd2 := downT h.term
  have hd3 := last_down f T
  have hd4 := termV_down f T i
  generalize hm : mkM 3 0 1 T i tm false c es noB = m
  have m1 : mTerm m = T := by rw [← hm] <;> rfl
  have m2 : mKind m = 3 := by rw [← hm] <;> rfl
  have m3 : mIndex m = i := by rw [← hm] <;> rfl
  have m4 : mAt m = tm := by rw [← hm] <;> rfl
  have m5 : mFrom m = 0 := by rw [← hm] <;> rfl
  have e1 : take1 f m = foll (down f T) m := by
    unfold take1 take1'
    rw [m1, if_neg (by omega), if_neg (by omega), m3, m4, if_pos (by rw [hd.2.1, hd3, hd4]; exact .inr hn)]
  have e2 : take2 f m = takenM (foll (down f T) m) m false (max 0 (min (last (down f T)) (i - 1))) := by
    unfold take2 take2'
    rw [m1, if_neg (by omega), if_neg (by omega), m3, m4, if_neg (by rw [hd.2.1, h.base]; omega), if_pos (by rw [hd3, hd4]; exact hn)]
  rw [e1, e2]
  have hr : rgN (foll (down f T) m) := rgN_down (t := T) h.rg
  refine ⟨⟨hd.1.trans h.id, hd.2.1.trans h.base, hd.2.2.1.trans h.bt, hd2, rfl, m5, hd.2.2.2.2.2.1, ?_⟩, hd.2.2.2.1, ⟨hd.1.trans h.id, hd.2.1.trans h.base, hd.2.2.1.trans h.bt, by show nTerm (down f T) ≤ T; omega, hr, ?_⟩, ?_⟩
  · show nCommit f ≤ nCommit (down f T)
    rw [hd.2.2.2.2.1]; exact Int.le_refl _
  · show (nLog (down f T)).length ≤ 300
    rw [hd.2.2.2.1]; exact h.len
  · refine ⟨?_, hd.2.2.2.2.1⟩
    unfold takenM ackM
    rw [hd3, m5]
    have g1 : nId (foll (down f T) m) = 1 := hd.1.trans h.id
    have g2 : nTerm (foll (down f T) m) = T := hd2
    rw [g1, g2]
theorem put'_le3 (m : List E) : ∀ (l : List E) (k : Nat), k ≤ m.length → (put' m k l).length ≤ max m.length (k + l.length) := put'_le2 m
theorem FS.accept (h : FS b BT T f) (hb : 0 ≤ b ∧ b ≤ 1000) {i tm c : Int} {es : List E} (hi : b ≤ i) (hi2 : i ≤ last f) (he : termV f i = tm) (hes : es.length ≤ 20) (hk : i - b + es.length ≤ 300) :
    Took b BT T f (take1 f (mkM 3 0 1 T i tm false c es noB)) ∧ nLog (take1 f (mkM 3 0 1 T i tm false c es noB)) = put' (nLog f) (i - b).toNat es ∧ FS b BT T (take1 f (mkM 3 0 1 T i tm false c es noB)) ∧
    take2 f (mkM 3 0 1 T i tm false c es noB) = [ackM T true (i + es.length)] := by
  have hd := down_parts f T
  have hd2 := downT h.term
  have hd3 := last_down f T
  have hd4 := termV_down f T i
  generalize hm : mkM 3 0 1 T i tm false c es noB = m
  have m1 : mTerm m = T := by rw [← hm] <;> rfl
  have m2 : mKind m = 3 := by rw [← hm] <;> rfl
  have m3 : mIndex m = i := by rw [← hm] <;> rfl
  have m4 : mAt m = tm := by rw [← hm] <;> rfl
  have m5 : mFrom m = 0 := by rw [← hm] <;> rfl
  have m6 : mEntries m = es := by rw [← hm] <;> rfl
  have hla : last f = nBase f + (nLog f).length := rfl
  have hbs := h.base
  have e1 : take1 f m = putC (foll (down f T) m) m := by
    unfold take1 take1'
    rw [m1, if_neg (by omega), if_neg (by omega), m3, m4, if_neg (by rw [hd.2.1, hd3, hd4]; omega)]
  have e2 : take2 f m = takenM (putC (foll (down f T) m) m) m true (i + es.length) := by
    unfold take2 take2'
    rw [m1, if_neg (by omega), if_neg (by omega), m3, m4, if_neg (by rw [hd.2.1, h.base]; omega), if_neg (by rw [hd3, hd4]; omega), m6]
  have e3 : put (foll (down f T) m) i es = setLog (foll (down f T) m) (put' (nLog (foll (down f T) m)) (i - nBase (foll (down f T) m)).toNat es) := by
    unfold put
    have g1 : nBase (foll (down f T) m) = b := hd.2.1.trans h.base
    have g2 : last (foll (down f T) m) = last f := hd3
    rw [if_neg (by rw [g1, g2]; omega)]
  have g1 : nBase (foll (down f T) m) = b := hd.2.1.trans h.base
  have g3 : nLog (foll (down f T) m) = nLog f := hd.2.2.2.1
  rw [g1, g3] at e3
  have e4 : putC (foll (down f T) m) m = setCommit (setLog (foll (down f T) m) (put' (nLog f) (i - b).toNat es)) (max (nCommit f) (min (mCommit m) (i + es.length))) := by
    unfold putC
    rw [m3, m6, e3]
    have g4 : nCommit (setLog (foll (down f T) m) (put' (nLog f) (i - b).toNat es)) = nCommit f := hd.2.2.2.2.1
    rw [g4]
  rw [e1, e2, e4]
  have hr := h.rg
  have hln := h.len
  have hpl : (put' (nLog f) (i - b).toNat es).length ≤ 300 := by
    have := put'_le3 (nLog f) es (i - b).toNat (by omega)
    omega
  refine ⟨⟨hd.1.trans h.id, hd.2.1.trans h.base, hd.2.2.1.trans h.bt, hd2, rfl, m5, hd.2.2.2.2.2.1, ?_⟩, rfl, ⟨hd.1.trans h.id, hd.2.1.trans h.base, hd.2.2.1.trans h.bt, by show nTerm (down f T) ≤ T; omega, ?_, hpl⟩, ?_⟩
  · show nCommit f ≤ max (nCommit f) (min (mCommit m) (i + es.length)); omega
  · simp only [rgN, sm] at hr ⊢
    have k1 : nBase (setCommit (setLog (foll (down f T) m) (put' (nLog f) (i - b).toNat es)) (max (nCommit f) (min (mCommit m) (i + es.length)))) = b := g1
    have k2 : nCommit (setCommit (setLog (foll (down f T) m) (put' (nLog f) (i - b).toNat es)) (max (nCommit f) (min (mCommit m) (i + es.length)))) = max (nCommit f) (min (mCommit m) (i + es.length)) := rfl
    have k3 : nLog (setCommit (setLog (foll (down f T) m) (put' (nLog f) (i - b).toNat es)) (max (nCommit f) (min (mCommit m) (i + es.length)))) = put' (nLog f) (i - b).toNat es := rfl
    have k4 : last (setCommit (setLog (foll (down f T) m) (put' (nLog f) (i - b).toNat es)) (max (nCommit f) (min (mCommit m) (i + es.length)))) = b + (put' (nLog f) (i - b).toNat es).length := by
      show nBase _ + ((nLog _).length : Int) = _
      rw [k1, k3]
    rw [k1, k2, k4, k3]
    have k5 : nNodes (setCommit (setLog (foll (down f T) m) (put' (nLog f) (i - b).toNat es)) (max (nCommit f) (min (mCommit m) (i + es.length)))) = nNodes f := hd.2.2.2.2.2.2.2.2
    have k6 : nNext (setCommit (setLog (foll (down f T) m) (put' (nLog f) (i - b).toNat es)) (max (nCommit f) (min (mCommit m) (i + es.length)))) = nNext f := hd.2.2.2.2.2.2.1
    have k7 : nMatch (setCommit (setLog (foll (down f T) m) (put' (nLog f) (i - b).toNat es)) (max (nCommit f) (min (mCommit m) (i + es.length)))) = nMatch f := hd.2.2.2.2.2.2.2.1
    rw [k5, k6, k7]
    refine ⟨by omega, by omega, by omega, by omega, by omega, hr.2.2.2.2.2.1, hr.2.2.2.2.2.2.1, hr.2.2.2.2.2.2.2.1, hr.2.2.2.2.2.2.2.2⟩
  · unfold takenM ackM
    rw [m5]
    have k1 : nId (setCommit (setLog (foll (down f T) m) (put' (nLog f) (i - b).toNat es)) (max (nCommit f) (min (mCommit m) (i + es.length)))) = 1 := hd.1.trans h.id
    have k2 : nTerm (setCommit (setLog (foll (down f T) m) (put' (nLog f) (i - b).toNat es)) (max (nCommit f) (min (mCommit m) (i + es.length)))) = T := hd2
    rw [k1, k2]
theorem FS.termV (h : FS b BT T f) {i : Int} (hi : b < i) (hi2 : i ≤ b + (nLog f).length) : AM.termV f i = ((nLog f).getD (i - b - 1).toNat (dflt tEntry)).1 := by
  have h1 : AM.last f = nBase f + (nLog f).length := rfl
  unfold AM.termV
  rw [if_neg (by rw [h.base]; omega), if_pos (by rw [h1, h.base]; omega), h.base]
theorem FS.termB (h : FS b BT T f) : AM.termV f b = BT := by
  unfold AM.termV
  rw [if_pos h.base.symm, h.bt]
theorem getD_take {l l' : List E} {k j : Nat} (h : l.take k = l'.take k) (hj : j < k) (d : E) : l.getD j d = l'.getD j d := by
  rw [List.getD_eq_getElem?_getD, List.getD_eq_getElem?_getD]
  have : (l.take k)[j]? = (l'.take k)[j]? := by rw [h]
  rw [List.getElem?_take_of_lt hj, List.getElem?_take_of_lt hj] at this
  rw [this]
/-- Where both agree: batch by batch, until the log is there in full. -/
theorem forward (hb : 0 ≤ b ∧ b ≤ 1000) (hl : lg.length ≤ 200) (hl0 : 0 < lg.length) (hT : (lg.getD (lg.length - 1) (dflt tEntry)).1 = T) (k : Int) : ∀ (d : Nat) (n f : Node) (i y : Int),
    LS b BT T lg n (i + 1) y → okS y → y ≤ i → FS b BT T f → b ≤ i → i < b + lg.length → (b + lg.length - i).toNat ≤ d → i ≤ b + (nLog f).length → (nLog f).length ≤ 200 →
    (nLog f).take (i - b).toNat = lg.take (i - b).toNat → (∀ e ∈ (nLog f).drop (i - b).toNat, e.1 ≠ T) → Agr (nLog f) lg →
    ∃ j n' f', j ≤ 2 * d ∧ Path ⟨n, f, [sendM n 1], k⟩ j ⟨n', f', [], k⟩ ∧ LS b BT T lg n' (b + lg.length + 1) (b + lg.length) ∧ nCommit n' = b + lg.length ∧ Took b BT T f f' ∧ nLog f' = lg := by
  intro d
  induction d with
  | zero => intro n f i y _ _ _ _ _ h1 h2; omega
  | succ d ih =>
    intro n f i y hL hy hyi hF hi hi2 hd hif hfl ht hnT hA
    obtain ⟨c, hs⟩ := hL.send (by omega)
    rw [show i + 1 - 1 = i by omega] at hs
    have hbl : ((lg.drop (i - b).toNat).take 20).length = min 20 (lg.length - (i - b).toNat) := by rw [List.length_take, List.length_drop]
    generalize hes : (lg.drop (i - b).toNat).take 20 = es at *
    have hlast : last f = b + (nLog f).length := by show nBase f + _ = _; rw [hF.base]
    have hte : termV f i = termV n i := by
      by_cases h0 : i = b
      · rw [h0, hF.termB, hL.termB]
      · rw [hF.termV (by omega) (by omega), hL.termV (by omega) (by omega), getD_take ht (by omega)]
    obtain ⟨a1, a2, a3, a4⟩ := hF.accept hb (c := c) (es := es) hi (by omega) hte (by omega) (by omega)
    have hpf := put_follow hA es (i - b).toNat 20 (by omega) (by omega) ht hes.symm
    rw [← hs] at a1 a2 a3 a4
    have hrgn := hL.rg hb (by omega)
    have hok := hL.ok hb (by omega) (show okS (i + 1) by unfold okS; omega) hy
    have hln := hL.last
    have g1 : Good ⟨n, f, [sendM n 1], k⟩ := ⟨hrgn, hF.rg, hok, by show last n ≤ _; omega, Nat.le_refl _, fun m hm => by
      rw [List.mem_singleton.1 hm, hs]
      exact ⟨show -1000 ≤ i ∧ i ≤ 1000000 by omega, show es.length ≤ 20 by omega⟩⟩
    have hto : mTo (sendM n 1) = 1 := by rw [hs] <;> rfl
    have hkd : ¬ mKind (sendM n 1) = 5 := by rw [hs]; show ¬ (3 : Int) = 5; decide
    have st1 : rstep ⟨n, f, [sendM n 1], k⟩ = ⟨n, take1 f (sendM n 1), [ackM T true (i + es.length)], k⟩ := by
      rw [rstep_f hto, if_neg hkd, a4]
      rfl
    generalize hf1 : take1 f (sendM n 1) = f1 at *
    have g2 : Good ⟨n, f1, [ackM T true (i + es.length)], k⟩ := ⟨hrgn, a3.rg, hok, by show last n ≤ _; omega, Nat.le_refl _, fun m hm => by
      rw [List.mem_singleton.1 hm]
      exact ⟨show -1000 ≤ i + (es.length : Int) ∧ i + (es.length : Int) ≤ 1000000 by omega, Nat.zero_le _⟩⟩
    obtain ⟨b1, b2, b3, b4⟩ := hL.yes (by omega) (m := ackM T true (i + es.length)) rfl rfl rfl (show y ≤ i + (es.length : Int) by omega) (show i + (es.length : Int) ≤ _ by omega)
    have ei : mIndex (ackM T true (i + es.length)) = i + es.length := rfl
    rw [ei] at b1 b2 b3
    have st2 : rstep ⟨n, f1, [ackM T true (i + es.length)], k⟩ = ⟨heard1 n (ackM T true (i + es.length)), f1, heard2 n (ackM T true (i + es.length)), k⟩ := by
      rw [rstep_n (show ¬ ((0 : Int) = 1) by decide)]
      rfl
    generalize heard1 n (ackM T true (i + es.length)) = n1 at *
    generalize heard2 n (ackM T true (i + es.length)) = l1 at *
    have hlog1 : nLog f1 = put' (nLog f) (i - b).toNat es := a2
    have e20 : (i + (es.length : Int) - b).toNat = (i - b).toNat + es.length := by omega
    have htk : (nLog f1).take (i + (es.length : Int) - b).toNat = lg.take (i + (es.length : Int) - b).toNat ∧ (i - b).toNat + es.length ≤ (nLog f1).length ∧ (nLog f1).length ≤ 200 ∧ (∀ e ∈ (nLog f1).drop (i + (es.length : Int) - b).toNat, e.1 ≠ T) ∧ Agr (nLog f1) lg ∧
        (nLog f1 = nLog f ∨ nLog f1 = lg.take ((i - b).toNat + es.length)) := by
      rw [e20, hlog1]
      rcases hpf with ⟨p1, p2, p3⟩ | p1
      · rw [p1]
        refine ⟨p3, p2, hfl, fun e he => hnT e ?_, hA, .inl rfl⟩
        rw [← List.drop_drop] at he
        exact List.mem_of_mem_drop he
      · rw [p1]
        refine ⟨by rw [List.take_take, Nat.min_self], by rw [List.length_take]; omega, by rw [List.length_take]; omega, fun e he => ?_, Agr.take _, .inr rfl⟩
        rw [List.drop_eq_nil_of_le (by rw [List.length_take]; omega)] at he
        cases he
    by_cases hend : i + (es.length : Int) = b + lg.length
    · rw [if_neg (by omega)] at b2
      have hcm := b3 hend (by omega) hT
      have hg3 : Good ⟨n1, f1, [], k⟩ := ⟨b1.rg hb (by omega), a3.rg, b1.ok hb (by omega) (show okS (i + (es.length : Int) + 1) by unfold okS; omega) (show okS (i + (es.length : Int)) by unfold okS; omega), by have := b1.last; show last n1 ≤ _; omega, Nat.zero_le _, fun m hm => by cases hm⟩
      have hfull : nLog f1 = lg := by
        rcases htk.2.2.2.2.2 with h | h
        · exfalso
          have h2 := htk.1
          rw [h, List.take_of_length_le (l := lg) (by omega)] at h2
          have h3 : lg.length - 1 < (nLog f).length := by have := htk.2.1; rw [h] at this; omega
          refine hnT (nLog f)[lg.length - 1] ?_ ?_
          · rw [List.mem_drop_iff_getElem]
            refine ⟨lg.length - 1 - (i - b).toNat, by omega, ?_⟩
            congr 1
            omega
          · rw [← hT, List.getD_eq_getElem?_getD, List.getElem?_eq_getElem (show lg.length - 1 < lg.length by omega)]
            have h4 : ((nLog f).take (i + (es.length : Int) - b).toNat)[lg.length - 1]? = lg[lg.length - 1]? := by rw [h2]
            rw [List.getElem?_take_of_lt (by omega), List.getElem?_eq_getElem h3, List.getElem?_eq_getElem (show lg.length - 1 < lg.length by omega)] at h4
            rw [Option.some.inj h4]
            rfl
        · rw [h, List.take_of_length_le (by omega)]
      refine ⟨2, n1, f1, by omega, .cons g1 (by simp) (st1 ▸ .cons g2 (by simp) (by rw [st2, b2]; exact .nil _ hg3)), ?_, hcm, a1, hfull⟩
      rw [hend] at b1
      exact b1
    · rw [if_pos (by omega)] at b2
      obtain ⟨j, n', f', h1, h2, h3, h4, h5, h6⟩ := ih n1 f1 (i + es.length) (i + es.length) b1 (by unfold okS; omega) (Int.le_refl _) a3 (by omega) (by omega) (by omega) (by omega) htk.2.2.1 htk.1 htk.2.2.2.1 htk.2.2.2.2.1
      refine ⟨j + 2, n', f', by omega, .cons g1 (by simp) (st1 ▸ .cons g2 (by simp) (by rw [st2, b2]; exact h2)), h3, h4, ⟨h5.id, h5.base, h5.bt, h5.term, h5.role, h5.lead, h5.snap.trans a1.snap, Int.le_trans a1.cm h5.cm⟩, h6⟩
end
end Go.AM

set_option maxRecDepth 100000
set_option maxHeartbeats 8000000
set_option linter.unusedSimpArgs false
namespace Go.AM
open Go.Proofs
section
variable {b BT T : Int} {lg : List E} {n f : Node} {x y : Int}
theorem install5 (h : FS b BT T f) (hlog : nLog f = []) (hb : 0 ≤ b) {c BT' : Int} {s : ByteArray} (hc : nCommit f < c) (hcb : b < c) (hc2 : c ≤ 1000) :
    FS c BT' T (take1 f (mkM 5 0 1 T c BT' false 0 [] s)) ∧ nLog (take1 f (mkM 5 0 1 T c BT' false 0 [] s)) = [] ∧ nSnap (take1 f (mkM 5 0 1 T c BT' false 0 [] s)) = s ∧ nCommit (take1 f (mkM 5 0 1 T c BT' false 0 [] s)) = c ∧
    take2 f (mkM 5 0 1 T c BT' false 0 [] s) = [ackM T true c] := by
  have hd := down_parts f T
  have hd2 := downT h.term
  have hd3 := last_down f T
  generalize hm : mkM 5 0 1 T c BT' false 0 [] s = m
  have m1 : mTerm m = T := by rw [← hm] <;> rfl
  have m2 : mKind m = 5 := by rw [← hm] <;> rfl
  have m3 : mIndex m = c := by rw [← hm] <;> rfl
  have m4 : mAt m = BT' := by rw [← hm] <;> rfl
  have m5 : mFrom m = 0 := by rw [← hm] <;> rfl
  have m6 : mSnap m = s := by rw [← hm] <;> rfl
  have hla : last f = nBase f + (nLog f).length := rfl
  have hl0 : last f = b := by rw [hla, h.base, hlog]; show b + ((0 : Nat) : Int) = b; omega
  have e1 : take1 f m = inst1 (foll (down f T) m) m := by
    unfold take1 take1'
    rw [m1, if_neg (by omega), if_pos m2]
  have e2 : take2 f m = inst2 (foll (down f T) m) m := by
    unfold take2 take2'
    rw [m1, if_neg (by omega), if_pos m2]
  have g4 : nCommit (foll (down f T) m) = nCommit f := hd.2.2.2.2.1
  have g1 : last (foll (down f T) m) = b := hd3.trans hl0
  have hk : keepLog (foll (down f T) m) m = [] := by
    unfold keepLog
    rw [if_neg]
    rintro ⟨h1, _⟩
    unfold termOk at h1
    rw [decide_eq_true_eq, m3, g1] at h1
    omega
  have e3 : inst1 (foll (down f T) m) m = mkN (nId (foll (down f T) m)) (nNodes (foll (down f T) m)) (nTerm (foll (down f T) m)) (nVote (foll (down f T) m)) (mIndex m) (mAt m) (mSnap m) [] (nRole (foll (down f T) m)) (nLead (foll (down f T) m)) (mIndex m) (nVotes (foll (down f T) m)) (nNext (foll (down f T) m)) (nMatch (foll (down f T) m)) (nClock (foll (down f T) m)) := by
    unfold inst1
    rw [if_neg (by rw [g4, m3]; omega), hk]
  have hr : rgN f := h.rg
  rw [e1, e2, e3]
  refine ⟨⟨hd.1.trans h.id, m3, m4, by show nTerm (down f T) ≤ T; omega, ?_, Nat.zero_le _⟩, rfl, m6, m3, ?_⟩
  · have l1 : last (mkN (nId (foll (down f T) m)) (nNodes (foll (down f T) m)) (nTerm (foll (down f T) m)) (nVote (foll (down f T) m)) (mIndex m) (mAt m) (mSnap m) [] (nRole (foll (down f T) m)) (nLead (foll (down f T) m)) (mIndex m) (nVotes (foll (down f T) m)) (nNext (foll (down f T) m)) (nMatch (foll (down f T) m)) (nClock (foll (down f T) m))) = c := by
      show mIndex m + ((0 : Nat) : Int) = c
      rw [m3]; omega
    refine ⟨?_, ?_, ?_, ?_, Nat.zero_le _, ?_, ?_, ?_, ?_⟩
    · show 0 ≤ mIndex m; omega
    · show mIndex m ≤ mIndex m; omega
    · show mIndex m ≤ _; omega
    · rw [l1]; omega
    · show 0 ≤ nNodes (down f T); rw [hd.2.2.2.2.2.2.2.2]; exact hr.2.2.2.2.2.1
    · show nNodes (down f T) ≤ 100; rw [hd.2.2.2.2.2.2.2.2]; exact hr.2.2.2.2.2.2.1
    · show smallL (nNext (down f T)); rw [hd.2.2.2.2.2.2.1]; exact hr.2.2.2.2.2.2.2.1
    · show smallL (nMatch (down f T)); rw [hd.2.2.2.2.2.2.2.1]; exact hr.2.2.2.2.2.2.2.2
  · unfold inst2 takenM ackM
    rw [g4, m3, m5]
    have k1 : nId (foll (down f T) m) = 1 := hd.1.trans h.id
    have k2 : nTerm (foll (down f T) m) = T := hd2
    rw [k1, k2, show max c (nCommit f) = c by omega]
end
theorem far {c k BT : Int} {lg : List E} {p f : Node} (hc : 1 ≤ c) (hck : c ≤ k) (hk : k ≤ 60) (hlg : (lg.length : Int) = k - c + 1) (hT : (lg.getD (lg.length - 1) (dflt tEntry)).1 = 3)
    (hL : LS c BT 3 lg p (k + 1) 0) (hF : FS 0 0 3 f) (hlog : nLog f = []) (hcm : nCommit f = 0) :
    ∃ j n' f', j ≤ 200 ∧ Path ⟨p, f, [sendM p 1], 0⟩ j ⟨n', f', [], 1⟩ ∧ nCommit n' = k + 1 ∧ nBase f' = c ∧ nBT f' = BT ∧ nSnap f' = nSnap p ∧ nLog f' = lg ∧ c ≤ nCommit f' := by
  have hb : 0 ≤ c ∧ c ≤ 1000 := by omega
  have hl : lg.length ≤ 1000 := by omega
  obtain ⟨cc, hs⟩ := hL.send (by omega)
  rw [show k + 1 - 1 = k by omega] at hs
  have hla : last f = nBase f + (nLog f).length := rfl
  have hl0 : last f = 0 := by rw [hla, hF.base, hlog]; rfl
  obtain ⟨a1, a2, a3, a4, a5⟩ := hF.refuse (by omega) (i := k) (tm := termV p k) (c := cc) (es := (lg.drop (k - c).toNat).take 20) (by omega) (.inl (by omega))
  rw [← hs] at a1 a2 a3 a4 a5
  rw [hl0, show max 0 (min 0 (k - 1)) = 0 by omega] at a4
  have z : ∀ i : Int, 0 ≤ i → i ≤ 1000 → okS i := fun i h1 h2 => by unfold okS; omega
  have hln := hL.last
  have g1 : Good ⟨p, f, [sendM p 1], 0⟩ := ⟨hL.rg hb hl, hF.rg, hL.ok hb hl (z _ (by omega) (by omega)) (z _ (by omega) (by omega)), by show last p ≤ _; omega, Nat.le_refl _, fun m hm => by
    rw [List.mem_singleton.1 hm, hs]
    refine ⟨show -1000 ≤ k ∧ k ≤ 1000000 by omega, ?_⟩
    show ((lg.drop (k - c).toNat).take 20).length ≤ 20
    rw [List.length_take]; omega⟩
  have hto : mTo (sendM p 1) = 1 := by rw [hs] <;> rfl
  have hkd : ¬ mKind (sendM p 1) = 5 := by rw [hs]; show ¬ (3 : Int) = 5; decide
  have st1 : rstep ⟨p, f, [sendM p 1], 0⟩ = ⟨p, take1 f (sendM p 1), [ackM 3 false 0], 0⟩ := by
    rw [rstep_f hto, if_neg hkd, a4]
    rfl
  generalize take1 f (sendM p 1) = f1 at *
  have g2 : Good ⟨p, f1, [ackM 3 false 0], 0⟩ := ⟨hL.rg hb hl, a3.rg, hL.ok hb hl (z _ (by omega) (by omega)) (z _ (by omega) (by omega)), by show last p ≤ _; omega, Nat.le_refl _, fun m hm => by
    rw [List.mem_singleton.1 hm]
    exact ⟨show -1000 ≤ (0 : Int) ∧ (0 : Int) ≤ 1000000 by decide, Nat.zero_le _⟩⟩
  obtain ⟨b1, b2, b3, b4⟩ := hL.no (m := ackM 3 false 0) rfl rfl rfl
  have st2 : rstep ⟨p, f1, [ackM 3 false 0], 0⟩ = ⟨heard1 p (ackM 3 false 0), f1, heard2 p (ackM 3 false 0), 0⟩ := by
    rw [rstep_n (show ¬ ((0 : Int) = 1) by decide)]
    rfl
  rw [b2] at st2
  generalize heard1 p (ackM 3 false 0) = p1 at *
  rw [show max (max 1 (0 + 1)) (min (k + 1 - 1) (mIndex (ackM 3 false 0) + 1)) = 1 by show max (max 1 (0 + 1)) (min (k + 1 - 1) (0 + 1)) = 1; omega] at b1
  have hs5 := b1.send5 (by omega)
  have g3 : Good ⟨p1, f1, [sendM p1 1], 0⟩ := ⟨b1.rg hb hl, a3.rg, b1.ok hb hl (z _ (by omega) (by omega)) (z _ (by omega) (by omega)), by have := b1.last; show last p1 ≤ _; omega, Nat.le_refl _, fun m hm => by
    rw [List.mem_singleton.1 hm, hs5]
    exact ⟨show -1000 ≤ c ∧ c ≤ 1000000 by omega, Nat.zero_le _⟩⟩
  obtain ⟨c1, c2, c3, c4, c5⟩ := install5 (c := c) (BT' := BT) (s := nSnap p1) a3 (a2.trans hlog) (by omega) (by omega) (by omega) (by omega)
  rw [← hs5] at c1 c2 c3 c4 c5
  have hto5 : mTo (sendM p1 1) = 1 := by rw [hs5] <;> rfl
  have hk5 : mKind (sendM p1 1) = 5 := by rw [hs5] <;> rfl
  have st3 : rstep ⟨p1, f1, [sendM p1 1], 0⟩ = ⟨p1, take1 f1 (sendM p1 1), [ackM 3 true c], 1⟩ := by
    rw [rstep_f hto5, if_pos hk5, c5]
    rfl
  generalize take1 f1 (sendM p1 1) = f2 at *
  have g4 : Good ⟨p1, f2, [ackM 3 true c], 1⟩ := ⟨b1.rg hb hl, c1.rg, b1.ok hb hl (z _ (by omega) (by omega)) (z _ (by omega) (by omega)), by have := b1.last; show last p1 ≤ _; omega, Nat.le_refl _, fun m hm => by
    rw [List.mem_singleton.1 hm]
    exact ⟨show -1000 ≤ c ∧ c ≤ 1000000 by omega, Nat.zero_le _⟩⟩
  obtain ⟨d1, d2, _, d4⟩ := b1.yes hl (m := ackM 3 true c) rfl rfl rfl (show 0 ≤ c by omega) (show c ≤ c + (lg.length : Int) by omega)
  have ei : mIndex (ackM 3 true c) = c := rfl
  rw [ei] at d1 d2
  rw [if_pos (by omega)] at d2
  have st4 : rstep ⟨p1, f2, [ackM 3 true c], 1⟩ = ⟨heard1 p1 (ackM 3 true c), f2, heard2 p1 (ackM 3 true c), 1⟩ := by
    rw [rstep_n (show ¬ ((0 : Int) = 1) by decide)]
    rfl
  rw [d2] at st4
  generalize heard1 p1 (ackM 3 true c) = p2 at *
  obtain ⟨j, n', f', h1, h2, h3, h4, h5, h6⟩ := forward hb (by omega) (by omega) hT 1 lg.length p2 f2 c c d1 (z _ (by omega) (by omega)) (Int.le_refl _) c1 (Int.le_refl _) (by omega) (by omega) (by omega) (by rw [c2]; exact Nat.zero_le _) (by rw [c2, show (c - c).toNat = 0 by omega]; rfl) (by rw [c2]; intro e he; simp at he) (by rw [c2]; intro j h1; simp at h1)
  refine ⟨j + 4, n', f', by omega, ?_, by omega, h5.base, h5.bt, ?_, h6, ?_⟩
  · refine .cons g1 (by simp) (st1 ▸ .cons g2 (by simp) (st2 ▸ .cons g3 (by simp) (st3 ▸ .cons g4 (by simp) (st4 ▸ h2))))
  · rw [h5.snap, c3, b4]
  · have := h5.cm; omega
end Go.AM
