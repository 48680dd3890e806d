import Derived.Test.YtbcbgfkojmligaaHAR
/- What functions of the program answer, each under the conditions that its contract names. -/
set_option linter.unusedVariables false
set_option linter.unusedSimpArgs false
set_option maxRecDepth 100000
set_option maxHeartbeats 8000000
set_option linter.unusedSimpArgs false
namespace Go.AM
open Go.Proofs
noncomputable def cntP (N : Nat) (P : Nat → Prop) : Nat := by
  classical exact (List.range N).countP fun j => decide (P j)
theorem cntP_zero (P : Nat → Prop) : cntP 0 P = 0 := by unfold cntP; simp
theorem cntP_yes {N : Nat} {P : Nat → Prop} (h : P N) : cntP (N + 1) P = cntP N P + 1 := by
  unfold cntP
  rw [List.range_succ, List.countP_append]
  simp [h]
theorem cntP_no {N : Nat} {P : Nat → Prop} (h : ¬ P N) : cntP (N + 1) P = cntP N P := by
  unfold cntP
  rw [List.range_succ, List.countP_append]
  simp [h]
theorem cntP_mono {N : Nat} {P Q : Nat → Prop} (h : ∀ j, j < N → P j → Q j) : cntP N P ≤ cntP N Q := by
  induction N with
  | zero => rw [cntP_zero]; exact Nat.zero_le _
  | succ N ih =>
    have := ih (fun j hj => h j (by omega))
    by_cases hp : P N
    · rw [cntP_yes hp, cntP_yes (h N (by omega) hp)]; omega
    · rw [cntP_no hp]
      by_cases hq : Q N
      · rw [cntP_yes hq]; omega
      · rw [cntP_no hq]; exact this
/-- Two majorities have one in common. -/
theorem cntP_meet {N : Nat} {P Q : Nat → Prop} (h : N < cntP N P + cntP N Q) : ∃ j, j < N ∧ P j ∧ Q j := by
  induction N with
  | zero => rw [cntP_zero, cntP_zero] at h; omega
  | succ N ih =>
    by_cases hp : P N
    · by_cases hq : Q N
      · exact ⟨N, by omega, hp, hq⟩
      · rw [cntP_yes hp, cntP_no hq] at h
        obtain ⟨j, hj, r⟩ := ih (by omega)
        exact ⟨j, by omega, r⟩
    · rw [cntP_no hp] at h
      by_cases hq : Q N
      · rw [cntP_yes hq] at h
        obtain ⟨j, hj, r⟩ := ih (by omega)
        exact ⟨j, by omega, r⟩
      · rw [cntP_no hq] at h
        obtain ⟨j, hj, r⟩ := ih (by omega)
        exact ⟨j, by omega, r⟩
def Maj (N : Nat) (P : Nat → Prop) : Prop := N / 2 + 1 ≤ cntP N P
theorem Maj.meet {N : Nat} {P Q : Nat → Prop} (h : Maj N P) (h' : Maj N Q) : ∃ j, j < N ∧ P j ∧ Q j := by
  unfold Maj at h h'
  exact cntP_meet (by omega)
theorem Maj.mono {N : Nat} {P Q : Nat → Prop} (h : Maj N P) (hi : ∀ j, j < N → P j → Q j) : Maj N Q := Nat.le_trans h (cntP_mono hi)
structure Gh where
  el : Int → Prop
  L : Int → Nat
  LL : Int → List E
  V : Int → Nat → Option Nat
  VL : Int → Nat → List E
  CL : Int → Nat → List E
  A : Int → Nat → Nat
  /-- those whose votes made the leader -/
  Q : Int → Nat → Prop
def tAt (l : List E) (i : Nat) : Int := eTerm (l.getD i (dflt tEntry))
def lastTm (l : List E) : Int := if l.length = 0 then 0 else tAt l (l.length - 1)
/-- Each entry is its leader's, with all ahead of it. -/
def GL (g : Gh) (l : List E) : Prop := ∀ i, i < l.length → 1 ≤ tAt l i ∧ g.el (tAt l i) ∧ i < (g.LL (tAt l i)).length ∧ l.take (i + 1) = (g.LL (tAt l i)).take (i + 1)
theorem tAt_take {l l' : List E} {k i : Nat} (h : l.take k = l'.take k) (hi : i < k) : tAt l i = tAt l' i := by
  unfold tAt
  rw [List.getD_eq_getElem?_getD, List.getD_eq_getElem?_getD]
  have : (l.take k)[i]? = (l'.take k)[i]? := by rw [h]
  rw [List.getElem?_take_of_lt hi, List.getElem?_take_of_lt hi] at this
  rw [this]
theorem take_le {l l' : List E} {k i : Nat} (h : l.take k = l'.take k) (hi : i ≤ k) : l.take i = l'.take i := by
  have : (l.take k).take i = (l'.take k).take i := by rw [h]
  rwa [List.take_take, List.take_take, Nat.min_eq_left hi] at this
/-- Log matching. -/
theorem GL.agr {g : Gh} {f n : List E} (hf : GL g f) (hn : GL g n) : Agr f n := by
  intro j h1 h2 he
  have e1 : tAt f j = eTerm f[j] := by unfold tAt; rw [List.getD_eq_getElem?_getD, List.getElem?_eq_getElem h1]; rfl
  have e2 : tAt n j = eTerm n[j] := by unfold tAt; rw [List.getD_eq_getElem?_getD, List.getElem?_eq_getElem h2]; rfl
  have he : eTerm f[j] = eTerm n[j] := he
  have a := (hf j h1).2.2.2
  have b := (hn j h2).2.2.2
  rw [e1] at a
  rw [e2, ← he] at b
  rw [a, b]
theorem GL.take {g : Gh} {l : List E} (h : GL g l) (k : Nat) : GL g (l.take k) := by
  intro i hi
  rw [List.length_take] at hi
  have e : tAt (l.take k) i = tAt l i := tAt_take (k := k) (by rw [List.take_take, Nat.min_self]) (by omega)
  rw [e]
  obtain ⟨a, b, c, d⟩ := h i (by omega)
  exact ⟨a, b, c, by rw [List.take_take, Nat.min_eq_left (by omega)]; exact d⟩
/-- so many entries of a term's leader's log are committed -/
def Cm (g : Gh) (N : Nat) (T : Int) (p : Nat) : Prop := g.el T ∧ 1 ≤ p ∧ p ≤ (g.LL T).length ∧ tAt (g.LL T) (p - 1) = T ∧ Maj N fun j => p ≤ g.A T j
/-- T' has what T has, up to p -/
def Has (g : Gh) (T' T : Int) (p : Nat) : Prop := p ≤ (g.LL T').length ∧ (g.LL T').take p = (g.LL T).take p
/-- a log that has what T has, up to p, or was overwritten by a later leader that has it not -/
def Kept (g : Gh) (l : List E) (T : Int) (p : Nat) (hi : Int → Prop) : Prop := (p ≤ l.length ∧ l.take p = (g.LL T).take p) ∨ ∃ T', T < T' ∧ hi T' ∧ g.el T' ∧ ¬ Has g T' T p
/-- What of the ghost holds by itself. -/
structure GI (N : Nat) (g : Gh) : Prop where
  pos : ∀ T, g.el T → 1 ≤ T
  lead : ∀ T, g.el T → g.L T < N
  maj : ∀ T, g.el T → Maj N (g.Q T)
  qv : ∀ T j, g.el T → g.Q T j → g.V T j = some (g.L T)
  gl : ∀ T, g.el T → GL g (g.LL T)
  le : ∀ T, g.el T → ∀ i, i < (g.LL T).length → tAt (g.LL T) i ≤ T
  pre : ∀ T, g.el T → (g.CL T (g.L T)).length ≤ (g.LL T).length ∧ (g.LL T).take (g.CL T (g.L T)).length = g.CL T (g.L T)
  app : ∀ T, g.el T → ∀ i, (g.CL T (g.L T)).length ≤ i → i < (g.LL T).length → tAt (g.LL T) i = T
  clt : ∀ T, g.el T → ∀ i, i < (g.CL T (g.L T)).length → tAt (g.CL T (g.L T)) i < T
  vgl : ∀ T j c, j < N → g.V T j = some c → (g.el T → g.Q T j) → GL g (g.VL T j)
  far : ∀ T j c, j < N → g.V T j = some c → (g.el T → g.Q T j) → lastTm (g.VL T j) < lastTm (g.CL T c) ∨ (lastTm (g.VL T j) = lastTm (g.CL T c) ∧ (g.VL T j).length ≤ (g.CL T c).length)
  ack : ∀ T j, j < N → g.el T → g.A T j ≤ (g.LL T).length
  a0 : ∀ T j, ¬ g.el T → g.A T j = 0
  vk : ∀ T T' j c p, j < N → g.el T → T < T' → g.V T' j = some c → (g.el T' → g.Q T' j) → 1 ≤ p → p ≤ g.A T j → Kept g (g.VL T' j) T p (fun T'' => T'' < T')
  self : ∀ T j c, g.V T j = some c → g.V T c = some c
theorem Has.refl {g : Gh} {T : Int} {p : Nat} (h : p ≤ (g.LL T).length) : Has g T T p := ⟨h, rfl⟩
/-- Leader completeness. -/
theorem complete {N : Nat} {g : Gh} (h : GI N g) {T : Int} {p : Nat} (hc : Cm g N T p) : ∀ (d : Nat) (T' : Int), (T' - T).toNat ≤ d → T < T' → g.el T' → Has g T' T p := by
  obtain ⟨hT, hp1, hpl, htp, hmaj⟩ := hc
  intro d
  induction d with
  | zero => intro T' hd hlt; omega
  | succ d ih =>
    intro T' hd hlt hT'
    have ih' : ∀ T'', T < T'' → T'' < T' → g.el T'' → Has g T'' T p := fun T'' h1 h2 h3 => ih T'' (by omega) h1 h3
    obtain ⟨j, hj, hq, ha⟩ := (h.maj T' hT').meet hmaj
    have hv := h.qv T' j hT' hq
    have ha : p ≤ g.A T j := ha
    rcases h.vk T T' j _ p hj hT hlt hv (fun _ => hq) hp1 ha with ⟨hvl, hvt⟩ | ⟨T'', h1, h2, h3, h4⟩
    · -- the voter has it
      have hpre := h.pre T' hT'
      have hgl := h.gl T' hT'
      have hcg : GL g (g.CL T' (g.L T')) := by rw [← hpre.2]; exact hgl.take _
      have hvg := h.vgl T' j _ hj hv (fun _ => hq)
      have hvp : tAt (g.VL T' j) (p - 1) = T := by rw [tAt_take hvt (by omega)]; exact htp
      -- enough: the candidate has it
      have enough : p ≤ (g.CL T' (g.L T')).length → (g.CL T' (g.L T')).take p = (g.LL T).take p → Has g T' T p := by
        intro e1 e2
        refine ⟨by omega, ?_⟩
        rw [← e2, ← hpre.2, List.take_take, Nat.min_eq_left e1]
      have hvne : (g.VL T' j).length ≠ 0 := by omega
      have hlv : lastTm (g.VL T' j) = tAt (g.VL T' j) ((g.VL T' j).length - 1) := if_neg hvne
      have hvlast := hvg ((g.VL T' j).length - 1) (by omega)
      rw [← hlv] at hvlast
      obtain ⟨v1, v2, v3, v4⟩ := hvlast
      rw [show (g.VL T' j).length - 1 + 1 = (g.VL T' j).length by omega] at v4
      have hTv : T ≤ lastTm (g.VL T' j) := by
        have := h.le _ v2 (p - 1) (by omega)
        rw [← tAt_take v4 (by omega), hvp] at this
        exact this
      have hcne : (g.CL T' (g.L T')).length ≠ 0 := by
        intro e
        have e0 : lastTm (g.CL T' (g.L T')) = 0 := if_pos e
        rcases h.far T' j _ hj hv (fun _ => hq) with hf | ⟨hf, _⟩
        · omega
        · omega
      have hlc : lastTm (g.CL T' (g.L T')) = tAt (g.CL T' (g.L T')) ((g.CL T' (g.L T')).length - 1) := if_neg hcne
      have hclast := hcg ((g.CL T' (g.L T')).length - 1) (by omega)
      have hclt := h.clt T' hT' ((g.CL T' (g.L T')).length - 1) (by omega)
      rw [← hlc] at hclast hclt
      obtain ⟨c1, c2, c3, c4⟩ := hclast
      rw [show (g.CL T' (g.L T')).length - 1 + 1 = (g.CL T' (g.L T')).length by omega] at c4
      rcases h.far T' j _ hj hv (fun _ => hq) with hf | ⟨hf, hfl⟩
      · -- a later last term
        have hs := ih' _ (by omega) hclt c2
        have hpc : p ≤ (g.CL T' (g.L T')).length := by
          rcases Nat.lt_or_ge (g.CL T' (g.L T')).length p with hlt' | hge
          · exfalso
            have e1 : tAt (g.LL T) ((g.CL T' (g.L T')).length - 1) = lastTm (g.CL T' (g.L T')) := by
              rw [← tAt_take hs.2 (by omega), ← tAt_take c4 (by omega), hlc]
            have := h.le T hT ((g.CL T' (g.L T')).length - 1) (by omega)
            omega
          · exact hge
        refine enough hpc ?_
        rw [← hs.2]
        exact take_le c4 hpc
      · -- the same last term
        have hpc : p ≤ (g.CL T' (g.L T')).length := by omega
        refine enough hpc ?_
        rw [take_le c4 hpc, ← hf, ← take_le v4 hvl]
        exact hvt
    · exact absurd (ih' T'' h1 h2 h3) h4
end Go.AM

set_option maxRecDepth 100000
set_option maxHeartbeats 8000000
set_option linter.unusedSimpArgs false
namespace Go.AM
open Go.Proofs
structure Gx (g g' : Gh) : Prop where
  el : ∀ T, g.el T → g'.el T
  L : ∀ T, g.el T → g'.L T = g.L T
  LL : ∀ T, g.el T → g'.LL T = g.LL T ∨ ∃ e, g'.LL T = g.LL T ++ [e] ∧ eTerm e = T
  V : ∀ T j c, g.V T j = some c → g'.V T j = some c ∧ g'.VL T j = g.VL T j
  CL : ∀ T, g.el T → g'.CL T (g.L T) = g.CL T (g.L T)
  A : ∀ T j, g.A T j ≤ g'.A T j
  Q : ∀ T, g.el T → g'.Q T = g.Q T
theorem Gx.refl (g : Gh) : Gx g g := ⟨fun _ h => h, fun _ _ => rfl, fun _ _ => .inl rfl, fun _ _ _ h => ⟨h, rfl⟩, fun _ _ => rfl, fun _ _ => Nat.le_refl _, fun _ _ => rfl⟩
section
variable {g g' : Gh} {N : Nat}
theorem Gx.len (h : Gx g g') {T : Int} (he : g.el T) : (g.LL T).length ≤ (g'.LL T).length := by
  rcases h.LL T he with e | ⟨e, e1, _⟩
  · rw [e]; exact Nat.le_refl _
  · rw [e1, List.length_append]; omega
theorem Gx.take (h : Gx g g') {T : Int} (he : g.el T) {p : Nat} (hp : p ≤ (g.LL T).length) : (g'.LL T).take p = (g.LL T).take p := by
  rcases h.LL T he with e | ⟨e, e1, _⟩
  · rw [e]
  · rw [e1, List.take_append_of_le_length hp]
theorem Gx.tAt (h : Gx g g') {T : Int} (he : g.el T) {i : Nat} (hi : i < (g.LL T).length) : AM.tAt (g'.LL T) i = AM.tAt (g.LL T) i :=
  tAt_take (k := (g.LL T).length) (h.take he (Nat.le_refl _)) hi
theorem Gx.gl (h : Gx g g') {l : List E} (hl : GL g l) : GL g' l := by
  intro i hi
  obtain ⟨a, b, c, d⟩ := hl i hi
  exact ⟨a, h.el _ b, Nat.lt_of_lt_of_le c (h.len b), by rw [h.take b (by omega)]; exact d⟩
theorem Gx.cm (h : Gx g g') {T : Int} {p : Nat} (hc : Cm g N T p) : Cm g' N T p := by
  obtain ⟨a, b, c, d, e⟩ := hc
  exact ⟨h.el _ a, b, Nat.le_trans c (h.len a), by rw [h.tAt a (by omega)]; exact d, e.mono fun j _ hj => Nat.le_trans hj (h.A T j)⟩
theorem Gx.has (h : Gx g g') {T' T : Int} {p : Nat} (hT' : g.el T') (hT : g.el T) (hp : p ≤ (g.LL T).length) (hh : Has g T' T p) : Has g' T' T p :=
  ⟨Nat.le_trans hh.1 (h.len hT'), by rw [h.take hT' hh.1, h.take hT hp]; exact hh.2⟩
theorem Gx.hasnt (h : Gx g g') (hI : GI N g) {T' T : Int} {p : Nat} (hT' : g.el T') (hT : g.el T) (hlt : T < T') (hp1 : 1 ≤ p) (hp : p ≤ (g.LL T).length) (hh : ¬ Has g T' T p) : ¬ Has g' T' T p := by
  rintro ⟨h1, h2⟩
  rw [h.take hT hp] at h2
  by_cases hle : p ≤ (g.LL T').length
  · exact hh ⟨hle, by rw [← h2, h.take hT' hle]⟩
  · rcases h.LL T' hT' with e | ⟨e, e1, e2⟩
    · rw [e] at h1; omega
    · have hl : (g'.LL T').length = (g.LL T').length + 1 := by rw [e1, List.length_append]; rfl
      have hpe : p = (g.LL T').length + 1 := by omega
      have ht := tAt_take h2 (i := p - 1) (by omega)
      have h3 := hI.le T hT (p - 1) (by omega)
      have h4 : AM.tAt (g'.LL T') (p - 1) = T' := by
        unfold AM.tAt
        rw [e1, hpe, List.getD_eq_getElem?_getD, List.getElem?_append_right (by omega), show (g.LL T').length + 1 - 1 - (g.LL T').length = 0 by omega]
        exact e2
      omega
theorem Gx.kept (h : Gx g g') (hI : GI N g) {l : List E} {T : Int} {p : Nat} {hi hi' : Int → Prop} (hT : g.el T) (hp1 : 1 ≤ p) (hp : p ≤ (g.LL T).length) (hii : ∀ T', hi T' → hi' T') (hk : Kept g l T p hi) : Kept g' l T p hi' := by
  rcases hk with ⟨a, b⟩ | ⟨T', a, b, c, d⟩
  · exact .inl ⟨a, by rw [h.take hT hp]; exact b⟩
  · exact .inr ⟨T', a, hii _ b, h.el _ c, h.hasnt hI c hT a hp1 hp d⟩
end
def nAt (l : List Int) (i : Nat) : Int := l.getD i 0
structure NI (N : Nat) (g : Gh) (j : Nat) (n : Node) : Prop where
  id : nId n = j
  nodes : nNodes n = N
  base : nBase n = 0
  bt : nBT n = 0
  vl : (nVotes n).length = N
  nl : (nNext n).length = N
  ml : (nMatch n).length = N
  t0 : 0 ≤ nTerm n
  role : 0 ≤ nRole n ∧ nRole n ≤ 2
  gl : GL g (nLog n)
  le : ∀ i, i < (nLog n).length → tAt (nLog n) i ≤ nTerm n
  vfut : ∀ T, nTerm n < T → g.V T j = none
  vcur : (nVote n = -1 ∧ g.V (nTerm n) j = none) ∨ ∃ c : Nat, c < N ∧ nVote n = c ∧ g.V (nTerm n) j = some c
  cand : nRole n = 1 → nLog n = g.CL (nTerm n) j ∧ g.V (nTerm n) j = some j ∧ (∀ i, i < N → (nVotes n).getD i false = true → g.V (nTerm n) i = some j) ∧ (g.el (nTerm n) → g.L (nTerm n) ≠ j)
  ldr : nRole n = 2 → g.el (nTerm n) ∧ g.L (nTerm n) = j ∧ nLog n = g.LL (nTerm n) ∧ ∀ i, i < N → nAt (nMatch n) i ≤ g.A (nTerm n) i
  kept : ∀ T p, g.el T → T ≤ nTerm n → 1 ≤ p → p ≤ g.A T j → Kept g (nLog n) T p (fun T' => T' ≤ nTerm n)
  afut : ∀ T, nTerm n < T → g.A T j = 0
  own : ∀ T, g.el T → g.L T = j → T ≤ nTerm n ∧ g.A T j = (g.LL T).length
  cm : nCommit n = 0 ∨ ∃ (T : Int) (p : Nat), Cm g N T p ∧ T ≤ nTerm n ∧ 0 ≤ nCommit n ∧ nCommit n ≤ p ∧ (nCommit n).toNat ≤ (nLog n).length ∧ (nLog n).take (nCommit n).toNat = (g.LL T).take (nCommit n).toNat
  nx : ∀ v, v ∈ nNext n → (1 : Int) ≤ v
  mx : ∀ v, v ∈ nMatch n → (0 : Int) ≤ v
/-- What holds of every message that was ever sent. -/
structure MSI (N : Nat) (g : Gh) (m : Msg) : Prop where
  kind : 1 ≤ mKind m ∧ mKind m ≤ 4
  ask : mKind m = 1 → ∃ c : Nat, c < N ∧ mFrom m = c ∧ g.V (mTerm m) c = some c ∧ mIndex m = (g.CL (mTerm m) c).length ∧ mAt m = lastTm (g.CL (mTerm m) c)
  give : mKind m = 2 → mYes m = true → ∃ i c : Nat, i < N ∧ mFrom m = i ∧ mTo m = c ∧ g.V (mTerm m) i = some c
  app : mKind m = 3 → g.el (mTerm m) ∧ mFrom m = (g.L (mTerm m) : Int) ∧ 0 ≤ mIndex m ∧ (mIndex m).toNat + (mEntries m).length ≤ (g.LL (mTerm m)).length ∧
    mAt m = lastTm ((g.LL (mTerm m)).take (mIndex m).toNat) ∧ (∃ r, mEntries m = ((g.LL (mTerm m)).drop (mIndex m).toNat).take r) ∧
    (mCommit m ≤ 0 ∨ ∃ (T : Int) (p : Nat), Cm g N T p ∧ T ≤ mTerm m ∧ mCommit m ≤ p)
  took : mKind m = 4 → mYes m = true → ∃ i : Nat, i < N ∧ mFrom m = i ∧ 0 ≤ mIndex m ∧ (mIndex m).toNat ≤ g.A (mTerm m) i
/-- A change that is none of this node's. -/
structure Far (g g' : Gh) (j : Nat) : Prop where
  V : ∀ T, g'.V T j = g.V T j
  A : ∀ T, g'.A T j = g.A T j
  CL : ∀ T, g'.CL T j = g.CL T j
  el : ∀ T, g'.el T → ¬ g.el T → g'.L T ≠ j
  LL : ∀ T, g.el T → g.L T = j → g'.LL T = g.LL T
theorem NI.far {N : Nat} {g g' : Gh} {j : Nat} {n : Node} (h : NI N g j n) (hj : j < N) (hx : Gx g g') (hI : GI N g) (hf : Far g g' j) : NI N g' j n := by
  have old : ∀ T, g'.el T → g'.L T = j → g.el T := fun T h1 h2 => by
    apply Classical.byContradiction
    intro h3
    exact hf.el T h1 h3 h2
  refine ⟨h.id, h.nodes, h.base, h.bt, h.vl, h.nl, h.ml, h.t0, h.role, hx.gl h.gl, h.le, fun T hT => by rw [hf.V]; exact h.vfut T hT, ?_, fun hr => ?_, fun hr => ?_, fun T p hT hle hp1 hp => ?_, fun T hT => by rw [hf.A]; exact h.afut T hT, fun T hT hL => ?_, ?_, h.nx, h.mx⟩
  · rw [hf.V]; exact h.vcur
  · obtain ⟨a, b, c, d⟩ := h.cand hr
    refine ⟨by rw [hf.CL]; exact a, by rw [hf.V]; exact b, fun i hi hv => (hx.V _ i _ (c i hi hv)).1, fun he hL => ?_⟩
    have he0 := old _ he hL
    exact d he0 (by rw [← hx.L _ he0]; exact hL)
  · obtain ⟨a, b, c, d⟩ := h.ldr hr
    exact ⟨hx.el _ a, by rw [hx.L _ a]; exact b, by rw [hf.LL _ a b]; exact c, fun i hi => Int.le_trans (d i hi) (Int.ofNat_le.2 (hx.A _ i))⟩
  · rw [hf.A] at hp
    have he : g.el T := by
      apply Classical.byContradiction
      intro hne
      rw [hI.a0 T j hne] at hp
      omega
    exact hx.kept hI he hp1 (Nat.le_trans hp (hI.ack T j hj he)) (fun _ h => h) (h.kept T p he hle hp1 hp)
  · have he := old T hT hL
    have hL0 : g.L T = j := by rw [← hx.L T he]; exact hL
    obtain ⟨a, b⟩ := h.own T he hL0
    exact ⟨a, by rw [hf.A, hf.LL T he hL0]; exact b⟩
  · rcases h.cm with e | ⟨T, p, a, b, c, d, e, f⟩
    · exact .inl e
    · refine .inr ⟨T, p, hx.cm a, b, c, d, e, ?_⟩
      have : (nCommit n).toNat ≤ p := by omega
      rw [hx.take a.1 (Nat.le_trans this a.2.2.1)]
      exact f
theorem MSI.grow {N : Nat} {g g' : Gh} {m : Msg} (h : MSI N g m) (hx : Gx g g') (hcl : ∀ T c, g.V T c = some c → g'.CL T c = g.CL T c) : MSI N g' m := by
  refine ⟨h.kind, fun hk => ?_, fun hk hy => ?_, fun hk => ?_, fun hk hy => ?_⟩
  · obtain ⟨c, a, b, d, e, f⟩ := h.ask hk
    exact ⟨c, a, b, (hx.V _ _ _ d).1, by rw [hcl _ _ d]; exact e, by rw [hcl _ _ d]; exact f⟩
  · obtain ⟨i, c, a, b, d, e⟩ := h.give hk hy
    exact ⟨i, c, a, b, d, (hx.V _ _ _ e).1⟩
  · obtain ⟨a, b, c, d, e, ⟨r, f⟩, k⟩ := h.app hk
    refine ⟨hx.el _ a, by rw [hx.L _ a]; exact b, c, Nat.le_trans d (hx.len a), by rw [hx.take a (by omega)]; exact e, ⟨(mEntries m).length, ?_⟩, ?_⟩
    · have e1 : (g'.LL (mTerm m)).take ((mIndex m).toNat + (mEntries m).length) = (g.LL (mTerm m)).take ((mIndex m).toNat + (mEntries m).length) := hx.take a d
      have e2 : ((g'.LL (mTerm m)).drop (mIndex m).toNat).take (mEntries m).length = ((g.LL (mTerm m)).drop (mIndex m).toNat).take (mEntries m).length := by
        rw [List.take_drop, List.take_drop, e1]
      rw [e2]
      have e3 : ∀ l : List E, l = ((g.LL (mTerm m)).drop (mIndex m).toNat).take r → l = ((g.LL (mTerm m)).drop (mIndex m).toNat).take l.length := by
        intro l hl
        have : (((g.LL (mTerm m)).drop (mIndex m).toNat).take l.length) = (((g.LL (mTerm m)).drop (mIndex m).toNat).take r) := by
          rw [List.take_eq_take_iff, hl, List.length_take]; omega
        rw [this]; exact hl
      exact e3 _ f
    · rcases k with k | ⟨T, p, k1, k2, k3⟩
      · exact .inl k
      · exact .inr ⟨T, p, hx.cm k1, k2, k3⟩
  · obtain ⟨i, a, b, c, d⟩ := h.took hk hy
    exact ⟨i, a, b, c, Nat.le_trans d (hx.A _ i)⟩
end Go.AM

set_option maxRecDepth 100000
set_option maxHeartbeats 8000000
set_option linter.unusedSimpArgs false
namespace Go.AM
open Go.Proofs
def upd2 {α : Type} (f : Int → Nat → α) (T : Int) (j : Nat) (x : α) : Int → Nat → α := fun T' j' => if T' = T ∧ j' = j then x else f T' j'
theorem upd2_at {α : Type} (f : Int → Nat → α) (T : Int) (j : Nat) (x : α) : upd2 f T j x T j = x := if_pos ⟨rfl, rfl⟩
theorem upd2_ne {α : Type} {f : Int → Nat → α} {T T' : Int} {j j' : Nat} {x : α} (h : ¬ (T' = T ∧ j' = j)) : upd2 f T j x T' j' = f T' j' := if_neg h
/-- j votes for c in term T, with its log -/
def gVote (g : Gh) (T : Int) (j c : Nat) (l : List E) : Gh := { g with V := upd2 g.V T j (some c), VL := upd2 g.VL T j l }
/-- j begins to ask for votes in term T -/
def gStart (g : Gh) (T : Int) (j : Nat) (l : List E) : Gh := { gVote g T j j l with CL := upd2 g.CL T j l }
section
variable {N : Nat} {g : Gh} {j : Nat} {n : Node} {T : Int} {c : Nat}
theorem gVote_gx {l : List E} (h : g.V T j = none) : Gx g (gVote g T j c l) := by
  refine ⟨fun _ h => h, fun _ _ => rfl, fun _ _ => .inl rfl, fun T' k c' hv => ?_, fun _ _ => rfl, fun _ _ => Nat.le_refl _, fun _ _ => rfl⟩
  have hne : ¬ (T' = T ∧ k = j) := by rintro ⟨rfl, rfl⟩; rw [h] at hv; cases hv
  exact ⟨by show upd2 g.V T j (some c) T' k = _; rw [upd2_ne hne]; exact hv, upd2_ne hne⟩
theorem gStart_gx {l : List E} (h : g.V T j = none) (ho : g.el T → g.L T ≠ j) : Gx g (gStart g T j l) := by
  have hx := gVote_gx (g := g) (c := j) (l := l) h
  refine ⟨fun _ h => h, fun _ _ => rfl, fun _ _ => .inl rfl, hx.V, fun T' he => upd2_ne ?_, fun _ _ => Nat.le_refl _, fun _ _ => rfl⟩
  rintro ⟨rfl, e⟩
  exact ho he e
theorem gVote_cases {l : List E} {T' : Int} {k c' : Nat} (hv : (gVote g T j c l).V T' k = some c') : (T' = T ∧ k = j ∧ c' = c ∧ (gVote g T j c l).VL T' k = l) ∨ (g.V T' k = some c' ∧ (gVote g T j c l).VL T' k = g.VL T' k) := by
  by_cases hne : T' = T ∧ k = j
  · left
    obtain ⟨rfl, rfl⟩ := hne
    have hv : upd2 g.V T' k (some c) T' k = some c' := hv
    rw [upd2_at] at hv
    exact ⟨rfl, rfl, (Option.some.inj hv).symm, upd2_at ..⟩
  · right
    have hv : upd2 g.V T j (some c) T' k = some c' := hv
    rw [upd2_ne hne] at hv
    exact ⟨hv, upd2_ne hne⟩
/-- A vote for one whose log is as far. -/
theorem gVote_gi (hI : GI N g) (hj : j < N) (h : g.V T j = none) (hn : NI N g j n) (hT : nTerm n ≤ T) (hT2 : ∀ T', T' < T → 1 ≤ g.A T' j → T' ≤ nTerm n) (hs : c = j ∨ g.V T c = some c)
    (hf : lastTm (nLog n) < lastTm (g.CL T c) ∨ (lastTm (nLog n) = lastTm (g.CL T c) ∧ (nLog n).length ≤ (g.CL T c).length)) : GI N (gVote g T j c (nLog n)) := by
  have hx := gVote_gx (g := g) (c := c) (l := nLog n) h
  have hnq : g.el T → ¬ g.Q T j := fun he hq => by rw [hI.qv T j he hq] at h; cases h
  refine ⟨hI.pos, hI.lead, hI.maj, fun T' k he hq => (hx.V _ _ _ (hI.qv T' k he hq)).1, fun T' he => hx.gl (hI.gl T' he), hI.le, hI.pre, hI.app, hI.clt, fun T' k c' hk h1 hq => ?_, fun T' k c' hk h1 hq => ?_, hI.ack, hI.a0, fun T1 T2 k c' p hk he hlt h1 hq hp1 hp => ?_, fun T' k c' h1 => ?_⟩
  · rcases gVote_cases h1 with ⟨rfl, rfl, _, e⟩ | ⟨h2, e⟩
    · rw [e]; exact hx.gl hn.gl
    · rw [e]; exact hx.gl (hI.vgl T' k c' hk h2 hq)
  · rcases gVote_cases h1 with ⟨rfl, rfl, rfl, e⟩ | ⟨h2, e⟩
    · rw [e]; exact hf
    · rw [e]; exact hI.far T' k c' hk h2 hq
  · have hpl : p ≤ (g.LL T1).length := Nat.le_trans hp (hI.ack T1 k hk he)
    rcases gVote_cases h1 with ⟨rfl, rfl, _, e⟩ | ⟨h2, e⟩
    · rw [e]
      have hne : ¬ g.el T2 := fun he2 => hnq he2 (hq he2)
      have hTn : T1 ≤ nTerm n := hT2 T1 hlt (Nat.le_trans hp1 hp)
      have := hn.kept T1 p he hTn hp1 hp
      refine hx.kept hI he hp1 hpl (fun T'' h => h) (hi := fun T' => T' < T2) ?_
      rcases this with a | ⟨T'', a, b, d, e'⟩
      · exact .inl a
      · refine .inr ⟨T'', a, ?_, d, e'⟩
        have b : T'' ≤ nTerm n := b
        have : T'' ≠ T2 := fun e => hne (e ▸ d)
        show T'' < T2
        omega
    · rw [e]
      exact hx.kept hI he hp1 hpl (fun _ h => h) (hI.vk T1 T2 k c' p hk he hlt h2 hq hp1 hp)
  · rcases gVote_cases h1 with ⟨rfl, rfl, rfl, _⟩ | ⟨h2, _⟩
    · rcases hs with rfl | hs
      · exact upd2_at ..
      · exact (hx.V _ _ _ hs).1
    · exact (hx.V _ _ _ (hI.self _ _ _ h2)).1
end
end Go.AM

set_option maxRecDepth 100000
set_option maxHeartbeats 8000000
set_option linter.unusedSimpArgs false
namespace Go.AM
open Go.Proofs
def upd1 {α : Type} (f : Int → α) (T : Int) (x : α) : Int → α := fun T' => if T' = T then x else f T'
theorem upd1_at {α : Type} (f : Int → α) (T : Int) (x : α) : upd1 f T x T = x := if_pos rfl
theorem upd1_ne {α : Type} {f : Int → α} {T T' : Int} {x : α} (h : T' ≠ T) : upd1 f T x T' = f T' := if_neg h
def gLead (g : Gh) (T : Int) (j : Nat) (l : List E) : Gh :=
  { g with el := fun T' => T' = T ∨ g.el T', L := upd1 g.L T j, LL := upd1 g.LL T l, A := upd2 g.A T j l.length, Q := upd1 g.Q T (fun k => g.V T k = some j) }
section
variable {N : Nat} {g : Gh} {j : Nat} {n : Node} {T : Int} {c : Nat}
theorem gLead_gx {l : List E} (h : ¬ g.el T) (ha : g.A T j = 0) : Gx g (gLead g T j l) := by
  have hne : ∀ T', g.el T' → T' ≠ T := fun T' he e => h (e ▸ he)
  refine ⟨fun _ h => .inr h, fun T' he => upd1_ne (hne T' he), fun T' he => .inl (upd1_ne (hne T' he)), fun _ _ _ hv => ⟨hv, rfl⟩, fun _ _ => rfl, fun T' k => ?_, fun T' he => upd1_ne (hne T' he)⟩
  show g.A T' k ≤ upd2 g.A T j l.length T' k
  by_cases e : T' = T ∧ k = j
  · obtain ⟨rfl, rfl⟩ := e
    rw [ha]; exact Nat.zero_le _
  · rw [upd2_ne e]; exact Nat.le_refl _
theorem gLead_gi {cmd : ByteArray} (hI : GI N g) (hj : j < N) (h : ¬ g.el T) (hn : NI N g j n) (hT : nTerm n = T) (h1 : 1 ≤ T) (hr : nRole n = 1) (hm : Maj N fun k => g.V T k = some j) : GI N (gLead g T j (nLog n ++ [mkE T cmd])) := by
  have hx := gLead_gx (j := j) (l := nLog n ++ [mkE T cmd]) h (hI.a0 T j h)
  have hne : ∀ T', g.el T' → T' ≠ T := fun T' he e => h (e ▸ he)
  have hlen : (nLog n ++ [mkE T cmd]).length = (nLog n).length + 1 := by rw [List.length_append]; rfl
  have hlast : tAt (nLog n ++ [mkE T cmd]) (nLog n).length = T := by
    unfold tAt
    rw [List.getD_eq_getElem?_getD, List.getElem?_append_right (Nat.le_refl _), Nat.sub_self]
    rfl
  have hlow : ∀ i, i < (nLog n).length → tAt (nLog n ++ [mkE T cmd]) i = tAt (nLog n) i := fun i hi => tAt_take (k := (nLog n).length) (by rw [List.take_append_of_le_length (Nat.le_refl _)]) hi
  obtain ⟨c1, c2, c3, c4⟩ := hn.cand hr
  rw [hT] at c1 c2 c3 c4
  have hstrict : ∀ i, i < (nLog n).length → tAt (nLog n) i < T := fun i hi => by
    have a := hn.le i hi
    have b := hn.gl i hi
    have : tAt (nLog n) i ≠ T := hne _ b.2.1
    omega
  have eLL : (gLead g T j (nLog n ++ [mkE T cmd])).LL T = nLog n ++ [mkE T cmd] := upd1_at ..
  have eL : (gLead g T j (nLog n ++ [mkE T cmd])).L T = j := upd1_at ..
  have oLL : ∀ T', g.el T' → (gLead g T j (nLog n ++ [mkE T cmd])).LL T' = g.LL T' := fun T' he => upd1_ne (hne T' he)
  have oL : ∀ T', g.el T' → (gLead g T j (nLog n ++ [mkE T cmd])).L T' = g.L T' := fun T' he => upd1_ne (hne T' he)
  have eCL : ∀ T' k, (gLead g T j (nLog n ++ [mkE T cmd])).CL T' k = g.CL T' k := fun _ _ => rfl
  have guard : ∀ T' k c', g.V T' k = some c' → ((gLead g T j (nLog n ++ [mkE T cmd])).el T' → (gLead g T j (nLog n ++ [mkE T cmd])).Q T' k) → (g.el T' → g.Q T' k) := by
    intro T' k c' _ hq he
    have := hq (.inr he)
    have e : (gLead g T j (nLog n ++ [mkE T cmd])).Q T' = g.Q T' := upd1_ne (hne T' he)
    rw [e] at this
    exact this
  refine ⟨fun T' he => ?_, fun T' he => ?_, fun T' he => ?_, fun T' k he hq => ?_, fun T' he => ?_, fun T' he i hi => ?_, fun T' he => ?_, fun T' he i h2 hi => ?_, fun T' he i hi => ?_, fun T' k c' hk hv hq => hx.gl (hI.vgl T' k c' hk hv (guard T' k c' hv hq)), fun T' k c' hk hv hq => hI.far T' k c' hk hv (guard T' k c' hv hq), fun T' k hk he => ?_, fun T' k he => ?_, fun T1 T2 k c' p hk he hlt hv hq hp1 hp => ?_, hI.self⟩
  · rcases he with rfl | he
    · exact h1
    · exact hI.pos T' he
  · rcases he with rfl | he
    · rw [eL]; exact hj
    · rw [oL T' he]; exact hI.lead T' he
  · rcases he with rfl | he
    · have e : (gLead g T' j (nLog n ++ [mkE T' cmd])).Q T' = fun k => g.V T' k = some j := upd1_at ..
      rw [e]; exact hm
    · have e : (gLead g T j (nLog n ++ [mkE T cmd])).Q T' = g.Q T' := upd1_ne (hne T' he)
      rw [e]; exact hI.maj T' he
  · rcases he with rfl | he
    · have e : (gLead g T' j (nLog n ++ [mkE T' cmd])).Q T' = fun k => g.V T' k = some j := upd1_at ..
      rw [e] at hq
      rw [eL]; exact hq
    · have e : (gLead g T j (nLog n ++ [mkE T cmd])).Q T' = g.Q T' := upd1_ne (hne T' he)
      rw [e] at hq
      rw [oL T' he]; exact hI.qv T' k he hq
  · rcases he with rfl | he
    · rw [eLL]
      intro i hi
      rw [hlen] at hi
      by_cases e : i = (nLog n).length
      · subst e
        rw [hlast]
        exact ⟨h1, .inl rfl, by rw [eLL, hlen]; omega, by rw [eLL]⟩
      · have hi2 : i < (nLog n).length := by omega
        rw [hlow i hi2]
        obtain ⟨a, b, d, f⟩ := hx.gl hn.gl i hi2
        exact ⟨a, b, d, by rw [List.take_append_of_le_length (by omega)]; exact f⟩
    · rw [oLL T' he]; exact hx.gl (hI.gl T' he)
  · rcases he with rfl | he
    · rw [eLL] at hi ⊢
      rw [hlen] at hi
      by_cases e : i = (nLog n).length
      · subst e; rw [hlast]; exact Int.le_refl _
      · rw [hlow i (by omega)]
        exact Int.le_of_lt (hstrict i (by omega))
    · rw [oLL T' he] at hi ⊢; exact hI.le T' he i hi
  · rcases he with rfl | he
    · rw [eL, eCL, eLL, ← c1, hlen]
      exact ⟨by omega, by rw [List.take_append_of_le_length (Nat.le_refl _), List.take_length]⟩
    · rw [oL T' he, eCL, oLL T' he]; exact hI.pre T' he
  · rcases he with rfl | he
    · rw [eL, eCL, ← c1] at h2
      rw [eLL] at hi ⊢
      rw [hlen] at hi
      have e : i = (nLog n).length := by omega
      rw [e]; exact hlast
    · rw [oL T' he, eCL] at h2
      rw [oLL T' he] at hi ⊢
      exact hI.app T' he i h2 hi
  · rcases he with rfl | he
    · rw [eL, eCL, ← c1] at hi ⊢
      exact hstrict i hi
    · rw [oL T' he, eCL] at hi ⊢
      exact hI.clt T' he i hi
  · show upd2 g.A T j (nLog n ++ [mkE T cmd]).length T' k ≤ _
    rcases he with rfl | he
    · rw [eLL]
      by_cases e : k = j
      · subst e; rw [upd2_at]; exact Nat.le_refl _
      · rw [upd2_ne (fun hc => e hc.2), hI.a0 T' k h]; exact Nat.zero_le _
    · rw [upd2_ne (fun hc => hne T' he hc.1), oLL T' he]
      exact hI.ack T' k hk he
  · show upd2 g.A T j (nLog n ++ [mkE T cmd]).length T' k = 0
    rw [upd2_ne (fun hc => he (.inl hc.1))]
    exact hI.a0 T' k (fun h' => he (.inr h'))
  · have hp : p ≤ upd2 g.A T j (nLog n ++ [mkE T cmd]).length T1 k := hp
    have hv2 : g.V T2 k = some c' := hv
    by_cases e : T1 = T ∧ k = j
    · obtain ⟨rfl, rfl⟩ := e
      rw [hn.vfut T2 (by omega)] at hv2
      cases hv2
    · rw [upd2_ne e] at hp
      have he1 : g.el T1 := by
        apply Classical.byContradiction
        intro hc
        rw [hI.a0 T1 k hc] at hp
        omega
      exact hx.kept hI he1 hp1 (Nat.le_trans hp (hI.ack T1 k hk he1)) (fun _ h => h) (hI.vk T1 T2 k c' p hk he1 hlt hv2 (guard T2 k c' hv2 hq) hp1 hp)
end
end Go.AM

set_option maxRecDepth 100000
set_option maxHeartbeats 8000000
set_option linter.unusedSimpArgs false
namespace Go.AM
open Go.Proofs
/-- the leader of T has one entry more -/
def gGrow (g : Gh) (T : Int) (j : Nat) (e : E) : Gh := { g with LL := upd1 g.LL T (g.LL T ++ [e]), A := upd2 g.A T j ((g.LL T).length + 1) }
/-- j has acknowledged so far in T -/
def gAck (g : Gh) (T : Int) (j : Nat) (v : Nat) : Gh := { g with A := upd2 g.A T j (max (g.A T j) v) }
section
variable {N : Nat} {g : Gh} {j : Nat} {n : Node} {T : Int} {c v : Nat}
theorem gAck_gx : Gx g (gAck g T j v) := by
  refine ⟨fun _ h => h, fun _ _ => rfl, fun _ _ => .inl rfl, fun _ _ _ hv => ⟨hv, rfl⟩, fun _ _ => rfl, fun T' k => ?_, fun _ _ => rfl⟩
  show g.A T' k ≤ upd2 g.A T j _ T' k
  by_cases e : T' = T ∧ k = j
  · obtain ⟨rfl, rfl⟩ := e
    rw [upd2_at]; exact Nat.le_max_left _ _
  · rw [upd2_ne e]; exact Nat.le_refl _
theorem gAck_gi (hI : GI N g) (he : g.el T) (hv : v ≤ (g.LL T).length) (hf : ∀ T', T < T' → g.V T' j = none) : GI N (gAck g T j v) := by
  have hx : Gx g (gAck g T j v) := gAck_gx
  refine ⟨hI.pos, hI.lead, hI.maj, hI.qv, fun T' he => hx.gl (hI.gl T' he), hI.le, hI.pre, hI.app, hI.clt, fun T' k c' hk h1 hq => hx.gl (hI.vgl T' k c' hk h1 hq), hI.far, fun T' k hk he' => ?_, fun T' k hne => ?_, fun T1 T2 k c' p hk he1 hlt h1 hq hp1 hp => ?_, hI.self⟩
  · show upd2 g.A T j _ T' k ≤ _
    by_cases e : T' = T ∧ k = j
    · obtain ⟨rfl, rfl⟩ := e
      rw [upd2_at]
      exact Nat.max_le.2 ⟨hI.ack T' k hk he', hv⟩
    · rw [upd2_ne e]; exact hI.ack T' k hk he'
  · show upd2 g.A T j _ T' k = 0
    have e : ¬ (T' = T ∧ k = j) := fun e => hne (e.1 ▸ he)
    rw [upd2_ne e]; exact hI.a0 T' k hne
  · have hp : p ≤ upd2 g.A T j (max (g.A T j) v) T1 k := hp
    have h2 : g.V T2 k = some c' := h1
    by_cases e : T1 = T ∧ k = j
    · obtain ⟨rfl, rfl⟩ := e
      rw [hf T2 hlt] at h2; cases h2
    · rw [upd2_ne e] at hp
      exact hx.kept hI he1 hp1 (Nat.le_trans hp (hI.ack T1 k hk he1)) (fun _ h => h) (hI.vk T1 T2 k c' p hk he1 hlt h2 hq hp1 hp)
theorem gGrow_gx {e : E} (hA : g.A T j = (g.LL T).length) (ht : eTerm e = T) : Gx g (gGrow g T j e) := by
  refine ⟨fun _ h => h, fun _ _ => rfl, fun T' he => ?_, fun _ _ _ hv => ⟨hv, rfl⟩, fun _ _ => rfl, fun T' k => ?_, fun _ _ => rfl⟩
  · by_cases h : T' = T
    · subst h; exact .inr ⟨e, upd1_at .., ht⟩
    · exact .inl (upd1_ne h)
  · show g.A T' k ≤ upd2 g.A T j _ T' k
    by_cases h : T' = T ∧ k = j
    · obtain ⟨rfl, rfl⟩ := h
      rw [upd2_at, hA]; omega
    · rw [upd2_ne h]; exact Nat.le_refl _
theorem gGrow_gi {e : E} (hI : GI N g) (he : g.el T) (hL : g.L T = j) (hA : g.A T j = (g.LL T).length) (ht : eTerm e = T) (hf : ∀ T', T < T' → g.V T' j = none) : GI N (gGrow g T j e) := by
  have hx : Gx g (gGrow g T j e) := gGrow_gx hA ht
  have eLL : (gGrow g T j e).LL T = g.LL T ++ [e] := upd1_at ..
  have oLL : ∀ T', T' ≠ T → (gGrow g T j e).LL T' = g.LL T' := fun T' h => upd1_ne h
  have hlen : (g.LL T ++ [e]).length = (g.LL T).length + 1 := by rw [List.length_append]; rfl
  have hlast : tAt (g.LL T ++ [e]) (g.LL T).length = T := by
    unfold tAt
    rw [List.getD_eq_getElem?_getD, List.getElem?_append_right (Nat.le_refl _), Nat.sub_self]
    exact ht
  have hlow : ∀ i, i < (g.LL T).length → tAt (g.LL T ++ [e]) i = tAt (g.LL T) i := fun i hi => tAt_take (k := (g.LL T).length) (by rw [List.take_append_of_le_length (Nat.le_refl _)]) hi
  refine ⟨hI.pos, hI.lead, hI.maj, hI.qv, fun T' he' => ?_, fun T' he' i hi => ?_, fun T' he' => ?_, fun T' he' i h2 hi => ?_, hI.clt, fun T' k c' hk h1 hq => hx.gl (hI.vgl T' k c' hk h1 hq), hI.far, fun T' k hk he' => ?_, fun T' k hne => ?_, fun T1 T2 k c' p hk he1 hlt h1 hq hp1 hp => ?_, hI.self⟩
  · by_cases h : T' = T
    · subst h
      rw [eLL]
      intro i hi
      rw [hlen] at hi
      by_cases hi2 : i = (g.LL T').length
      · subst hi2
        rw [hlast]
        exact ⟨hI.pos T' he, he, by rw [eLL, hlen]; omega, by rw [eLL]⟩
      · have hi3 : i < (g.LL T').length := by omega
        rw [hlow i hi3]
        obtain ⟨a, b, d, f⟩ := hx.gl (hI.gl T' he) i hi3
        exact ⟨a, b, d, by rw [List.take_append_of_le_length (by omega)]; exact f⟩
    · rw [oLL T' h]; exact hx.gl (hI.gl T' he')
  · by_cases h : T' = T
    · subst h
      rw [eLL] at hi ⊢
      rw [hlen] at hi
      by_cases hi2 : i = (g.LL T').length
      · subst hi2; rw [hlast]; exact Int.le_refl _
      · rw [hlow i (by omega)]; exact hI.le T' he i (by omega)
    · rw [oLL T' h] at hi ⊢; exact hI.le T' he' i hi
  · obtain ⟨a, b⟩ := hI.pre T' he'
    refine ⟨Nat.le_trans a (hx.len he'), ?_⟩
    show ((gGrow g T j e).LL T').take (g.CL T' (g.L T')).length = g.CL T' (g.L T')
    rw [hx.take he' a]; exact b
  · have h2 : (g.CL T' (g.L T')).length ≤ i := h2
    by_cases h : T' = T
    · subst h
      rw [eLL] at hi ⊢
      rw [hlen] at hi
      by_cases hi2 : i = (g.LL T').length
      · subst hi2; exact hlast
      · rw [hlow i (by omega)]; exact hI.app T' he i h2 (by omega)
    · rw [oLL T' h] at hi ⊢; exact hI.app T' he' i h2 hi
  · show upd2 g.A T j _ T' k ≤ _
    by_cases h : T' = T ∧ k = j
    · obtain ⟨rfl, rfl⟩ := h
      rw [upd2_at, eLL, hlen]; exact Nat.le_refl _
    · rw [upd2_ne h]; exact Nat.le_trans (hI.ack T' k hk he') (hx.len he')
  · show upd2 g.A T j _ T' k = 0
    have h : ¬ (T' = T ∧ k = j) := fun h => hne (h.1 ▸ he)
    rw [upd2_ne h]; exact hI.a0 T' k hne
  · have hp : p ≤ upd2 g.A T j ((g.LL T).length + 1) T1 k := hp
    have h2 : g.V T2 k = some c' := h1
    by_cases h : T1 = T ∧ k = j
    · obtain ⟨rfl, rfl⟩ := h
      rw [hf T2 hlt] at h2; cases h2
    · rw [upd2_ne h] at hp
      exact hx.kept hI he1 hp1 (Nat.le_trans hp (hI.ack T1 k hk he1)) (fun _ h => h) (hI.vk T1 T2 k c' p hk he1 hlt h2 hq hp1 hp)
end
end Go.AM
