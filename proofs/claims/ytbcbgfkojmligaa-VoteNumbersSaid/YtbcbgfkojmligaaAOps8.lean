import Derived.Test.YtbcbgfkojmligaaAOps7
/- Part of an abstract machine for Go code and of its soundness, for any program of the model; no condition. -/
set_option linter.unusedVariables false
set_option linter.unusedSimpArgs false
set_option linter.unusedSimpArgs false
namespace Go.AM
open Go.RowKit
section
variable {P : Program} {TT : TyTab} {N : Nat} {rowAt : List Nat} {X : Ctx} {σ : St} {a : Act} {w : World} {φ : Nat → Loc} {G M : Nat → Prop} {o : Oper} {next : Act → World → Prop} {Q : Exit → Act → World → Prop}

/-- append onto what can't be written: nil, or a slice whose capacity is its length. -/
theorem sound_app_full (h : Rel P X σ a w φ G M) {c : Call} (ho : o.op = .call c) (hc : c.callee = .builtin .append) {t e : TypeId} {x y : Operand} (hx : c.args.toList = [x, y]) (ht : c.argTypes.toList = [t, t]) {S bytes : Nat} (F : AppFacts P t e S bytes)
    {ty : Ty} {xs ys : List (den ty)} (hS : size ty = S) {v : AV} (hpx : RA P φ G M w σ.heap (.sl ty xs true) (a.eval x)) (hpy : RA P φ G M w σ.heap v (a.eval y)) (hys : slOf σ.heap ty v = some ys) {d : Nat} (hd : hget σ.heap d = none)
    (hn : (xs = [] ∨ ys ≠ []) ∧ xs.length + ys.length ≤ 140737488355328 ∧ (xs.length + ys.length) * bytes ≤ 140737488355328)
    (hk : Cont P X σ { put := [(d, .row ty (xs ++ ys) false)] } (.own d 0 (xs.length + ys.length)) a o next) : o.wp P a w next Q := by
  obtain ⟨hpl, hz, A2, c2, hy, hels⟩ := slOf_els h.heap hpy hys
  have hxe : ∃ A, a.eval x = .slice A xs.length xs.length ∧ (xs = [] ∨ ∃ b off cs, A = some ⟨b, off, none⟩ ∧ Els P G w ty xs b off cs) := by
    obtain ⟨_, _, A, cc, hx1, he1⟩ := slOf_els h.heap hpx (t := ty) (ys := xs) (by simp [slOf, castL?])
    simp only [RA] at hpx
    obtain ⟨A', hA'⟩ := hpx.2.2.2 trivial
    rw [hx1] at hA'
    simp only [Value.slice.injEq] at hA'
    exact ⟨A, by rw [hx1, hA'.2.2], he1⟩
  obtain ⟨A, hxv, hxels⟩ := hxe
  by_cases hyn : ys = []
  · have hxn : xs = [] := hn.1.resolve_right (fun h => h hyn)
    subst hyn; subst hxn
    have hrun : (Builtin.append_ #[t, t] o.type #[a.eval x, a.eval y]).run P w = .ok (.slice A 0 0) w := by
      obtain ⟨i, z, hi, hz, hsz, hby, hzc⟩ := F.info
      rw [hxv, hy]
      have hf : (Builtin.firstCells i.size 0 (.slice A2 0 c2)).run P w = .ok #[] w := by
        cases A2 with
        | none => exact run_firstCells_none w _ _ _ _
        | some ad => simpa using run_firstCells_some (P := P) w i.size 0 ad 0 c2 [] (by simp) (fun j u hu => by simp at hu)
      cases A with
      | none => simp [Builtin.append_, run_underlying F.hu, Go.sizeOf, typeInfo, hi, Builtin.lenOf, hf]
      | some ad => simp [Builtin.append_, run_underlying F.hu, Go.sizeOf, typeInfo, hi, Builtin.lenOf, hf, storeCells]
    unfold Oper.wp
    rw [app_exec ho hc hx ht hrun]
    refine hk w _ _ _ _ (h.newNo d ty false hpl hz hd) ?_
    simp only [RA, eff_put1, List.nil_append, hget_hput_self, setφ_self]
    exact ⟨by simp, A, by simp, by simp, .inl (by simp)⟩
  · obtain ⟨b2, off2, cs2, rfl, h2⟩ := hels.resolve_left hyn
    obtain ⟨w', cells, cap', hrun, hnb, hc63, hcs, hlc, hels'⟩ := append_grows (ty := o.type) F hS (xs := xs) (A := A) (cap := xs.length) (c := c2) (fun hx => by
      obtain ⟨b, off, cs, hA, he⟩ := hxels.resolve_left hx; exact ⟨b, off, hA, cs, he⟩) (by have := List.length_pos_iff.2 hyn; omega) (fun hA => by
      rcases hxels with rfl | ⟨b, off, cs, hA', _⟩
      · rfl
      · rw [hA] at hA'; cases hA') h2 hyn hn.2.1 hn.2.2
    unfold Oper.wp
    rw [app_exec ho hc hx ht (by rw [hxv, hy]; exact hrun)]
    obtain ⟨φ', G', M', hR, hφ⟩ := row_cont h (t := ty) (xs := xs ++ ys) (cap := cap') hd hnb hpl hz hc63 (by rw [hS]; exact hcs) hlc hels'
    refine hk w' _ _ _ _ hR ?_
    exact own_all hφ hlc _ (by simp)

theorem eff_del1 (σ : St) (k d : Nat) (ob : Obj) : σ.eff { frz := [], del := [k], put := [(d, ob)] } = ⟨killE k σ.env, hput (killH k (hdel σ.heap k)) d ob⟩ := rfl

/-- append onto a row of one's own. -/
theorem sound_app_own (h : Rel P X σ a w φ G M) {c : Call} (ho : o.op = .call c) (hc : c.callee = .builtin .append) {t e : TypeId} {x y : Operand} (hx : c.args.toList = [x, y]) (ht : c.argTypes.toList = [t, t]) {S bytes : Nat} (F : AppFacts P t e S bytes)
    {ty : Ty} {xs ys : List (den ty)} (hS : size ty = S) {k lo n : Nat} (hkk : hget σ.heap k = some (.row ty xs false)) {v : AV} (hpx : RA P φ G M w σ.heap (.own k lo n) (a.eval x)) (hpy : RA P φ G M w σ.heap v (a.eval y)) (hys : slOf σ.heap ty v = some ys) {d : Nat} (hd : k = d ∨ hget σ.heap d = none)
    (hn : n + ys.length ≤ 140737488355328 ∧ (n + ys.length) * bytes ≤ 140737488355328)
    (hk : Cont P X σ { frz := [], del := [k], put := [(d, .row ty ((xs.drop lo).take n ++ ys) false)] } (.own d 0 (n + ys.length)) a o next) : o.wp P a w next Q := by
  obtain ⟨hpl, hz, A2, c2, hy, hels⟩ := slOf_els h.heap hpy hys
  have hxe := slOf_els h.heap hpx (t := ty) (ys := (xs.drop lo).take n) (by simp [slOf, hkk, castL?])
  simp only [RA, hkk] at hpx
  obtain ⟨hle, A, hxv, hcap, hA⟩ := hpx
  have hl : ((xs.drop lo).take n).length = n := by simp; omega
  obtain ⟨_, _, A1, cc1, hx1, he1⟩ := hxe
  rw [hxv, hl] at hx1
  simp only [Value.slice.injEq] at hx1
  obtain ⟨rfl, _, rfl⟩ := hx1
  have hob := h.heap.obj k _ hkk
  simp only [RObj] at hob
  obtain ⟨⟨_, _, hrow⟩, hgm⟩ := hob
  have h1 := h.kill1 k
  have hdk : hget (killH k (hdel σ.heap k)) d = none := by
    by_cases e : d = k
    · subst e; rw [hget_killH, hget_hdel, if_pos rfl]; rfl
    · rw [hget_kill k σ.heap d e]
      rcases hd with rfl | hd
      · exact absurd rfl e
      · rw [hd]; rfl
  by_cases hroom : n + ys.length ≤ (φ k).cap - lo
  · by_cases hc0 : (φ k).cap - lo = 0
    · -- nothing at all
      have hn0 : n = 0 := by omega
      have hy0 : ys = [] := List.eq_nil_of_length_eq_zero (by omega)
      subst hn0; subst hy0
      have hrun : (Builtin.append_ #[t, t] o.type #[a.eval x, a.eval y]).run P w = .ok (.slice A 0 0) w := by
        obtain ⟨i, z, hi, hz, hsz, hby, hzc⟩ := F.info
        rw [hxv, hy, hc0]
        have hf : (Builtin.firstCells i.size 0 (.slice A2 0 c2)).run P w = .ok #[] w := by
          cases A2 with
          | none => exact run_firstCells_none w _ _ _ _
          | some ad => simpa using run_firstCells_some (P := P) w i.size 0 ad 0 c2 [] (by simp) (fun j u hu => by simp at hu)
        cases A with
        | none => simp [Builtin.append_, run_underlying F.hu, Go.sizeOf, typeInfo, hi, Builtin.lenOf, hf]
        | some ad => simp [Builtin.append_, run_underlying F.hu, Go.sizeOf, typeInfo, hi, Builtin.lenOf, hf, storeCells]
      unfold Oper.wp
      rw [app_exec ho hc hx ht hrun]
      refine hk w _ _ _ _ (h1.newNo d ty false hpl hz hdk) ?_
      simp only [RA, eff_del1, List.take_zero, List.nil_append, hget_hput_self, setφ_self]
      exact ⟨by simp, A, by simp, by simp, .inl (by simp)⟩
    · -- in place
      have hA' := hA.resolve_left hc0
      subst hA'
      rcases hrow with ⟨hc1, rfl⟩ | ⟨cl, et, hc1, hc63, hblk, hfit, hlx, hcells⟩
      · omega
      have hMk : M (φ k).blk := (hgm hc1).2 trivial
      -- the cells that come
      have hnews : ∃ news : List Value, news.length = ys.length * S ∧ (Builtin.firstCells S ys.length (.slice A2 ys.length c2)).run P w = .ok news.toArray w ∧ (∀ u ∈ news, u.oneCell' = true) ∧ ∀ i, (hi : i < ys.length) → RT P ty G w ys[i] ((news.drop (i * size ty)).take (size ty)) := by
        rcases hels with rfl | ⟨b2, off2, cs2, rfl, h2⟩
        · refine ⟨[], by simp, ?_, by simp, fun i hi => by simp at hi⟩
          cases A2 with
          | none => exact run_firstCells_none w _ _ _ _
          | some ad => simpa using run_firstCells_some (P := P) w S 0 ad 0 c2 [] (by simp) (fun j u hu => by simp at hu)
        · exact ⟨cs2, by rw [h2.len, hS], run_firstCells_some (P := P) w S ys.length _ _ _ cs2 (by rw [h2.len, hS]) (els_cell h2), h2.one (by omega), h2.els⟩
      obtain ⟨news, hnl, hfr, hone, hnels⟩ := hnews
      obtain ⟨i, z, hi, hzz, hsz, hby, hzc⟩ := F.info
      have hmul : lo * size ty + (n + ys.length) * size ty ≤ (φ k).cap * size ty := by rw [← Nat.add_mul]; exact Nat.mul_le_mul_right _ (by omega)
      rw [Nat.add_mul] at hmul
      have hfit2 : (φ k).base + lo * size ty + n * size ty + news.length ≤ cl.size := by rw [hnl, ← hS]; omega
      have hst := run_storeCells_at P (φ k).blk ((φ k).base + lo * size ty + n * size ty) et news 0 cl w hblk (by simpa using hfit2) hone
      simp only [Nat.add_zero] at hst
      have hrun : (Builtin.append_ #[t, t] o.type #[a.eval x, a.eval y]).run P w = .ok (.slice (some ⟨(φ k).blk, (φ k).base + lo * size ty, none⟩) (n + ys.length) ((φ k).cap - lo))
          (w.setRow (φ k).blk (cl.toList.take ((φ k).base + lo * size ty + n * size ty) ++ news ++ cl.toList.drop ((φ k).base + lo * size ty + n * size ty + news.length)).toArray) := by
        rw [hxv, hy]
        have hsS : i.size = size ty := by rw [hsz, hS]
        have hfr' : (Builtin.firstCells i.size ys.length (.slice A2 ys.length c2)).run P w = .ok news.toArray w := by rw [hsz]; exact hfr
        simp [Builtin.append_, run_underlying F.hu, Go.sizeOf, typeInfo, hi, Builtin.lenOf, hroom, hfr', addr_add, hsS]
        rw [hsS] at hfr'
        simp [hfr', hst]
      unfold Oper.wp
      rw [app_exec ho hc hx ht hrun]
      have hone2 := OneB.setRow w (φ k).blk (cl.toList.take ((φ k).base + lo * size ty + n * size ty) ++ news ++ cl.toList.drop ((φ k).base + lo * size ty + n * size ty + news.length)).toArray
      have hR := h1.newAt (φ k).blk hMk (fun j p hj hp => by
        have : ∃ p', hget σ.heap j = some p' ∧ p = killO k p' ∧ j ≠ k := by
          rw [hget_killH, hget_hdel] at hj
          split at hj
          · simp at hj
          · rename_i hne
            cases ho : hget σ.heap j with
            | none => simp [ho] at hj
            | some o' => simp [ho] at hj; exact ⟨o', rfl, hj.symm, hne⟩
        obtain ⟨p', hp1, rfl, hne⟩ := this
        exact h.heap.inj j k p' _ hp1 hkk hne (by cases p' <;> first | trivial | exact hp) hc1) hone2 d (.row ty ((xs.drop lo).take n ++ ys) false) ⟨(φ k).blk, (φ k).base + lo * size ty, (φ k).cap - lo⟩ hdk rfl (fun H' E => by
          simp only [RObj, setφ_self]
          refine ⟨⟨hpl, hz, .inr ⟨_, et, by show 0 < (φ k).cap - lo; omega, by show (φ k).cap - lo ≤ _; omega, setRow_new hblk, ?_, by simp [hl]; omega, fun j hj => ?_⟩⟩, fun _ => ⟨fun hf => (by cases hf), fun _ => hMk⟩⟩
          · simp only [List.size_toArray, List.length_append, List.length_take, List.length_drop, Array.length_toList]
            have : lo * size ty + ((φ k).cap - lo) * size ty ≤ (φ k).cap * size ty := by rw [← Nat.add_mul]; exact Nat.mul_le_mul_right _ (by omega)
            omega
          · refine RT.mono hpl ?_ E.g E.ag
            -- as if the two stood one behind the other
            have hj1 : ∀ i, (hi : i < ((xs.drop lo).take n).length) → RT P ty G w ((xs.drop lo).take n)[i] ((((cl.toList.drop ((φ k).base + lo * size ty)).take (n * size ty)).drop (i * size ty)).take (size ty)) := by
              intro i hi
              rw [hl] at hi
              have := hcells (lo + i) (by omega)
              have hm2 : i * size ty + size ty ≤ n * size ty := by
                have := Nat.mul_le_mul_right (size ty) (show i + 1 ≤ n from hi); rw [Nat.add_mul] at this; omega
              rw [List.drop_take, List.take_take, Nat.min_eq_left (by omega), List.drop_drop]
              rw [Nat.add_mul, ← Nat.add_assoc] at this
              simpa [List.getElem_take, List.getElem_drop] using this
            have := els_join (P := P) (G := G) (w := w) (t := ty) (xs := (xs.drop lo).take n) (ys := ys) (c1 := (cl.toList.drop ((φ k).base + lo * size ty)).take (n * size ty)) (c2 := news) (rest := cl.toList.drop ((φ k).base + lo * size ty + n * size ty + news.length))
              (by rw [hl]; simp; omega) hj1 hnels (by rw [hnl, hS]) j hj
            have e : (cl.toList.take ((φ k).base + lo * size ty + n * size ty) ++ news ++ cl.toList.drop ((φ k).base + lo * size ty + n * size ty + news.length)).drop ((φ k).base + lo * size ty) =
                (cl.toList.drop ((φ k).base + lo * size ty)).take (n * size ty) ++ news ++ cl.toList.drop ((φ k).base + lo * size ty + n * size ty + news.length) := by
              rw [List.append_assoc, List.drop_append_of_le_length (by simp; omega), List.drop_take, List.append_assoc]
              congr 2
              omega
            rw [← e, List.drop_drop] at this
            exact this)
      refine hk _ _ _ _ _ hR ?_
      simp only [RA, eff_del1, hget_hput_self, setφ_self]
      exact ⟨by simp [hl], _, rfl, by simpa using hroom, .inr (by simp)⟩
  · -- it grows
    have hyn : ys ≠ [] := fun e => by subst e; simp at hroom; omega
    obtain ⟨b2, off2, cs2, rfl, h2⟩ := hels.resolve_left hyn
    obtain ⟨w', cells, cap', hrun, hnb, hc63, hcs, hlc, hels'⟩ := append_grows (ty := o.type) F hS (xs := (xs.drop lo).take n) (A := A) (cap := (φ k).cap - lo) (c := c2) (fun hx => by
      obtain ⟨b, off, cs, hA, he⟩ := he1.resolve_left hx; exact ⟨b, off, hA, cs, he⟩) (by rw [hl]; omega) (fun hA' => by
      rcases hA with hA | hA
      · exact hA
      · rw [hA] at hA'; cases hA') h2 hyn (by rw [hl]; exact hn.1) (by rw [hl]; exact hn.2)
    rw [hl] at hrun
    unfold Oper.wp
    rw [app_exec ho hc hx ht (by rw [hxv, hy]; exact hrun)]
    obtain ⟨φ', G', M', hR, hφ⟩ := row_cont h1 (t := ty) (xs := (xs.drop lo).take n ++ ys) (cap := cap') hdk hnb hpl hz hc63 (by rw [hS]; exact hcs) hlc hels'
    refine hk w' _ _ _ _ hR ?_
    rw [eff_del1]
    exact own_all hφ hlc _ (by simp [hl])
end
end Go.AM
