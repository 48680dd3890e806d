import Derived.Test.YtbcbgfkojmligaaAH
/- Part of an abstract machine for Go code and of its soundness, for any program of the model; no condition. -/
set_option maxHeartbeats 4000000
set_option linter.unusedVariables false
set_option linter.unusedSimpArgs false
set_option linter.unusedSimpArgs false
set_option linter.constructorNameAsVariable false
namespace Go.AM
open Go.RowKit
section
variable {P : Program} {TT : TyTab} {N : Nat} {rowAt : List Nat} {X : Ctx} {σ : St} {a : Act} {w : World} {φ : Nat → Loc} {G M : Nat → Prop} {o : Oper} {next : Act → World → Prop} {Q : Exit → Act → World → Prop}

/-- What an operation's answer asks, and what is known behind it. -/
def Conc (P : Program) (X : Ctx) (σ : St) (a : Act) (o : Oper) (next : Act → World → Prop) (r : R) : Prop := r.bind fun n v e => n ∧ Cont P X σ e v a o next

theorem conc_run1 {T : Tab} {d : Nat} {H : Heap} {k : K} {vs : List AV} (hk : k ≠ .pick) (h : Conc P X σ a o next (run1 T d H k vs)) : (∃ need v e, AM.run T d H k (bareL vs) = .ok need v e ∧ sureL vs ∧ need ∧ Cont P X σ e v a o next) ∨ (∃ n p, AM.run T d H k (bareL vs) = .amb n p ∧ sureL vs ∧ ∀ b, p b → Cont P X σ {} (.bool b) a o next) := by
  have e : run1 T d H k vs = match AM.run T d H k (bareL vs) with
    | .ok n v e => .ok (sureL vs ∧ n) v e
    | .amb n p => .amb (sureL vs ∧ n) p
    | .no => .no := by cases k <;> first | rfl | exact absurd rfl hk
  rw [e] at h
  cases hr : AM.run T d H k (bareL vs) with
  | no => rw [hr] at h; simp [Conc, R.bind] at h
  | ok need v ef =>
    rw [hr] at h
    simp only [Conc, R.bind] at h
    exact .inl ⟨need, v, ef, rfl, h.1.1, h.1.2, h.2⟩
  | amb n p =>
    rw [hr] at h
    simp only [Conc, R.bind, true_and] at h
    exact .inr ⟨n, p, rfl, h.1.1, h.2⟩

theorem ofCells_amb {agg : Bool} {c : Option (List AV)} {nd : Prop} {p : Bool → Prop} (h : R.ofCells agg c = .amb nd p) : False := by
  unfold R.ofCells at h; (repeat' split at h) <;> cases h
theorem loadR_amb {H : Heap} {n : Nat} {g : Bool} {v : AV} {nd : Prop} {p : Bool → Prop} (h : loadR H n g v = .amb nd p) : False := by
  unfold loadR at h; (repeat' split at h) <;> first | cases h | exact ofCells_amb h
theorem arith_amb {op : BinOp} {k : IntKind} {x y : Int} {nd : Prop} {p : Bool → Prop} (h : arith op k x y = .amb nd p) : False := by
  unfold arith at h; (repeat' split at h) <;> cases h
theorem callR_amb {d : Nat} {H : Heap} {vs : List AV} {pre : Prop} {a r : Ty} {y : den r} {nd : Prop} {p : Bool → Prop} (h : callR d H vs pre a r y = .amb nd p) : False := by
  unfold callR at h; (repeat' split at h) <;> cases h
theorem callM_amb {d : Nat} {fn : Fn} {ms : List Mk} {H : Heap} {vs : List AV} {nd : Prop} {p : Bool → Prop} (h : callM d fn ms H vs = .amb nd p) : False := by
  unfold callM callMR at h; (repeat' split at h) <;> cases h
theorem callF_amb {T : Tab} {d f : Nat} {H : Heap} {vs : List AV} {nd : Prop} {p : Bool → Prop} (h : callF T d f H vs = .amb nd p) : False := by
  unfold callF at h; (repeat' split at h) <;> first | cases h | exact callR_amb h | exact callM_amb h
theorem run_amb {T : Tab} {d : Nat} {H : Heap} {k : K} {vs : List AV} {nd : Prop} {p : Bool → Prop} (h : AM.run T d H k vs = .amb nd p) : k = .isnil := by
  unfold AM.run at h
  split at h
  all_goals first
    | rfl
    | (cases h; done)
    | (exact (loadR_amb h).elim)
    | (exact (arith_amb h).elim)
    | (exact (callF_amb h).elim)
    | (exact (ofCells_amb h).elim)
    | (unfold storeR at h; (repeat' split at h) <;> cases h; done)
    | (unfold fldR at h; (repeat' split at h) <;> cases h; done)
    | (unfold idxR at h; (repeat' split at h) <;> cases h; done)
    | (unfold bin at h; (repeat' split at h) <;> first | cases h | exact (arith_amb h).elim; done)
    | (unfold slcR at h; (repeat' split at h) <;> cases h; done)
    | (unfold slcsR at h; (repeat' split at h) <;> cases h; done)
    | (unfold appR at h; (repeat' split at h) <;> cases h; done)
    | ((repeat' split at h) <;> first | cases h | exact (callR_amb h).elim; done)

theorem ral1 {H : Heap} {v : AV} {us : List Value} (h : RAL P φ G M w H [v] us) : ∃ u, us = [u] ∧ RA P φ G M w H v u := by
  simp only [RAL] at h; obtain ⟨u, us', rfl, h1, rfl⟩ := h; exact ⟨u, rfl, h1⟩
theorem ral2 {H : Heap} {v v' : AV} {us : List Value} (h : RAL P φ G M w H [v, v'] us) : ∃ u u', us = [u, u'] ∧ RA P φ G M w H v u ∧ RA P φ G M w H v' u' := by
  simp only [RAL] at h; obtain ⟨u, us', rfl, h1, u', us'', rfl, h2, rfl⟩ := h; exact ⟨u, u', rfl, h1, h2⟩

theorem RAL_append {H : Heap} : ∀ {as bs : List AV} {us vs : List Value}, RAL P φ G M w H as us → RAL P φ G M w H bs vs → RAL P φ G M w H (as ++ bs) (us ++ vs) := by
  intro as
  induction as with
  | nil => intro bs us vs h1 h2; simp only [RAL] at h1; subst h1; exact h2
  | cons a as ih =>
    intro bs us vs h1 h2
    simp only [RAL] at h1
    obtain ⟨u, us', rfl, hu, hs⟩ := h1
    simp only [List.cons_append, RAL]
    exact ⟨u, us' ++ vs, rfl, hu, ih hs h2⟩

theorem bind_mono {r : R} {K K2 : Prop → AV → Eff → Prop} (h : r.bind K) (hk : ∀ n v e, K n v e → K2 n v e) : r.bind K2 := by
  cases r with
  | no => exact h
  | ok n v e => exact hk _ _ _ h
  | amb n p => exact ⟨h.1, fun b hb => hk _ _ _ (h.2 b hb)⟩

theorem kk_sound {T : Tab} (hT : TabOK P T) (h : Rel P X σ a w φ G M) {k : K} {xs : List Opd} (hc : compK P TT N rowAt o = some (k, xs)) {d : Nat} (hd : o.dst.getD 0 = d)
    (hb : Conc P X σ a o next (run1 T d σ.heap k (vals σ.env xs))) : o.wp P a w next Q := by
  unfold compK at hc
  split at hc
  · -- move, assign
    rename_i x ho
    split at hc
    · rename_i y hy
      cases hc
      rcases conc_run1 (by simp) hb with ⟨need, v, e, hr, hs, hn, hk⟩ | ⟨nd, p, hr, _, _⟩
      · simp only [vals, bareL, AM.run] at hr; cases hr
        exact sound_mv h (.inl ho) (bare_sound hs.1 (opd_sound h hy)) hk
      · exact absurd (run_amb hr) (by simp)
    · cases hc
  · rename_i x ho
    split at hc
    · rename_i y hy
      cases hc
      rcases conc_run1 (by simp) hb with ⟨need, v, e, hr, hs, hn, hk⟩ | ⟨nd, p, hr, _, _⟩
      · simp only [vals, bareL, AM.run] at hr; cases hr
        exact sound_mv h (.inr ho) (bare_sound hs.1 (opd_sound h hy)) hk
      · exact absurd (run_amb hr) (by simp)
    · cases hc
  · -- pick
    rename_i c x y ho
    split at hc
    · rename_i ys hys
      cases hc
      have hv := args_sound h hys
      simp only [List.map_cons, List.map_nil] at hv
      cases hvs : vals σ.env xs with
      | nil => rw [hvs] at hv; simp [RAL] at hv
      | cons v1 r1 =>
        rw [hvs] at hv hb
        simp only [RAL] at hv
        obtain ⟨u1, us1, e1, h1, hv⟩ := hv
        cases r1 with
        | nil => simp only [RAL] at hv; subst hv; simp at e1
        | cons v2 r2 =>
          simp only [RAL] at hv
          obtain ⟨u2, us2, rfl, h2, hv⟩ := hv
          cases r2 with
          | nil => simp only [RAL] at hv; subst hv; simp at e1
          | cons v3 r3 =>
            simp only [RAL] at hv
            obtain ⟨u3, us3, rfl, h3, hv⟩ := hv
            simp only [List.cons.injEq] at e1
            obtain ⟨rfl, rfl, rfl, rfl⟩ := e1
            cases r3 with
            | cons v4 r4 => simp only [RAL] at hv; obtain ⟨_, _, he, _⟩ := hv; cases he
            | nil =>
              simp only [Conc, run1] at hb
              cases hr : pickR [v1, v2, v3] with
              | no => rw [hr] at hb; simp [R.bind] at hb
              | amb nd p => exfalso; unfold pickR at hr; split at hr <;> (try split at hr) <;> cases hr
              | ok need v e =>
                rw [hr] at hb
                simp only [R.bind] at hb
                exact sound_pick h ho h1 h2 h3 hr hb.1 hb.2
    · cases hc
  · -- box
    rename_i t x ho
    split at hc
    · rename_i y hy
      cases hc
      rcases conc_run1 (by simp) hb with ⟨need, v, e, hr, hs, hn, hk⟩ | ⟨nd, p, hr, _, _⟩
      · simp only [vals, bareL, AM.run] at hr
        split at hr
        · rename_i hcond
          cases hr
          exact sound_box h ho (by simpa using hcond.1) hcond.2 (bare_sound hs.1 (opd_sound h hy)) hk
        · cases hr
      · exact absurd (run_amb hr) (by simp)
    · cases hc
  · -- alloc
    rename_i t ho
    split at hc
    · split at hc
      · rename_i n e hel
        split at hc
        · rename_i ty hty
          split at hc
          · rename_i hcond
            cases hc
            simp only [Bool.and_eq_true, decide_eq_true_eq] at hcond
            obtain ⟨⟨⟨⟨⟨⟨c1, c2⟩, c3⟩, c4⟩, c7⟩, c5⟩, c6⟩ := hcond
            rcases conc_run1 (by simp) hb with ⟨need, v, ef, hr, hs, hn, hk⟩ | ⟨nd, p, hr, _, _⟩
            · simp only [vals, bareL, AM.run] at hr
              split at hr
              · rename_i hdd
                cases hr
                exact sound_allocA (e := e) h ho c1 c2 c3 c4 c5 c6 (by omega) (by simpa using hdd) hk
              · cases hr
            · exact absurd (run_amb hr) (by simp)
          · cases hc
        · cases hc
      · cases hc
    · split at hc
      · rename_i cs hz
        cases hc
        rcases conc_run1 (by simp) hb with ⟨need, v, ef, hr, hs, hn, hk⟩ | ⟨nd, p, hr, _, _⟩
        · simp only [vals, bareL, AM.run] at hr
          split at hr
          · rename_i hdd
            cases hr
            exact sound_alloc h ho hz (by simpa using hdd) hk
          · cases hr
        · exact absurd (run_amb hr) (by simp)
      · cases hc
  · -- load
    rename_i t x ho
    have one : ∀ {n : Nat} {agg : Bool} {y : Opd}, compOpd P TT N 0 x = some y → ((isAggB P t = true ∧ agg = true ∧ n = P.cellsOf t) ∨ (isAggB P t = false ∧ agg = false ∧ n = 1 ∧ (P.underlying t).isSome)) →
        Conc P X σ a o next (run1 T d σ.heap (.load n agg) (vals σ.env [y])) → o.wp P a w next Q := by
      intro n agg y hy ha hb
      rcases conc_run1 (by simp) hb with ⟨need, v, ef, hr, hs, hn, hk⟩ | ⟨nd, p, hr, _, _⟩
      · simp only [vals, bareL, AM.run] at hr
        exact sound_load h ho ha (bare_sound hs.1 (opd_sound h hy)) hr hk
      · exact absurd (run_amb hr) (by simp)
    split at hc
    · rename_i y hy
      split at hc
      · rename_i hag
        cases hc
        exact one hy (.inl ⟨hag, rfl, rfl⟩) hb
      · rename_i hag
        split at hc
        · rename_i hsm
          cases hc
          exact one hy (.inr ⟨by simpa using hag, rfl, rfl, hsm⟩) hb
        · cases hc
    · cases hc
  · -- store
    rename_i t x y ho
    split at hc
    · rename_i ox oy hx hy
      split at hc
      · rename_i h0
        cases hc
        rcases conc_run1 (by simp) hb with ⟨need, v, ef, hr, hs, hn, hk⟩ | ⟨nd, p, hr, _, _⟩
        · simp only [vals, bareL, AM.run] at hr
          have hpx := bare_sound hs.1 (opd_sound h hx)
          have hpy := bare_sound hs.2.1 (opd_sound h hy)
          cases hp : bare (ox.val σ.env) with
          | ptr k off =>
            rw [hp] at hr hpx
            simp only [storeR] at hr
            split at hr
            · rename_i hcond
              split at hr
              · rename_i cs hkk
                split at hr
                · rename_i cs' hl
                  cases hr
                  exact sound_store_box h ho h0 hpx hpy hcond.1 hcond.2 hkk hl hk
                · cases hr
              · cases hr
            · cases hr
          | rptr k i off =>
            rw [hp] at hr hpx
            simp only [storeR] at hr
            split at hr
            · rename_i hcond
              split at hr
              · rename_i s xs hkk
                split at hr
                · rename_i hnr
                  split at hr
                  · rename_i cs' hl
                    split at hr
                    · rename_i x' hcc
                      split at hr
                      · cases hr
                      · rename_i hnk
                        cases hr
                        exact sound_store_row h ho h0 hy hpx rfl hs.2.1 hcond.1 hcond.2 hnr hkk hl hcc (by simpa using hnk) hk
                    · cases hr
                  · cases hr
                · cases hr
              · cases hr
            · cases hr
          | _ => rw [hp] at hr; simp [storeR] at hr
        · exact absurd (run_amb hr) (by simp)
      · cases hc
    · cases hc
  · -- fieldAddr
    rename_i s x i ho
    split at hc
    · rename_i f y hf hy
      split at hc
      · rename_i h0
        cases hc
        rcases conc_run1 (by simp) hb with ⟨need, v, ef, hr, hs, hn, hk⟩ | ⟨nd, p, hr, _, _⟩
        · simp only [vals, bareL, AM.run] at hr
          exact sound_fld h ho hf h0 (bare_sound hs.1 (opd_sound h hy)) hr hk
        · exact absurd (run_amb hr) (by simp)
      · cases hc
    · cases hc
  · -- indexAddr
    rename_i t x y ho
    split at hc
    · rename_i ox oy hx hy
      split at hc
      · rename_i e hu
        cases hc
        rcases conc_run1 (by simp) hb with ⟨need, v, ef, hr, hs, hn, hk⟩ | ⟨nd, p, hr, _, _⟩
        · simp only [vals, bareL, AM.run] at hr
          exact sound_idx h ho hu (bare_sound hs.1 (opd_sound h hx)) (bare_sound hs.2.1 (opd_sound h hy)) hr hn hk
        · exact absurd (run_amb hr) (by simp)
      · rename_i n e hu
        split at hc
        · rename_i h0
          cases hc
          rcases conc_run1 (by simp) hb with ⟨need, v, ef, hr, hs, hn, hk⟩ | ⟨nd, p, hr, _, _⟩
          · simp only [vals, bareL] at hr
            exact sound_aidx h ho hu h0 (bare_sound hs.1 (opd_sound h hx)) (bare_sound hs.2.1 (opd_sound h hy)) hr hn hk
          · exact absurd (run_amb hr) (by simp)
        · cases hc
      · cases hc
    · cases hc
  · -- binOp
    rename_i op t x y t' ho
    split at hc
    · rename_i ox oy hx hy
      split at hc
      · rename_i hu
        cases hc
        rcases conc_run1 (by simp) hb with ⟨need, v, ef, hr, hs, hn, hk⟩ | ⟨nd, p, hr, _, _⟩
        · simp only [vals, bareL, AM.run] at hr
          exact sound_bin h ho (bare_sound hs.1 (opd_sound h hx)) (bare_sound hs.2.1 (opd_sound h hy)) hr hn hk
        · exact absurd (run_amb hr) (by simp)
      · rename_i hu
        cases hc
        rcases conc_run1 (by simp) hb with ⟨need, v, ef, hr, hs, hn, hk⟩ | ⟨nd, p, hr, _, _⟩
        · simp only [vals, bareL, AM.run] at hr
          exact sound_bin h ho (bare_sound hs.1 (opd_sound h hx)) (bare_sound hs.2.1 (opd_sound h hy)) hr hn hk
        · exact absurd (run_amb hr) (by simp)
      · rename_i hu
        split at hc
        · cases hc
          rcases conc_run1 (by simp) hb with ⟨need, v, ef, hr, hs, hn, hk⟩ | ⟨nd, p, hr, _, _⟩
          · simp only [vals, bareL] at hr
            have hpx := bare_sound hs.1 (opd_sound h hx)
            have hpy := bare_sound hs.2.1 (opd_sound h hy)
            cases hp : bare (ox.val σ.env) with
            | bool b1 =>
              cases hq : bare (oy.val σ.env) with
              | bool b2 =>
                rw [hp] at hr hpx
                rw [hq] at hr hpy
                simp only [AM.run] at hr
                split at hr
                · cases hr; exact sound_binb h ho hu hpx hpy (.inl ⟨rfl, rfl⟩) hk
                · cases hr; exact sound_binb h ho hu hpx hpy (.inr ⟨rfl, rfl⟩) hk
                · cases hr
              | _ => rw [hp, hq] at hr; simp [AM.run] at hr
            | _ => rw [hp] at hr; simp [AM.run] at hr
          · exact absurd (run_amb hr) (by simp)
        · cases hc
      · split at hc
        · rename_i sh hsh
          split at hc
          · cases hc
            rcases conc_run1 (by simp) hb with ⟨need, v, ef, hr, hs, hn, hk⟩ | ⟨nd, p, hr, _, _⟩
            · simp only [vals, bareL] at hr
              have hpx := bare_sound hs.1 (opd_sound h hx)
              have hpy := bare_sound hs.2.1 (opd_sound h hy)
              cases hp : bare (ox.val σ.env) with
              | agg b1 =>
                cases hq : bare (oy.val σ.env) with
                | agg b2 =>
                  rw [hp] at hr hpx
                  rw [hq] at hr hpy
                  simp only [AM.run] at hr
                  split at hr
                  · rename_i r hre
                    split at hr
                    · cases hr; exact sound_bina h ho hsh hpx hpy hre (.inl ⟨rfl, rfl⟩) hk
                    · cases hr; exact sound_bina h ho hsh hpx hpy hre (.inr ⟨rfl, rfl⟩) hk
                    · cases hr
                  · cases hr
                | _ => rw [hp, hq] at hr; simp [AM.run] at hr
              | _ => rw [hp] at hr; simp [AM.run] at hr
            · exact absurd (run_amb hr) (by simp)
          · cases hc
        · cases hc
    · rename_i ox hx hy
      split at hc
      · rename_i e hu
        cases hc
        rcases conc_run1 (by simp) hb with ⟨need, v, ef, hr, hs, hn, hk⟩ | ⟨nd, p, hr, hs, hk⟩
        · simp only [vals, bareL] at hr
          cases hp : bare (ox.val σ.env) <;> rw [hp] at hr <;> simp [AM.run] at hr
        · simp only [vals, bareL] at hr
          have hpx := bare_sound hs.1 (opd_sound h hx)
          cases hp : bare (ox.val σ.env) with
          | sl ty xs f =>
            rw [hp] at hr hpx
            simp only [AM.run] at hr
            cases hr
            exact sound_isnil h ho rfl hu hpx hk
          | _ => rw [hp] at hr; simp [AM.run] at hr
      · cases hc
    · cases hc
  · -- neg
    rename_i t x ho
    split at hc
    · rename_i y hy
      cases hc
      rcases conc_run1 (by simp) hb with ⟨need, v, ef, hr, hs, hn, hk⟩ | ⟨nd, p, hr, _, _⟩
      · simp only [vals, bareL] at hr
        have hp := bare_sound hs.1 (opd_sound h hy)
        cases hq : bare (y.val σ.env) with
        | int k n =>
          rw [hq] at hr hp
          simp only [AM.run] at hr
          exact sound_neg h ho hp hr hn hk
        | _ => rw [hq] at hr; simp [AM.run] at hr
      · exact absurd (run_amb hr) (by simp)
    · cases hc
  · -- not
    rename_i t x ho
    split at hc
    · rename_i y hy
      cases hc
      rcases conc_run1 (by simp) hb with ⟨need, v, ef, hr, hs, hn, hk⟩ | ⟨nd, p, hr, _, _⟩
      · simp only [vals, bareL] at hr
        have hp := bare_sound hs.1 (opd_sound h hy)
        cases hq : bare (y.val σ.env) with
        | bool b =>
          rw [hq] at hr hp
          simp only [AM.run] at hr
          cases hr
          exact sound_not h ho hp hk
        | _ => rw [hq] at hr; simp [AM.run] at hr
      · exact absurd (run_amb hr) (by simp)
    · cases hc
  · -- build
    rename_i t ps ho
    split at hc
    · rename_i zs qs os hz hp
      split at hc
      · rename_i hkn
        cases hc
        rcases conc_run1 (by simp) hb with ⟨need, v, ef, hr, hs, hn, hk⟩ | ⟨nd, p, hr, _, _⟩
        · simp only [AM.run] at hr
          split at hr
          · rename_i cs hl
            cases hr
            exact sound_build h ho hz hp hkn hs hl hk
          · cases hr
        · exact absurd (run_amb hr) (by simp)
      · cases hc
    · cases hc
  · -- buildSlice
    rename_i t n ps ho
    split at hc
    · rename_i e hel
      split at hc
      · rename_i ty hty
        split at hc
        · rename_i hcond
          split at hc
          · rename_i os hos
            cases hc
            simp only [Bool.and_eq_true, beq_iff_eq, decide_eq_true_eq] at hcond
            obtain ⟨⟨⟨⟨⟨⟨⟨c1, c2⟩, c3⟩, c4⟩, c5⟩, c6⟩, c7⟩, c8⟩ := hcond
            rcases conc_run1 (by simp) hb with ⟨need, v, ef, hr, hs, hn, hk⟩ | ⟨nd, p, hr, _, _⟩
            · simp only [AM.run] at hr
              split at hr
              · rename_i hl
                split at hr
                · rename_i xs hd'
                  cases hr
                  have hu : P.underlying t = some (.slice e) := by
                    unfold elemOfSl at hel
                    split at hel
                    · rename_i e' hu; cases hel; exact hu
                    · cases hel
                  exact sound_bslice h ho hu c1 c2 c3 c4 c5 c6 c7 c8 hos hs hd' hl hk
                · cases hr
              · cases hr
            · exact absurd (run_amb hr) (by simp)
          · cases hc
        · cases hc
      · cases hc
    · cases hc
  · -- makeSlice
    rename_i t l c ho
    split at hc
    · rename_i e hel
      split at hc
      · rename_i ty hty
        split at hc
        · rename_i ol oc hl hcc
          split at hc
          · rename_i hcond
            cases hc
            simp only [Bool.and_eq_true, beq_iff_eq, decide_eq_true_eq] at hcond
            obtain ⟨⟨⟨⟨⟨c1, c2⟩, c3⟩, c4⟩, c5⟩, c6⟩ := hcond
            have hu : P.underlying t = some (.slice e) := by
              unfold elemOfSl at hel
              split at hel
              · rename_i e' hu; cases hel; exact hu
              · cases hel
            rcases conc_run1 (by simp) hb with ⟨need, v, ef, hr, hs, hn, hk⟩ | ⟨nd, p, hr, _, _⟩
            · simp only [vals, bareL] at hr
              have hpl := bare_sound hs.1 (opd_sound h hl)
              have hpc := bare_sound hs.2.1 (opd_sound h hcc)
              cases hq1 : bare (ol.val σ.env) with
              | int k1 n1 =>
                cases hq2 : bare (oc.val σ.env) with
                | int k2 n2 =>
                  rw [hq1, hq2] at hr
                  rw [hq1] at hpl
                  rw [hq2] at hpc
                  cases k1 <;> cases k2 <;> simp only [AM.run] at hr <;> first | cases hr | skip
                  split at hr
                  · rename_i hdd
                    cases hr
                    exact sound_mks h ho hu c1 c2 c3 c4 c5 c6 hpl hpc (by simpa using hdd) hn hk
                  · cases hr
                | _ => rw [hq1, hq2] at hr; cases k1 <;> simp [AM.run] at hr
              | _ => rw [hq1] at hr; simp [AM.run] at hr
            · exact absurd (run_amb hr) (by simp)
          · cases hc
        · cases hc
      · cases hc
    · cases hc
  · -- slice
    rename_i t x lo hi mx ho
    split at hc
    · rename_i ox os hx hos
      have hval := args_sound h hos
      simp only [List.map_append] at hval
      have hlo : lo.toList.map a.eval = (lo.map a.eval).toList := by cases lo <;> rfl
      have hhi : hi.toList.map a.eval = (hi.map a.eval).toList := by cases hi <;> rfl
      have hmx : mx.toList.map a.eval = (mx.map a.eval).toList := by cases mx <;> rfl
      rw [hlo, hhi, hmx] at hval
      split at hc
      · rename_i e hu
        cases hc
        rcases conc_run1 (by simp) hb with ⟨need, v, ef, hr, hs, hn, hk⟩ | ⟨nd, p, hr, _, _⟩
        · simp only [vals, bareL, AM.run] at hr
          have hpx := bare_sound hs.1 (opd_sound h hx)
          have hvs := bareL_sound hs.2 hval
          cases hp : bare (ox.val σ.env) with
          | sl ty xs full =>
            rw [hp] at hr hpx
            simp only [slcR] at hr
            split at hr
            · rename_i hS
              split at hr
              · rename_i l hh m hbd
                cases hr
                exact sound_slc_sl h ho hu hS hpx hvs hbd hn hk
              · cases hr
            · cases hr
          | own k lo0 n =>
            rw [hp] at hr hpx
            simp only [slcR] at hr
            split at hr
            · rename_i ty xs f hkk
              split at hr
              · rename_i hcond
                split at hr
                · rename_i l hh m hbd
                  cases hr
                  exact sound_slc_own h ho hu hkk hcond.1 hcond.2 hpx hvs hbd hn hk
                · cases hr
              · cases hr
            · cases hr
          | _ => rw [hp] at hr; simp [slcR] at hr
        · exact absurd (run_amb hr) (by simp)
      · rename_i hu
        split at hc
        · cases hc
        · rename_i hm
          cases hc
          rcases conc_run1 (by simp) hb with ⟨need, v, ef, hr, hs, hn, hk⟩ | ⟨nd, p, hr, _, _⟩
          · simp only [vals, bareL, AM.run] at hr
            have hpx := bare_sound hs.1 (opd_sound h hx)
            have hvs := bareL_sound hs.2 hval
            cases hp : bare (ox.val σ.env) with
            | str s =>
              rw [hp] at hr hpx
              simp only [slcsR] at hr
              split at hr
              · rename_i l hh m hbd
                cases hr
                have hm' : mx.isSome = false := by simpa using hm
                exact sound_slc_str h ho hu hm' hpx hvs (by rw [hm']; exact hbd) hn hk
              · cases hr
            | _ => rw [hp] at hr; simp [slcsR] at hr
          · exact absurd (run_amb hr) (by simp)
      · cases hc
    · cases hc
  · -- extract
    rename_i x i ho
    split at hc
    · rename_i y hy
      cases hc
      rcases conc_run1 (by simp) hb with ⟨need, v, ef, hr, hs, hn, hk⟩ | ⟨nd, p, hr, _, _⟩
      · simp only [vals, bareL] at hr
        have hp := bare_sound hs.1 (opd_sound h hy)
        cases hq : bare (y.val σ.env) with
        | tup vs =>
          rw [hq] at hr hp
          simp only [AM.run] at hr
          split at hr
          · rename_i v' hv'
            cases hr
            exact sound_ext h ho hp hv' hk
          · cases hr
        | _ => rw [hq] at hr; simp [AM.run] at hr
      · exact absurd (run_amb hr) (by simp)
    · cases hc
  · -- nilCheck
    rename_i x ho
    split at hc
    · rename_i y hy
      cases hc
      rcases conc_run1 (by simp) hb with ⟨need, v, ef, hr, hs, hn, hk⟩ | ⟨nd, p, hr, _, _⟩
      · simp only [vals, bareL] at hr
        exact sound_nilchk h ho (bare_sound hs.1 (opd_sound h hy)) hr hk
      · exact absurd (run_amb hr) (by simp)
    · cases hc
  · -- makeFunc
    rename_i f first caps ho
    split at hc
    · rename_i h0
      split at hc
      · rename_i os hos
        cases hc
        rcases conc_run1 (by simp) hb with ⟨need, v, ef, hr, hs, hn, hk⟩ | ⟨nd, p, hr, _, _⟩
        · simp only [AM.run] at hr
          cases hr
          exact sound_clo h ho h0 (bareL_sound hs (args_sound h hos)) hk
        · exact absurd (run_amb hr) (by simp)
      · cases hc
    · cases hc
  · -- index
    rename_i t x y ho
    split at hc
    · rename_i n e hu
      split at hc
      · rename_i ox oy hx hy
        split at hc
        · rename_i hcond
          cases hc
          simp only [Bool.and_eq_true, Bool.not_eq_eq_eq_not, Bool.not_true] at hcond
          rcases conc_run1 (by simp) hb with ⟨need, v, ef, hr, hs, hn, hk⟩ | ⟨nd, p, hr, _, _⟩
          · simp only [vals, bareL] at hr
            have hpx := bare_sound hs.1 (opd_sound h hx)
            have hpy := bare_sound hs.2.1 (opd_sound h hy)
            cases hq1 : bare (ox.val σ.env) with
            | agg cs =>
              cases hq2 : bare (oy.val σ.env) with
              | int k i =>
                rw [hq1, hq2] at hr
                rw [hq1] at hpx
                rw [hq2] at hpy
                simp only [AM.run] at hr
                split at hr
                · rename_i hS
                  split at hr
                  · rename_i l hl
                    cases hr
                    exact sound_index h ho hu hcond.1 hcond.2 hS hpx hpy hl hn hk
                  · cases hr
                · cases hr
              | _ => rw [hq1, hq2] at hr; simp [AM.run] at hr
            | _ => rw [hq1] at hr; simp [AM.run] at hr
          · exact absurd (run_amb hr) (by simp)
        · cases hc
      · cases hc
    · cases hc
  · -- field
    rename_i t x i ho
    split at hc
    · rename_i f ox hf hx
      split at hc
      · rename_i hsm
        cases hc
        rcases conc_run1 (by simp) hb with ⟨need, v, ef, hr, hs, hn, hk⟩ | ⟨nd, p, hr, _, _⟩
        · simp only [vals, bareL] at hr
          have hpx := bare_sound hs.1 (opd_sound h hx)
          cases hq1 : bare (ox.val σ.env) with
          | agg cs =>
            rw [hq1] at hr hpx
            simp only [AM.run] at hr
            exact sound_field h ho hf hsm hpx hr hk
          | _ => rw [hq1] at hr; simp [AM.run] at hr
        · exact absurd (run_amb hr) (by simp)
      · cases hc
    · cases hc
  · -- call
    rename_i c ho
    split at hc
    · -- len
      rename_i hcal
      split at hc
      · rename_i t hats
        split at hc
        · rename_i xs' e hxs hu
          cases hc
          rcases conc_run1 (by simp) hb with ⟨need, v, ef, hr, hs, hn, hk⟩ | ⟨nd, p, hr, _, _⟩
          · have hv := bareL_sound hs (args_sound h hxs)
            cases hq : bareL (vals σ.env xs) with
            | nil => rw [hq] at hr; simp [AM.run] at hr
            | cons v1 r1 =>
              cases r1 with
              | nil =>
                rw [hq] at hr hv
                obtain ⟨u, hu1, hra⟩ := ral1 hv
                obtain ⟨x, hx, rfl⟩ := List.map_eq_singleton_iff.1 hu1
                exact sound_len h ho hcal hx hats hu hra hr hk
              | cons v2 r2 => rw [hq] at hr; cases v1 <;> simp [AM.run] at hr
          · exact absurd (run_amb hr) (by simp)
        · rename_i xs' hxs hu
          cases hc
          rcases conc_run1 (by simp) hb with ⟨need, v, ef, hr, hs, hn, hk⟩ | ⟨nd, p, hr, _, _⟩
          · have hv := bareL_sound hs (args_sound h hxs)
            cases hq : bareL (vals σ.env xs) with
            | nil => rw [hq] at hr; simp [AM.run] at hr
            | cons v1 r1 =>
              cases r1 with
              | nil =>
                rw [hq] at hr hv
                obtain ⟨u, hu1, hra⟩ := ral1 hv
                obtain ⟨x, hx, rfl⟩ := List.map_eq_singleton_iff.1 hu1
                exact sound_lens h ho hcal hx hats hu hra hr hk
              | cons v2 r2 => rw [hq] at hr; cases v1 <;> simp [AM.run] at hr
          · exact absurd (run_amb hr) (by simp)
        · cases hc
      · cases hc
    · -- append
      rename_i hcal
      split at hc
      · rename_i t t' hats
        split at hc
        · rename_i e xs' hel hxs
          split at hc
          · rename_i hcond
            cases hc
            obtain ⟨rfl, c0, cz, cl⟩ := hcond
            have hu : P.underlying t = some (.slice e) := by
              unfold elemOfSl at hel
              split at hel
              · rename_i e' hu; cases hel; exact hu
              · cases hel
            have F : AppFacts P t e (P.cellsOf e) (P.bytesOf e) := ⟨hu, rfl, rfl, c0, cz, cl⟩
            rcases conc_run1 (by simp) hb with ⟨need, v, ef, hr, hs, hn, hk⟩ | ⟨nd, p, hr, _, _⟩
            · have hv := bareL_sound hs (args_sound h hxs)
              cases hq : bareL (vals σ.env xs) with
              | nil => rw [hq] at hr; simp [AM.run] at hr
              | cons v1 r1 =>
                cases r1 with
                | nil => rw [hq] at hr; simp [AM.run] at hr
                | cons v2 r2 =>
                  cases r2 with
                  | cons v3 r3 => rw [hq] at hr; simp [AM.run] at hr
                  | nil =>
                    rw [hq] at hr hv
                    obtain ⟨u1, u2, hu1, hra1, hra2⟩ := ral2 hv
                    obtain ⟨x, r, hx, e1, hr1⟩ := List.map_eq_cons_iff.1 hu1
                    obtain ⟨y, rfl, e2⟩ := List.map_eq_singleton_iff.1 hr1
                    subst e1; subst e2
                    simp only [AM.run] at hr
                    cases v1 with
                    | sl ty zs full =>
                      cases full with
                      | false => simp [appR] at hr
                      | true =>
                        simp only [appR] at hr
                        split at hr
                        · rename_i hS
                          split at hr
                          · rename_i ys hys
                            cases hr
                            exact sound_app_full h ho hcal hx hats F hS.1 hra1 hra2 hys (by simpa using hS.2) hn hk
                          · cases hr
                        · cases hr
                    | own k lo n =>
                      simp only [appR] at hr
                      split at hr
                      · rename_i ty zs hkk
                        split at hr
                        · rename_i hS
                          split at hr
                          · rename_i ys hys
                            cases hr
                            exact sound_app_own h ho hcal hx hats F hS.1 hkk hra1 hra2 hys (by simpa using hS.2) hn hk
                          · cases hr
                        · cases hr
                      · cases hr
                    | _ => simp [appR] at hr
            · exact absurd (run_amb hr) (by simp)
          · cases hc
        · cases hc
      · cases hc
    · -- min
      rename_i hcal
      split at hc
      · rename_i xs' hxs
        cases hc
        rcases conc_run1 (by simp) hb with ⟨need, v, ef, hr, hs, hn, hk⟩ | ⟨nd, p, hr, _, _⟩
        · have hv := bareL_sound hs (args_sound h hxs)
          cases hq : bareL (vals σ.env xs) with
          | nil => rw [hq] at hr; simp [AM.run] at hr
          | cons v1 r1 =>
            rw [hq] at hr hv
            cases v1 with
            | int k x =>
              cases k <;> simp only [AM.run] at hr <;> first | cases hr | skip
              split at hr
              · rename_i n hf
                cases hr
                exact sound_mnmx h ho hcal (.inl ⟨rfl, rfl⟩) hv hf hk
              · cases hr
            | _ => simp [AM.run] at hr
        · exact absurd (run_amb hr) (by simp)
      · cases hc
    · -- max
      rename_i hcal
      split at hc
      · rename_i xs' hxs
        cases hc
        rcases conc_run1 (by simp) hb with ⟨need, v, ef, hr, hs, hn, hk⟩ | ⟨nd, p, hr, _, _⟩
        · have hv := bareL_sound hs (args_sound h hxs)
          cases hq : bareL (vals σ.env xs) with
          | nil => rw [hq] at hr; simp [AM.run] at hr
          | cons v1 r1 =>
            rw [hq] at hr hv
            cases v1 with
            | int k x =>
              cases k <;> simp only [AM.run] at hr <;> first | cases hr | skip
              split at hr
              · rename_i n hf
                cases hr
                exact sound_mnmx h ho hcal (.inr ⟨rfl, rfl⟩) hv hf hk
              · cases hr
            | _ => simp [AM.run] at hr
        · exact absurd (run_amb hr) (by simp)
      · cases hc
    · -- a function
      rename_i f hcal
      split at hc
      · rename_i fn hf
        split at hc
        · rename_i hcond
          simp only [Bool.and_eq_true, bne_iff_ne, ne_eq] at hcond
          split at hc
          · rename_i xs' hxs
            cases hc
            rcases conc_run1 (by simp) hb with ⟨need, v, ef, hr, hs, hn, hk⟩ | ⟨nd, p, hr, _, _⟩
            · simp only [AM.run] at hr
              have hx := exec_callF (P := P) (w := w) (a := a) ho hf hcond.1 hcond.2 (first := #[]) (caps := #[]) (args := c.args) ⟨⟨_, hcal, rfl⟩, rfl⟩
              refine sound_callF hT h hx (fun he hR => ?_) hr hn hk
              have := bareL_sound (by rw [he]; exact hs) (args_sound hR hxs)
              rw [he] at this
              simpa [he] using this
            · exact absurd (run_amb hr) (by simp)
          · cases hc
        · cases hc
      · cases hc
    · -- a function value
      rename_i t hcal
      split at hc
      · rename_i xs' hxs
        cases hc
        rcases conc_run1 (by simp) hb with ⟨need, v, ef, hr, hs, hn, hk⟩ | ⟨nd, p, hr, _, _⟩
        · have hv : ∀ {σ' : St} {G' M' : Nat → Prop}, σ'.env = σ.env → Rel P X σ' a w φ G' M' → RAL P φ G' M' w σ'.heap (bareL (vals σ.env xs)) (a.eval (.tmp t) :: c.args.toList.map a.eval) := by
            intro σ' G' M' he hR
            have := bareL_sound (by rw [he]; exact hs) (args_sound hR hxs)
            rw [he] at this
            simpa using this
          cases hq : bareL (vals σ.env xs) with
          | nil => rw [hq] at hr; simp [AM.run] at hr
          | cons v1 r1 =>
            rw [hq] at hr hv
            cases v1 with
            | clo f caps =>
              simp only [AM.run] at hr
              have h0 := hv rfl h
              simp only [RAL, RA] at h0
              obtain ⟨u0, us0, e0, ⟨cs, hcs, hcaps⟩, hargs⟩ := h0
              simp only [List.cons.injEq] at e0
              obtain ⟨rfl, rfl⟩ := e0
              have hfn : ∃ fn, tget T f = some fn := by
                unfold callF at hr
                split at hr
                · rename_i fn hfn; exact ⟨fn, hfn⟩
                · cases hr
              obtain ⟨fn, hfn⟩ := hfn
              obtain ⟨fd, hf1, hf2, hf3⟩ := HoldsX.callable (hT f fn hfn)
              have hx := exec_callF (P := P) (w := w) (a := a) ho hf1 hf2 hf3 (first := #[]) (caps := cs) (args := c.args) ⟨⟨_, hcal, hcs⟩, rfl⟩
              refine sound_callF hT h hx (fun he hR => ?_) hr hn hk
              have h1 := hv he hR
              simp only [RAL, RA] at h1
              obtain ⟨u1, us1, e1, ⟨cs', hcs', hcaps'⟩, hargs'⟩ := h1
              simp only [List.cons.injEq] at e1
              obtain ⟨rfl, rfl⟩ := e1
              rw [hcs] at hcs'
              simp only [Value.func.injEq, and_true, true_and] at hcs'
              subst hcs'
              simpa using RAL_append hargs' hcaps'
            | fv ar r p =>
              simp only [AM.run] at hr
              split at hr
              · rename_i hok
                split at hr
                · rename_i x hx
                  have h0 := hv rfl h
                  simp only [RAL] at h0
                  obtain ⟨u0, us0, e0, hg, hargs⟩ := h0
                  simp only [List.cons.injEq] at e0
                  obtain ⟨rfl, rfl⟩ := e0
                  refine sound_callfv h hT ho hcal hok hg (fun he hR => ?_) hx hr hk
                  have h1 := hv he hR
                  simp only [RAL] at h1
                  obtain ⟨u1, us1, e1, _, hargs'⟩ := h1
                  simp only [List.cons.injEq] at e1
                  obtain ⟨rfl, rfl⟩ := e1
                  exact hargs'
                · cases hr
              · cases hr
            | _ => simp [AM.run] at hr
        · exact absurd (run_amb hr) (by simp)
      · cases hc
    · cases hc
  · -- a new map
    rename_i t ho
    cases hc
    rcases conc_run1 (by simp) hb with ⟨need, v, ef, hr, hs, hn, hk⟩ | ⟨nd, p, hr, _, _⟩
    · simp only [vals, bareL, AM.run] at hr
      split at hr
      · rename_i hdd
        cases hr
        exact sound_mkm h ho (by simpa using hdd) hk
      · cases hr
    · exact absurd (run_amb hr) (by simp)
  · -- what a map holds
    rename_i t x i ho
    split at hc
    · rename_i p x' i' hm hx hi
      cases hc
      obtain ⟨kt, et⟩ := p
      obtain ⟨h1, h2, h3⟩ := mapInts_spec hm
      rcases conc_run1 (by simp) hb with ⟨need, v, ef, hr, hs, hn, hk⟩ | ⟨nd, p, hr, _, _⟩
      · simp only [vals, bareL] at hr
        have hpx := bare_sound hs.1 (opd_sound h hx)
        have hpi := bare_sound hs.2.1 (opd_sound h hi)
        generalize bare (x'.val σ.env) = bx at *
        generalize bare (i'.val σ.env) = bi at *
        cases bx with
        | mp k => cases bi with
          | int kk n => cases kk with
            | i64 =>
              simp only [AM.run] at hr
              split at hr
              · rename_i m hkk
                cases hr
                simp only [RA] at hpi
                exact sound_mget h ho h1 h2 hpx hpi hkk h3 hk
              · cases hr
            | _ => simp [AM.run] at hr
          | _ => simp [AM.run] at hr
        | _ => simp [AM.run] at hr
      · exact absurd (run_amb hr) (by simp)
    · cases hc
  · -- a map is written
    rename_i t x i z ho
    split at hc
    · rename_i p x' i' z' hm hx hi hz
      cases hc
      obtain ⟨kt, et⟩ := p
      obtain ⟨h1, h2, h3⟩ := mapInts_spec hm
      rcases conc_run1 (by simp) hb with ⟨need, v, ef, hr, hs, hn, hk⟩ | ⟨nd, p, hr, _, _⟩
      · simp only [vals, bareL] at hr
        have hpx := bare_sound hs.1 (opd_sound h hx)
        have hpi := bare_sound hs.2.1 (opd_sound h hi)
        have hpz := bare_sound hs.2.2.1 (opd_sound h hz)
        generalize bare (x'.val σ.env) = bx at *
        generalize bare (i'.val σ.env) = bi at *
        generalize bare (z'.val σ.env) = bz at *
        cases bx with
        | mp k => cases bi with
          | int kk n => cases kk with
            | i64 => cases bz with
              | int kk v => cases kk with
                | i64 =>
                  simp only [AM.run] at hr
                  split at hr
                  · rename_i m hkk
                    cases hr
                    simp only [RA] at hpi hpz
                    exact sound_mput h ho h1 h2 hpx hpi hpz hkk hk
                  · cases hr
                | _ => simp [AM.run] at hr
              | _ => simp [AM.run] at hr
            | _ => simp [AM.run] at hr
          | _ => simp [AM.run] at hr
        | _ => simp [AM.run] at hr
      · exact absurd (run_amb hr) (by simp)
    · cases hc
  · cases hc
end
end Go.AM
