import Derived.Test.YtbcbgfkojmligaaAI
import Derived.WalkKit
import Derived.ProofKit
import Derived.OpenShut
import Derived.ChangeOld
import Derived.Below
import Derived.SizedLaws
import Derived.ChangeArms
/- Part of an abstract machine for Go code and of its soundness, for any program of the model; no condition. -/
set_option linter.unusedVariables false
set_option linter.unusedSimpArgs false
set_option linter.unusedSimpArgs false
namespace Go.AM
open Go.ChangeShapes Go.WideShapes Go.ChangeAt Go.RowKit

/-- A slice of whole numbers, as the row hands it over. -/
def IsRow (w : World) (a : Option Addr) (len cap : Nat) (zs : List Int) : Prop :=
  (a = none ∧ len = 0 ∧ cap = 0 ∧ zs = []) ∨
  ∃ x, a = some x ∧ len ≤ cap ∧ cap ≤ maxLen ∧ zs.length = cap ∧ (∀ i, i < zs.length → w.cell? (x.add i) = some (.int .i64 (zs.getD i 0))) ∧ ∀ n ∈ zs, (Lit.int .i64 n).wf = true

theorem len_of_sized {H : Type} {enc : TypeId × Value → H} {P : Program} {W : World} {base : Nat} {spare : Nat → Bool} {held : Bool} {t e : TypeId} {a : Option Addr} {len cap : Nat} {d : DataW H} {ps : List MemPlace} {ts : List TypeId} {ds : List (DataW H)} {j : Nat}
    (hsz : (DataW.weightsEach P ts ds).all (· ≤ reachBytes) = true) (ht : ts[j]? = some t) (hd : ds[j]? = some d) (hu : P.underlying t = some (.slice e)) (he : P.underlying e = some (.int .i64)) (hc : P.cellsOf e = 1) (hB : P.bytesOf e = 8)
    (h : DataW.Trod enc P W base spare held t (.slice a len cap) d ps) : len * 8 ≤ 140737488351232 := by
  obtain ⟨fuel, hf⟩ := h
  rcases open_ints hu he hc hf with ⟨hcs, _⟩ | ⟨x, l, c, zs, hcs, _, hl, _, hz, hx, _, _⟩
  · simp [Value.cells] at hcs
    obtain ⟨rfl, rfl, rfl⟩ := hcs
    simp
  · simp [Value.cells] at hcs
    obtain ⟨rfl, rfl, rfl⟩ := hcs
    obtain ⟨hx, _⟩ := Prod.mk.inj hx
    subst hx
    have z := sized_slice hsz ht hd hu
    rw [hB] at z
    have hl2 : len ≤ zs.length := by
      rw [hz]
      split <;> omega
    have h1 : (lits (H := H) .i64 (zs.take len)).length + (lits (H := H) .i64 (zs.drop len)).length = zs.length := by
      simp [lits]; omega
    rw [h1] at z
    exact Nat.le_trans (Nat.mul_le_mul_right _ hl2) z

theorem cell_of_some {w : World} {x : Addr} {u : Value} (h : w.cell? x = some u) : x.spot = none ∧ x.block < w.heap.size := by
  unfold World.cell? at h
  constructor
  · cases hs : x.spot with
    | none => rfl
    | some s =>
      rw [hs] at h
      simp only [Option.isSome_some, if_true] at h
      split at h <;> cases h
  · apply Classical.byContradiction
    intro hn
    rw [Array.getElem?_eq_none (by omega)] at h
    cases h

theorem row_RT {P : Program} {w : World} {a : Option Addr} {len cap : Nat} {zs : List Int} (h : IsRow w a len cap zs) : (zs.take len).length = len ∧ RT P (.list tI) (fun b => b < w.heap.size) w (zs.take len) [.slice a len cap] ∧ ∀ n ∈ zs.take len, InR .i64 n := by
  rcases h with ⟨rfl, rfl, rfl, rfl⟩ | ⟨x, rfl, hl, hm, hz, hc, hw⟩
  · refine ⟨rfl, ?_, by simp⟩
    simp only [RT]
    exact ⟨none, 0, rfl, Nat.le_refl _, .inl rfl⟩
  · have hlen : (zs.take len).length = len := by simp; omega
    refine ⟨hlen, ?_, fun n hn => ?_⟩
    · simp only [RT]
      refine ⟨some x, cap, by rw [hlen], by rw [hlen]; exact hl, ?_⟩
      by_cases h0 : len = 0
      · exact .inl (by rw [h0]; rfl)
      · have hx := cell_of_some (hc 0 (by omega))
        have ex : x.add 0 = x := rfl
        rw [ex] at hx
        refine .inr ⟨x, rfl, hx.1, hx.2, fun i hi => ?_⟩
        have hi' : i < zs.length := by rw [hlen] at hi; omega
        refine ⟨[.int .i64 (zs.take len)[i]], rfl, rfl, fun j u hu => ?_⟩
        cases j with
        | zero =>
          simp at hu
          subst hu
          have := hc i hi'
          have e : x.add i = ⟨x.block, x.off + (i * AM.size tI + 0), none⟩ := by
            obtain ⟨b, o, s⟩ := x
            simp only at hx
            obtain ⟨rfl, _⟩ := hx
            unfold Addr.add
            split
            · rename_i e; subst e; simp
            · simp [AM.size]
          rw [← e, this]
          simp [List.getD, hi']
        | succ j => simp at hu
    · have := hw n (List.mem_of_mem_take hn)
      simpa [Lit.wf, InR] using this
end Go.AM

set_option linter.unusedSimpArgs false
namespace Go.AM
open Go.ChangeShapes Go.WideShapes Go.ChangeAt Go.RowKit

theorem open_boolV {H : Type} {enc : TypeId × Value → H} {P : Program} {w W : World} {r : Reach} {b0 base : Nat} {spare : Nat → Bool} {held : Bool} {t : TypeId} {v : Value} {d : DataW H} {ps : List MemPlace} (ht : P.underlying t = some .bool)
    (hval : Value.okWide P W r b0 t v) (hd : DataW.Trod enc P w base spare held t v d ps) : ∃ b, v = .bool b ∧ d = .lit (.bool b) ∧ ps = [] := by
  obtain ⟨fuel, hf⟩ := hd
  obtain ⟨b, h, hx⟩ := DataW.trod_bool ht hf
  simp only [Prod.mk.injEq] at hx
  simp only [Value.okWide, ht, Cell.okWide] at hval
  cases v <;> simp_all [Cell.ok, Value.cells]

theorem okWide_aggV {P : Program} {W : World} {r : Reach} {b0 : Nat} {t : TypeId} {v : Value} {fs : Array Field} (ht : P.underlying t = some (.struct fs)) (hval : Value.okWide P W r b0 t v) : ∃ cs, v = .agg cs := by
  simp only [Value.okWide, ht] at hval
  obtain ⟨cs, h, _⟩ := hval
  exact ⟨cs, h⟩

/-- Does a type of the program hold this data? For a struct: its fields from an offset on. -/
def holdsTy (P : Program) : Ty → (TypeId → Bool) × (List Field → Nat → Bool)
  | .int k => (fun T => match P.underlying T with | some (.int k') => decide (k' = k) | _ => false, fun _ _ => false)
  | .bool => (fun T => match P.underlying T with | some .bool => true | _ => false, fun _ _ => false)
  | .str => (fun T => match P.underlying T with | some .string => true | _ => false, fun _ _ => false)
  | .list t => (fun T => match P.underlying T with
      | some (.slice e) => decide (P.cellsOf e = size t) && decide (0 < size t) && (holdsTy P t).1 e
      | _ => false, fun _ _ => false)
  | .unit => (fun _ => false, fun fs _ => fs.isEmpty)
  | .pair a b => 
    let F := fun (fs : List Field) (off : Nat) => match fs with
      | f :: fs => decide (f.offset = off) && decide (P.cellsOf f.type = size a) && (holdsTy P a).1 f.type && (holdsTy P b).2 fs (off + size a)
      | [] => false
    (fun T => match P.underlying T with
      | some (.struct fs) => decide (P.cellsOf T = size a + size b) && F fs.toList 0
      | _ => false, F)
  | _ => (fun _ => false, fun _ _ => false)

/-- data that a caller can hand over -/
def GoodV : (t : Ty) → den t → Prop
  | .int k, n => InR k n
  | .str, s => s.size ≤ maxLen
  | .list t, xs => xs.length ≤ maxLen ∧ ∀ x ∈ xs, GoodV t x
  | .pair a b, x => GoodV a x.1 ∧ GoodV b x.2
  | _, _ => True

theorem exists_list {α : Type} (n : Nat) (p : Nat → α → Prop) (h : ∀ i, i < n → ∃ x, p i x) : ∃ xs : List α, xs.length = n ∧ ∀ i, (hi : i < xs.length) → p i xs[i] := by
  induction n with
  | zero => exact ⟨[], rfl, fun i hi => by cases hi⟩
  | succ n ih =>
    obtain ⟨xs, hl, hx⟩ := ih (fun i hi => h i (by omega))
    obtain ⟨x, hp⟩ := h n (by omega)
    refine ⟨xs ++ [x], by simp [hl], fun i hi => ?_⟩
    rcases Nat.lt_or_ge i xs.length with h1 | h1
    · rw [List.getElem_append_left h1]
      exact hx i h1
    · have : i = n := by simp at hi; omega
      subst this
      rw [List.getElem_append_right h1]
      simpa [hl] using hp

theorem addr_addO {a : Addr} (hs : a.spot = none) (n : Nat) : a.add n = ⟨a.block, a.off + n, none⟩ := by
  obtain ⟨b, o, s⟩ := a
  simp only at hs
  subst hs
  unfold Addr.add
  split
  · rename_i e; subst e; simp
  · rfl

theorem add_spot {a : Addr} {n : Nat} (h : (a.add n).spot = none) : 0 < n ∨ a.spot = none := by
  unfold Addr.add at h
  split at h
  · exact .inr h
  · exact .inl (by omega)

theorem open_RT {H : Type} {enc : TypeId × Value → H} {P : Program} {w : World} {spare : Nat → Bool} {held : Bool} : ∀ t : Ty,
    (∀ T fuel cs x, (holdsTy P t).1 T = true → DataW.trod enc P w 0 spare held fuel T cs = some x → ∃ y : den t, RT P t (fun b => b < w.heap.size) w y cs ∧ GoodV t y) ∧
    (∀ (fs : List Field) off n (cs : List Value) (xs : List (DataW H × List MemPlace)), (holdsTy P t).2 fs off = true → cs.length = off + size t → xs.length = fs.length →
      (∀ (i : Nat) (f : Field), fs[i]? = some f → DataW.trod enc P w 0 spare held n f.type ((cs.drop f.offset).take (P.cellsOf f.type)) = xs[i]?) → ∃ y : den t, RT P t (fun b => b < w.heap.size) w y (cs.drop off) ∧ GoodV t y) := by
  intro t
  induction t with
  | int k =>
    refine ⟨fun T fuel cs x hf h => ?_, fun fs off n cs xs hf => by simp [holdsTy] at hf⟩
    simp only [holdsTy] at hf
    split at hf
    · rename_i k' hu
      rw [decide_eq_true_eq] at hf
      subst hf
      obtain ⟨n, rfl, _, hw⟩ := DataW.trod_int hu h
      refine ⟨n, by simp only [RT], ?_⟩
      simpa [GoodV, Lit.wf, InR] using hw
    · cases hf
  | bool =>
    refine ⟨fun T fuel cs x hf h => ?_, fun fs off n cs xs hf => by simp [holdsTy] at hf⟩
    simp only [holdsTy] at hf
    split at hf
    · rename_i hu
      obtain ⟨b, rfl, _⟩ := DataW.trod_bool hu h
      exact ⟨b, by simp only [RT], trivial⟩
    · cases hf
  | str =>
    refine ⟨fun T fuel cs x hf h => ?_, fun fs off n cs xs hf => by simp [holdsTy] at hf⟩
    simp only [holdsTy] at hf
    split at hf
    · rename_i hu
      obtain ⟨s, rfl, _, hs⟩ := DataW.trod_string hu h
      exact ⟨s, by simp only [RT], hs⟩
    · cases hf
  | list t ih =>
    refine ⟨fun T fuel cs x hf h => ?_, fun fs off n cs xs hf => by simp [holdsTy] at hf⟩
    simp only [holdsTy] at hf
    split at hf
    · rename_i e hu
      simp only [Bool.and_eq_true, decide_eq_true_eq] at hf
      obtain ⟨⟨hc, hz⟩, he⟩ := hf
      rcases DataW.trod_slice hu h with ⟨rfl, _⟩ | ⟨a, len, cap, elems, rest, n, _, rfl, _, hb, hl, hm, hlen, hel, _, _⟩
      · exact ⟨[], by simp only [RT]; exact ⟨none, 0, rfl, Nat.le_refl _, .inl trivial⟩, by simp [GoodV]⟩
      · have each : ∀ i, i < len → ∃ y : den t, (∃ cs, cs.length = size t ∧ RT P t (fun b => b < w.heap.size) w y cs ∧ ∀ j, j < size t → w.cell? ((a.add (i * size t)).add j) = cs[j]?) ∧ GoodV t y := by
          intro i hi
          have h1 := hel i hi
          rw [List.getElem?_eq_getElem (by omega), Option.bind_eq_some_iff] at h1
          obtain ⟨cs, h2, h3⟩ := h1
          obtain ⟨_, hcl, hcc⟩ := World.cells?_some h2
          obtain ⟨y, hy, hg⟩ := ih.1 e n cs _ he h3
          rw [hc] at hcl hcc
          exact ⟨y, ⟨cs, hcl, hy, hcc⟩, hg⟩
        obtain ⟨ys, hyl, hys⟩ := exists_list len _ each
        refine ⟨ys, ?_, by rw [hyl]; omega, fun y hy => ?_⟩
        · simp only [RT]
          refine ⟨some a, cap, by rw [hyl], by omega, ?_⟩
          by_cases h0 : len = 0
          · exact .inl (List.eq_nil_of_length_eq_zero (by omega))
          · have hsp : a.spot = none ∧ a.block < w.heap.size := by
              obtain ⟨⟨cs, h1, _, h3⟩, _⟩ := hys 0 (by omega)
              have := h3 0 hz
              rw [List.getElem?_eq_getElem (by omega)] at this
              have e0 : (a.add (0 * size t)).add 0 = a := by rw [Nat.zero_mul]; rfl
              rw [e0] at this
              exact cell_of_some this
            refine .inr ⟨a, rfl, hsp.1, hsp.2, fun i hi => ?_⟩
            obtain ⟨⟨cs, h1, h2, h3⟩, _⟩ := hys i hi
            refine ⟨cs, h1, h2, fun j u hu => ?_⟩
            have hj : j < size t := by rw [← h1]; exact (List.getElem?_eq_some_iff.1 hu).1
            have := h3 j hj
            rw [addr_addO hsp.1, addr_addO rfl, hu] at this
            rw [← this, Nat.add_assoc]
        · obtain ⟨i, hi, rfl⟩ := List.getElem_of_mem hy
          exact (hys i hi).2
    · cases hf
  | unit =>
    refine ⟨fun T fuel cs x hf => by simp [holdsTy] at hf, fun fs off n cs xs hf hl _ _ => ⟨(), ?_, trivial⟩⟩
    simp only [RT]
    exact List.drop_eq_nil_of_le (by rw [hl]; exact Nat.le_refl _)
  | pair a b iha ihb =>
    have hF : ∀ (fs : List Field) off n (cs : List Value) (xs : List (DataW H × List MemPlace)), (holdsTy P (.pair a b)).2 fs off = true → cs.length = off + size (.pair a b) → xs.length = fs.length →
      (∀ (i : Nat) (f : Field), fs[i]? = some f → DataW.trod enc P w 0 spare held n f.type ((cs.drop f.offset).take (P.cellsOf f.type)) = xs[i]?) → ∃ y : den (.pair a b), RT P (.pair a b) (fun b => b < w.heap.size) w y (cs.drop off) ∧ GoodV (.pair a b) y := by
      intro fs off n cs xs hf hl hx hh
      simp only [holdsTy] at hf
      cases fs with
      | nil => cases hf
      | cons f fs =>
        simp only [Bool.and_eq_true, decide_eq_true_eq] at hf
        obtain ⟨⟨⟨h1, h2⟩, h3⟩, h4⟩ := hf
        cases xs with
        | nil => cases hx
        | cons x xs =>
          have hd := hh 0 f rfl
          rw [h1, h2] at hd
          obtain ⟨y, hy, hg⟩ := iha.1 f.type n _ x h3 hd
          simp only [size] at hl
          obtain ⟨z, hz, hgz⟩ := ihb.2 fs (off + size a) n cs xs h4 (by omega) (by simpa using hx) (fun i g hg => by simpa using hh (i + 1) g (by simpa using hg))
          refine ⟨(y, z), ?_, hg, hgz⟩
          simp only [RT]
          refine ⟨_, _, ?_, hy, hz⟩
          rw [← List.drop_drop]
          exact (List.take_append_drop _ _).symm
    refine ⟨fun T fuel cs x hf h => ?_, hF⟩
    have hf' := hf
    simp only [holdsTy] at hf
    split at hf
    · rename_i fs hu
      rw [Bool.and_eq_true, decide_eq_true_eq] at hf
      obtain ⟨xs, n, rfl, _, hl, hxl, hx⟩ := DataW.trod_struct hu h
      have := hF fs.toList 0 n cs xs hf.2 (by simp only [size]; omega) (by simpa using hxl) (fun i f hi => hx i f (by simpa using hi))
      simpa using this
    · cases hf
  | _ => exact ⟨fun T fuel cs x hf => by simp [holdsTy] at hf, fun fs off n cs xs hf => by simp [holdsTy] at hf⟩
end Go.AM
