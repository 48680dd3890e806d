import Derived.Test.YtbcbgfkojmligaaAK
import Derived.WalkKit
import Derived.ProofKit
import Derived.OpenShut
import Derived.ChangeOld
import Derived.Below
import Derived.SizedLaws
/- Part of an abstract machine for Go code and of its soundness, for any program of the model; no condition. -/
set_option maxHeartbeats 4000000
set_option linter.unusedVariables false
set_option linter.unusedSimpArgs false
set_option linter.unusedSimpArgs false
namespace Go.AM
open Go.ChangeShapes Go.WideShapes Go.ChangeAt Go.RowKit

/-- A slice of whole numbers, as the row hands it over. -/
def IsRow (w : World) (a : Option Addr) (len cap : Nat) (zs : List Int) : Prop :=
  (a = none ∧ len = 0 ∧ cap = 0 ∧ zs = []) ∨
  ∃ x, a = some x ∧ len ≤ cap ∧ cap ≤ maxLen ∧ zs.length = cap ∧ (∀ i, i < zs.length → w.cell? (x.add i) = some (.int .i64 (zs.getD i 0))) ∧ ∀ n ∈ zs, (Lit.int .i64 n).wf = true

theorem len_of_sized {H : Type} {enc : TypeId × Value → H} {P : Program} {W : World} {base : Nat} {spare : Nat → Bool} {held : Bool} {t e : TypeId} {a : Option Addr} {len cap : Nat} {d : DataW H} {ps : List MemPlace} {ts : List TypeId} {ds : List (DataW H)} {j : Nat}
    (hsz : (DataW.weightsEach P ts ds).all (· ≤ reachBytes) = true) (ht : ts[j]? = some t) (hd : ds[j]? = some d) (hu : P.underlying t = some (.slice e)) (he : P.underlying e = some (.int .i64)) (hc : P.cellsOf e = 1) (hB : P.bytesOf e = 8)
    (h : DataW.Trod enc P W base spare held t (.slice a len cap) d ps) : len * 8 ≤ 140737488351232 := by
  obtain ⟨fuel, hf⟩ := h
  rcases open_ints hu he hc hf with ⟨hcs, _⟩ | ⟨x, l, c, zs, hcs, _, hl, _, hz, hx, _, _⟩
  · simp [Value.cells] at hcs
    obtain ⟨rfl, rfl, rfl⟩ := hcs
    simp
  · simp [Value.cells] at hcs
    obtain ⟨rfl, rfl, rfl⟩ := hcs
    obtain ⟨hx, _⟩ := Prod.mk.inj hx
    subst hx
    have z := sized_slice hsz ht hd hu
    rw [hB] at z
    have hl2 : len ≤ zs.length := by
      rw [hz]
      split <;> omega
    have h1 : (lits (H := H) .i64 (zs.take len)).length + (lits (H := H) .i64 (zs.drop len)).length = zs.length := by
      simp [lits]; omega
    rw [h1] at z
    exact Nat.le_trans (Nat.mul_le_mul_right _ hl2) z

theorem cell_of_some {w : World} {x : Addr} {u : Value} (h : w.cell? x = some u) : x.spot = none ∧ x.block < w.heap.size := by
  unfold World.cell? at h
  constructor
  · cases hs : x.spot with
    | none => rfl
    | some s =>
      rw [hs] at h
      simp only [Option.isSome_some, if_true] at h
      split at h <;> cases h
  · apply Classical.byContradiction
    intro hn
    rw [Array.getElem?_eq_none (by omega)] at h
    cases h

theorem row_RT {P : Program} {w : World} {a : Option Addr} {len cap : Nat} {zs : List Int} (h : IsRow w a len cap zs) : (zs.take len).length = len ∧ RT P (.list tI) (fun b => b < w.heap.size) w (zs.take len) [.slice a len cap] ∧ ∀ n ∈ zs.take len, InR .i64 n := by
  rcases h with ⟨rfl, rfl, rfl, rfl⟩ | ⟨x, rfl, hl, hm, hz, hc, hw⟩
  · refine ⟨rfl, ?_, by simp⟩
    simp only [RT]
    exact ⟨none, 0, rfl, Nat.le_refl _, .inl rfl⟩
  · have hlen : (zs.take len).length = len := by simp; omega
    refine ⟨hlen, ?_, fun n hn => ?_⟩
    · simp only [RT]
      refine ⟨some x, cap, by rw [hlen], by rw [hlen]; exact hl, ?_⟩
      by_cases h0 : len = 0
      · exact .inl (by rw [h0]; rfl)
      · have hx := cell_of_some (hc 0 (by omega))
        have ex : x.add 0 = x := rfl
        rw [ex] at hx
        refine .inr ⟨x, rfl, hx.1, hx.2, fun i hi => ?_⟩
        have hi' : i < zs.length := by rw [hlen] at hi; omega
        refine ⟨[.int .i64 (zs.take len)[i]], rfl, rfl, fun j u hu => ?_⟩
        cases j with
        | zero =>
          simp at hu
          subst hu
          have := hc i hi'
          have e : x.add i = ⟨x.block, x.off + (i * AM.size tI + 0), none⟩ := by
            obtain ⟨b, o, s⟩ := x
            simp only at hx
            obtain ⟨rfl, _⟩ := hx
            unfold Addr.add
            split
            · rename_i e; subst e; simp
            · simp [AM.size]
          rw [← e, this]
          simp [List.getD, hi']
        | succ j => simp at hu
    · have := hw n (List.mem_of_mem_take hn)
      simpa [Lit.wf, InR] using this
end Go.AM
