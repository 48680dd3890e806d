import Derived.Test.YtbcbgfkojmligaaRows
import Derived.Test.YtbcbgfkojmligaaHT
import Derived.Test.YtbcbgfkojmligaaAK
/- The statement RlogAny of the given rows is proved: the function answers true at every input that the statement lets in; no condition beyond the statement's own. -/
set_option linter.unusedVariables false
set_option linter.unusedSimpArgs false
namespace Go.Proofs.Ytbcbgfkojmligaa.rlogAny
open Go.ChangeShapes Go.WideShapes Go.ChangeAt Go.RowKit Go.AM
set_option linter.unusedVariables false
theorem own : ownKnob Try.prog.godebug = none := by kernel_rfl
theorem laidOut : laidOutB Try.prog = true := by kernel_rfl
set_option maxRecDepth 100000 in
theorem lifted (os : Os) (started : os.Started) (H : Type) (enc : TypeId × Value → H) :
    ReturnsInHanded {} Try.checked os 9 .any (Rows.rlogAnySpec.pre6 enc Try.prog Try.f9 Rows.rlogAnyRow.domain false) (Rows.rlogAnySpec.post enc Try.prog Try.f9 false true false false) := by
  refine returnsInHanded_of_change_sized (C := Try.checked) own started (by kernel_rfl) Try.func9
    (ChangeSpec.witness6 (enc := enc) (C := Try.checked) false ⟨#[], #[(.agg #[.int .i64 0, .int .i64 0, .int .i64 0, .int .i64 0, .int .i64 0, .int .i64 0, .string ⟨#[]⟩, .slice none 0 0, .int .i64 0, .int .i64 0, .int .i64 0, .slice none 0 0, .slice none 0 0, .slice none 0 0, .int .i64 0]), (.agg #[.int .i64 0, .int .i64 0, .int .i64 0, .int .i64 0, .int .i64 0, .int .i64 0, .string ⟨#[]⟩, .slice none 0 0, .int .i64 0, .int .i64 0, .int .i64 0, .slice none 0 0, .slice none 0 0, .slice none 0 0, .int .i64 0]), .int .i64 0], []⟩ 8 (by kernel_rfl) (by kernel_rfl) (by kernel_rfl) (by kernel_rfl)) ?_
  intro W base args ds gs before hval0 hW hcnd hsz0 _
  have hsz : (DataW.weightsEach Try.prog (Try.f9.params.toList ++ Rows.rlogAnySpec.plain.varTypes Try.prog) (ds ++ gs)).all (· ≤ reachBytes) = true := hsz0
  have hval : ∀ (j : Nat) t v, Try.f9.params[j]? = some t → args[j]? = some v → Value.okWide Try.prog W .any base t v := hval0
  have hW' := hW
  obtain ⟨p, q, hA0, hV, rfl, hfz, hnd⟩ := hW
  have hA : DataW.TrodAll enc Try.prog W 0 (fun _ => true) true Try.f9.params.toList args.toList ds p := hA0
  rw [Try.params9] at hA hval hsz
  obtain ⟨v0, vs0, d0, ds0, p0, q0, hargs, rfl, rfl, h0, r0⟩ := trodAll_cons hA
  obtain ⟨v1, vs1, d1, ds1, p1, q1, rfl, rfl, rfl, h1, r1⟩ := trodAll_cons r0
  obtain ⟨v2, vs2, d2, ds2, p2, q2, rfl, rfl, rfl, h2, r2⟩ := trodAll_cons r1
  obtain ⟨rfl, rfl, rfl⟩ := trodAll_nil r2
  obtain rfl : args = #[v0, v1, v2] := by cases args; simp_all
  obtain ⟨rfl, rfl⟩ := trodVars_none hV
  obtain ⟨a0, rfl⟩ := okWide_aggV Try.underlying26 (hval 0 26 v0 rfl rfl)
  have k0 := h0
  have lt0 : ∀ x ∈ p0, x.block < W.heap.size := by obtain ⟨m, hm⟩ := k0; exact DataW.trod_lt m _ _ _ hm
  obtain ⟨z0, g0, b0⟩ : ∃ y : den tNode, RT Try.prog tNode (fun b => b < W.heap.size) W y a0.toList ∧ GoodV tNode y := by
    obtain ⟨fuel, hf⟩ := h0
    obtain ⟨y, hy, hg⟩ := (open_RT tNode).1 26 fuel _ _ (by kernel_rfl) hf
    exact ⟨y, by simpa [Value.cells] using hy, hg⟩
  obtain ⟨a1, rfl⟩ := okWide_aggV Try.underlying26 (hval 1 26 v1 rfl rfl)
  have k1 := h1
  have lt1 : ∀ x ∈ p1, x.block < W.heap.size := by obtain ⟨m, hm⟩ := k1; exact DataW.trod_lt m _ _ _ hm
  obtain ⟨z1, g1, b1⟩ : ∃ y : den tNode, RT Try.prog tNode (fun b => b < W.heap.size) W y a1.toList ∧ GoodV tNode y := by
    obtain ⟨fuel, hf⟩ := h1
    obtain ⟨y, hy, hg⟩ := (open_RT tNode).1 26 fuel _ _ (by kernel_rfl) hf
    exact ⟨y, by simpa [Value.cells] using hy, hg⟩
  obtain ⟨a2, rfl, rfl, rfl, w2⟩ := open_int Try.underlying3 (hval 2 3 v2 rfl rfl) h2
  have b2 : InR .i64 a2 := by simpa [Lit.wf, InR] using w2
  clear hA0 hval0 hsz0 hsz
  have hc := (Go.AM.h9).calls W (fun b => b < W.heap.size) (z0, z1, a2, ()) [.agg a0, .agg a1, .int .i64 a2] trivial (fun _ h => h) (show RArgs Try.prog (.pair tNode (.pair tNode (.pair tI .unit))) _ W (z0, z1, a2, ()) [.agg a0, .agg a1, .int .i64 a2] by simp only [RArgs, isSt, Bool.false_eq_true, if_false]; exact ⟨_, _, rfl, ⟨_, rfl, g0⟩, ⟨_, _, rfl, ⟨_, rfl, g1⟩, ⟨_, _, rfl, rfl, rfl⟩⟩⟩)
  refine hc.mono fun e W' he => ?_
  obtain ⟨v, G', Ls, rfl, bel, _, hres, _⟩ := he
  have hres2 : ResV Try.prog (.pair .bool .unit) G' W' (true, ()) v Ls := hres
  have hv : v = .bool true := by simp [ResV, RVL, RV, isSt, RT] at hres2; exact hres2.2
  subst hv
  exact ⟨_, rfl, _, _, _, [], _, [], hW', trodAll_mk1 (shut_bool Try.underlying4 _), (trodAll_cons_mk (Below.trod laidOut (by kernel_rfl) (of_decide_eq_true (by kernel_rfl)) k0 bel lt0) (trodAll_cons_mk (Below.trod laidOut (by kernel_rfl) (of_decide_eq_true (by kernel_rfl)) k1 bel lt1) (trodAll_cons_mk (shut_int Try.underlying3 w2) trodAll_mk0))), rfl, bel.frame _, fun h => by cases h⟩
theorem over : Rows.rlogAnyRow.holds Try.pinned (OpenSpec.ofChange Rows.rlogAnySpec) :=
  OpenClaim.holds_of_wide 9 Try.f9 rfl rfl rfl rfl rfl rfl rfl ⟨rfl, rfl, rfl, rfl, rfl⟩ rfl rfl rfl rfl rfl (by kernel_rfl) Try.func9 (by kernel_rfl)
    (of_decide_eq_true (by kernel_rfl)) (by unfold Func.isWrapper; first | (rw [if_pos (by decide +kernel)]; kernel_rfl) | (rw [if_neg (by decide +kernel)]; exact ⟨rfl, rfl⟩))
    (fun os started H enc _ => lifted os started H enc)
end Go.Proofs.Ytbcbgfkojmligaa.rlogAny
namespace Go.Proofs.Ytbcbgfkojmligaa
theorem rlogAny_holds : Rows.RlogAnySaid := rlogAny.over
end Go.Proofs.Ytbcbgfkojmligaa

