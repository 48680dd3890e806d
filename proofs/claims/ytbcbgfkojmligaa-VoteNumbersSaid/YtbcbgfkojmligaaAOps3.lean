import Derived.Test.YtbcbgfkojmligaaAOps2
/- Part of an abstract machine for Go code and of its soundness, for any program of the model; no condition. -/
set_option linter.unusedVariables false
set_option linter.unusedSimpArgs false
namespace Go.AM
open Go.RowKit
section
variable {P : Program} {TT : TyTab} {N : Nat} {rowAt : List Nat} {X : Ctx} {σ : St} {a : Act} {w : World} {φ : Nat → Loc} {G M : Nat → Prop} {o : Oper} {next : Act → World → Prop} {Q : Exit → Act → World → Prop}

theorem addr_add (b o n : Nat) : (⟨b, o, none⟩ : Addr).add n = ⟨b, o + n, none⟩ := by unfold Addr.add; split <;> simp_all

theorem size_run {t : TypeId} (h : 0 < P.cellsOf t) : (Go.sizeOf t).run P w = .ok (P.cellsOf t) w := by
  obtain ⟨i, hi, hs⟩ := info_of_cells h
  simp [Go.sizeOf, typeInfo, hi, hs]

theorem sound_fld (h : Rel P X σ a w φ G M) {t : TypeId} {x : Operand} {i : Nat} {f : Field} (ho : o.op = .fieldAddr t x i) (hf : fieldOf P t i = some f) (h0 : 0 < P.cellsOf f.type)
    {p : AV} (hp : RA P φ G M w σ.heap p (a.eval x)) {need : Prop} {v : AV} {e : Eff} (hr : fldR f.offset p = .ok need v e) (hk : Cont P X σ e v a o next) : o.wp P a w next Q := by
  have run : ∀ b off, a.eval x = .pointer (some ⟨b, off, none⟩) → (execOp a.eval o).run P w = .ok (.value (.pointer (some ⟨b, off + f.offset, none⟩))) w := by
    intro b off hx
    unfold fieldOf at hf
    split at hf
    · rename_i fs hu
      have hne : P.cellsOf f.type ≠ 0 := by omega
      simp only [execOp, ho, Instr.fieldAt, Sem.run_bind, underlying, run_program, Result.andThen_ok, hu, Sem.run_pure, hf, hx, Instr.sureAddr, fieldPlace, size_run h0, hne, if_false, addr_add]
    · cases hf
  cases p with
  | ptr k off =>
    simp only [fldR] at hr; cases hr
    have hp' := hp
    simp only [RA] at hp
    refine wp_value h (run _ _ hp.1) ?_ hk
    simp only [RA]
    exact ⟨trivial, hp.2⟩
  | rptr k i off =>
    simp only [fldR] at hr; cases hr
    simp only [RA] at hp
    split at hp
    · rename_i ty xs fz hkk
      refine wp_value h (run _ _ hp.2) ?_ hk
      simp only [RA, hkk]
      exact ⟨hp.1, by rw [Nat.add_assoc]⟩
    · exact hp.elim
  | el ty x' off =>
    simp only [fldR] at hr; cases hr
    simp only [RA] at hp
    obtain ⟨hpl, b, ob, hx, rest⟩ := hp
    refine wp_value h (run _ _ hx) ?_ hk
    simp only [RA]
    exact ⟨hpl, b, ob, by rw [Nat.add_assoc], rest⟩
  | _ => simp [fldR] at hr

theorem sound_idx (h : Rel P X σ a w φ G M) {t e : TypeId} {x y : Operand} (ho : o.op = .indexAddr t x y) (hu : P.underlying t = some (.slice e))
    {p i : AV} (hp : RA P φ G M w σ.heap p (a.eval x)) (hi : RA P φ G M w σ.heap i (a.eval y)) {need : Prop} {v : AV} {ef : Eff} (hr : idxR σ.heap (P.cellsOf e) p i = .ok need v ef) (hn : need)
    (hk : Cont P X σ ef v a o next) : o.wp P a w next Q := by
  have run : ∀ b off len c k (n : Int), a.eval x = .slice (some ⟨b, off, none⟩) len c → a.eval y = .int k n → 0 ≤ n → n < len → 0 < P.cellsOf e →
      (execOp a.eval o).run P w = .ok (.value (.pointer (some ⟨b, off + n.toNat * P.cellsOf e, none⟩))) w := by
    intro b off len c k n hx hy h0 h1 hc
    simp [execOp, ho, Instr.indexAt, hx, hy, asIntOf, underlying, hu, h0, h1, size_run hc, addr_add]
  cases p with
  | sl ty xs full =>
    cases i with
    | int k n =>
      simp only [idxR] at hr
      split at hr
      · rename_i hs
        cases hr
        simp only [RA] at hp hi
        obtain ⟨hpl, hz, hrt, _⟩ := hp
        simp only [RT] at hrt
        obtain ⟨A, c, hx, _, hne⟩ := hrt
        simp only [List.cons.injEq, and_true] at hx
        have hlen : n.toNat < xs.length := by omega
        rcases hne with rfl | ⟨ad, rfl, hsp, hg, hcells⟩
        · simp at hlen
        · obtain ⟨b, ob, sp⟩ := ad
          simp only at hsp hg hcells
          subst hsp
          obtain ⟨cs, hl, hr2, hcell⟩ := hcells n.toNat hlen
          refine wp_value h (run _ _ _ _ _ _ hx hi hn.1 hn.2 (by omega)) ?_ hk
          simp only [RA]
          refine ⟨hpl, b, ob + n.toNat * P.cellsOf e, rfl, hg, cs, hl, ?_, fun j u hj => ?_⟩
          · simpa [List.getD, List.getElem?_eq_getElem hlen] using hr2
          · have := hcell j u hj
            rw [← hs]
            rwa [show ob + (n.toNat * size ty + j) = ob + n.toNat * size ty + j by omega] at this
      · cases hr
    | _ => simp [idxR] at hr
  | own k lo len =>
    cases i with
    | int kk n =>
      simp only [idxR] at hr
      split at hr
      · rename_i ty xs f hkk
        split at hr
        · rename_i hs
          cases hr
          simp only [RA, hkk] at hp hi
          obtain ⟨hle, A, hx, hcap, hA⟩ := hp
          have hA' := hA.resolve_left (by omega)
          subst hA'
          have hob := h.heap.obj k _ hkk
          simp only [RObj] at hob
          obtain ⟨⟨hpl, hz, _⟩, _⟩ := hob
          refine wp_value h (run _ _ _ _ _ _ hx hi hn.1 hn.2 (by omega)) ?_ hk
          simp only [RA, hkk]
          refine ⟨by omega, ?_⟩
          rw [← hs, Nat.add_mul]
          simp only [Nat.add_assoc, Nat.add_zero]
        · cases hr
      · cases hr
    | _ => simp [idxR] at hr
  | _ => cases i <;> simp [idxR] at hr

theorem sound_aidx (h : Rel P X σ a w φ G M) {t e : TypeId} {n : Nat} {x y : Operand} (ho : o.op = .indexAddr t x y) (hu : P.underlying t = some (.array n e)) (h0 : 0 < P.cellsOf e)
    {p i : AV} (hp : RA P φ G M w σ.heap p (a.eval x)) (hi : RA P φ G M w σ.heap i (a.eval y)) {T : Tab} {d : Nat} {need : Prop} {v : AV} {ef : Eff}
    (hr : run T d σ.heap (.aidx (P.cellsOf e) n) [p, i] = .ok need v ef) (hn : need) (hk : Cont P X σ ef v a o next) : o.wp P a w next Q := by
  have run : ∀ b off k (m : Int), a.eval x = .pointer (some ⟨b, off, none⟩) → a.eval y = .int k m → 0 ≤ m → m < n →
      (execOp a.eval o).run P w = .ok (.value (.pointer (some ⟨b, off + m.toNat * P.cellsOf e, none⟩))) w := by
    intro b off k m hx hy h1 h2
    simp [execOp, ho, Instr.indexAt, Instr.sureAddr, hx, hy, asIntOf, underlying, hu, h1, h2, size_run h0, addr_add]
  cases p with
  | ptr k off =>
    cases i with
    | int kk m =>
      simp only [AM.run] at hr
      cases hr
      simp only [RA] at hp hi
      refine wp_value h (run _ _ _ _ hp.1 hi hn.1 hn.2) ?_ hk
      simp only [RA]
      exact ⟨trivial, hp.2⟩
    | _ => simp [AM.run] at hr
  | rptr k j off =>
    cases i with
    | int kk m =>
      cases j with
      | zero =>
        cases off with
        | zero =>
          simp only [AM.run] at hr
          split at hr
          · rename_i ty xs f hkk
            split at hr
            · rename_i hs
              cases hr
              simp only [RA, hkk] at hp hi
              refine wp_value h (run _ _ _ _ hp.2 hi hn.1 hn.2.1) ?_ hk
              simp only [RA, hkk]
              refine ⟨by omega, ?_⟩
              rw [← hs]
              simp
            · cases hr
          · cases hr
        | succ off => simp [AM.run] at hr
      | succ j => cases off <;> simp [AM.run] at hr
    | _ => cases j <;> cases off <;> simp [AM.run] at hr
  | _ => cases i <;> simp [AM.run] at hr

/-! ### numbers -/
theorem wrap_in {k : IntKind} {n : Int} (h : InR k n) : k.wrap n = n := by
  unfold InR at h
  cases k <;> simp [IntKind.wrap, IntKind.min, IntKind.max, IntKind.bits, IntKind.signed] at h ⊢ <;> omega

theorem arith_run {op : BinOp} {k : IntKind} {x y : Int} {t : TypeId} {need : Prop} {v : AV} {e : Eff} (hr : arith op k x y = .ok need v e) (hn : need) :
    e = {} ∧ ∃ u, (binOp op t (.int k x) (.int k y)).run P w = .ok u w ∧ ∀ H, RA P φ G M w H v u := by
  cases op <;> simp only [arith] at hr
  case add =>
    cases k
    case i64 => cases hr; exact ⟨rfl, .int .i64 (x + y), by simp [binOp, Op.intArith, wrap_in hn], fun H => by simp only [RA]⟩
    case i8 => cases hr; exact ⟨rfl, .int .i8 (IntKind.i8.wrap (x + y)), by simp [binOp, Op.intArith], fun H => by simp only [RA]⟩
    case i16 => cases hr; exact ⟨rfl, .int .i16 (IntKind.i16.wrap (x + y)), by simp [binOp, Op.intArith], fun H => by simp only [RA]⟩
    case i32 => cases hr; exact ⟨rfl, .int .i32 (IntKind.i32.wrap (x + y)), by simp [binOp, Op.intArith], fun H => by simp only [RA]⟩
    case u8 => cases hr; exact ⟨rfl, .int .u8 (IntKind.u8.wrap (x + y)), by simp [binOp, Op.intArith], fun H => by simp only [RA]⟩
    case u16 => cases hr; exact ⟨rfl, .int .u16 (IntKind.u16.wrap (x + y)), by simp [binOp, Op.intArith], fun H => by simp only [RA]⟩
    case u32 => cases hr; exact ⟨rfl, .int .u32 (IntKind.u32.wrap (x + y)), by simp [binOp, Op.intArith], fun H => by simp only [RA]⟩
    case u64 => cases hr; exact ⟨rfl, .int .u64 (IntKind.u64.wrap (x + y)), by simp [binOp, Op.intArith], fun H => by simp only [RA]⟩
  case sub =>
    cases k
    case i64 => cases hr; exact ⟨rfl, .int .i64 (x - y), by simp [binOp, Op.intArith, wrap_in hn], fun H => by simp only [RA]⟩
    case i8 => cases hr; exact ⟨rfl, .int .i8 (IntKind.i8.wrap (x - y)), by simp [binOp, Op.intArith], fun H => by simp only [RA]⟩
    case i16 => cases hr; exact ⟨rfl, .int .i16 (IntKind.i16.wrap (x - y)), by simp [binOp, Op.intArith], fun H => by simp only [RA]⟩
    case i32 => cases hr; exact ⟨rfl, .int .i32 (IntKind.i32.wrap (x - y)), by simp [binOp, Op.intArith], fun H => by simp only [RA]⟩
    case u8 => cases hr; exact ⟨rfl, .int .u8 (IntKind.u8.wrap (x - y)), by simp [binOp, Op.intArith], fun H => by simp only [RA]⟩
    case u16 => cases hr; exact ⟨rfl, .int .u16 (IntKind.u16.wrap (x - y)), by simp [binOp, Op.intArith], fun H => by simp only [RA]⟩
    case u32 => cases hr; exact ⟨rfl, .int .u32 (IntKind.u32.wrap (x - y)), by simp [binOp, Op.intArith], fun H => by simp only [RA]⟩
    case u64 => cases hr; exact ⟨rfl, .int .u64 (IntKind.u64.wrap (x - y)), by simp [binOp, Op.intArith], fun H => by simp only [RA]⟩
  case mul =>
    cases k
    case i64 => cases hr; exact ⟨rfl, .int .i64 (x * y), by simp [binOp, Op.intArith, wrap_in hn], fun H => by simp only [RA]⟩
    case i8 => cases hr; exact ⟨rfl, .int .i8 (IntKind.i8.wrap (x * y)), by simp [binOp, Op.intArith], fun H => by simp only [RA]⟩
    case i16 => cases hr; exact ⟨rfl, .int .i16 (IntKind.i16.wrap (x * y)), by simp [binOp, Op.intArith], fun H => by simp only [RA]⟩
    case i32 => cases hr; exact ⟨rfl, .int .i32 (IntKind.i32.wrap (x * y)), by simp [binOp, Op.intArith], fun H => by simp only [RA]⟩
    case u8 => cases hr; exact ⟨rfl, .int .u8 (IntKind.u8.wrap (x * y)), by simp [binOp, Op.intArith], fun H => by simp only [RA]⟩
    case u16 => cases hr; exact ⟨rfl, .int .u16 (IntKind.u16.wrap (x * y)), by simp [binOp, Op.intArith], fun H => by simp only [RA]⟩
    case u32 => cases hr; exact ⟨rfl, .int .u32 (IntKind.u32.wrap (x * y)), by simp [binOp, Op.intArith], fun H => by simp only [RA]⟩
    case u64 => cases hr; exact ⟨rfl, .int .u64 (IntKind.u64.wrap (x * y)), by simp [binOp, Op.intArith], fun H => by simp only [RA]⟩
  case quo => cases hr; exact ⟨rfl, .int k (x.tdiv y), by simp [binOp, Op.intDiv, hn.1, wrap_in hn.2], fun H => by simp only [RA]⟩
  case rem => cases hr; exact ⟨rfl, .int k (x.tmod y), by simp only [ne_eq] at hn; simp [binOp, Op.intDiv, hn], fun H => by simp only [RA]⟩
  case eql => cases hr; exact ⟨rfl, .bool (decide (x = y)), by simp [binOp, Op.intCmp] <;> rfl, fun H => by simp only [RA]⟩
  case neq => cases hr; exact ⟨rfl, .bool (!decide (x = y)), by simp [binOp, Op.intCmp, bne] <;> rfl, fun H => by simp only [RA]⟩
  case lss => cases hr; exact ⟨rfl, .bool (decide (x < y)), by simp [binOp, Op.intCmp], fun H => by simp only [RA]⟩
  case leq => cases hr; exact ⟨rfl, .bool (decide (x ≤ y)), by simp [binOp, Op.intCmp], fun H => by simp only [RA]⟩
  case gtr => cases hr; exact ⟨rfl, .bool (decide (y < x)), by simp [binOp, Op.intCmp], fun H => by simp only [RA]⟩
  case geq => cases hr; exact ⟨rfl, .bool (decide (y ≤ x)), by simp [binOp, Op.intCmp], fun H => by simp only [RA]⟩
  all_goals cases hr

theorem sound_bin (h : Rel P X σ a w φ G M) {t t' : TypeId} {op : BinOp} {x y : Operand} (ho : o.op = .binOp op t x y t') {p q : AV} (hp : RA P φ G M w σ.heap p (a.eval x)) (hq : RA P φ G M w σ.heap q (a.eval y))
    {need : Prop} {v : AV} {ef : Eff} (hr : bin op p q = .ok need v ef) (hn : need) (hk : Cont P X σ ef v a o next) : o.wp P a w next Q := by
  cases p with
  | int k m =>
    cases q with
    | int k' n =>
      simp only [bin] at hr
      split at hr
      · rename_i e
        subst e
        obtain ⟨rfl, u, hrun, hra⟩ := arith_run (P := P) (w := w) (φ := φ) (G := G) (M := M) (t := t) hr hn
        simp only [RA] at hp hq
        refine wp_value h ?_ (hra σ.heap) hk
        have hg : (eqGuard op t x y (.int k m) (.int k n)).run P w = .ok () w := by unfold eqGuard; split <;> rfl
        simp only [execOp, ho, hp, hq, Sem.run_bind, hg, Result.andThen_ok, hrun, Sem.run_pure]
      · cases hr
    | _ => simp [bin] at hr
  | str m =>
    cases q with
    | str n =>
      simp only [RA] at hp hq
      have hg : (eqGuard op t x y (.string m) (.string n)).run P w = .ok () w := by unfold eqGuard; split <;> rfl
      cases op <;> simp only [bin] at hr
      case add =>
        cases hr
        refine wp_value h (u := .string (m ++ n)) ?_ (by simp only [RA]) hk
        simp only [execOp, ho, hp, hq, Sem.run_bind, hg, Result.andThen_ok]
        simp [binOp, Op.stringOp]
        omega
      case eql =>
        cases hr
        refine wp_value h (u := .bool (m.toList == n.toList)) ?_ (by simp only [RA]) hk
        simp only [execOp, ho, hp, hq, Sem.run_bind, hg, Result.andThen_ok]
        simp [binOp, Op.stringOp]
      case neq =>
        cases hr
        refine wp_value h (u := .bool (!(m.toList == n.toList))) ?_ (by simp only [RA]) hk
        simp only [execOp, ho, hp, hq, Sem.run_bind, hg, Result.andThen_ok]
        simp [binOp, Op.stringOp]
      all_goals cases hr
    | _ => simp [bin] at hr
  | _ => cases q <;> simp [bin] at hr

theorem sound_binb (h : Rel P X σ a w φ G M) {t t' : TypeId} {op : BinOp} {x y : Operand} (ho : o.op = .binOp op t x y t') (hu : P.underlying t = some .bool) {p q : Bool} (hp : RA P φ G M w σ.heap (.bool p) (a.eval x)) (hq : RA P φ G M w σ.heap (.bool q) (a.eval y))
    {r : Bool} (hr : (op = .eql ∧ r = (p == q)) ∨ (op = .neq ∧ r = !(p == q))) (hk : Cont P X σ {} (.bool r) a o next) : o.wp P a w next Q := by
  simp only [RA] at hp hq
  have hg : (eqGuard op t x y (.bool p) (.bool q)).run P w = .ok () w := by unfold eqGuard; split <;> rfl
  have he : (Op.equal t (.bool p) (.bool q)).run P w = .ok (p == q) w := by
    unfold Op.equal
    obtain ⟨n, hn⟩ : ∃ n, Op.maxDepth = n + 1 := ⟨9999, rfl⟩
    rw [hn]
    simp only [Op.equalIn, underlying, hu, Sem.run_bind, run_program, Result.andThen_ok, Sem.run_pure]
  refine wp_value h (u := .bool r) ?_ (by simp only [RA]) hk
  rcases hr with ⟨rfl, rfl⟩ | ⟨rfl, rfl⟩ <;>
  · simp only [execOp, ho, hp, hq, Sem.run_bind, hg, Result.andThen_ok]
    simp [binOp, he]

theorem sound_neg (h : Rel P X σ a w φ G M) {t : TypeId} {x : Operand} (ho : o.op = .unOp .neg t x) {k : IntKind} {n : Int} (hp : RA P φ G M w σ.heap (.int k n) (a.eval x))
    {need : Prop} {v : AV} {ef : Eff} (hr : arith .sub k 0 n = .ok need v ef) (hn : need) (hk : Cont P X σ ef v a o next) : o.wp P a w next Q := by
  obtain ⟨rfl, u, hrun, hra⟩ := arith_run (P := P) (w := w) (φ := φ) (G := G) (M := M) (t := t) hr hn
  simp only [RA] at hp
  refine wp_value h (u := u) ?_ (hra σ.heap) hk
  have : (Op.unary .neg (.int k n)).run P w = .ok u w := by simpa [binOp, Op.unary] using hrun
  simp only [execOp, ho, hp, Sem.run_bind, this, Result.andThen_ok, Sem.run_pure]

theorem sound_not (h : Rel P X σ a w φ G M) {t : TypeId} {x : Operand} (ho : o.op = .unOp .not t x) {b : Bool} (hp : RA P φ G M w σ.heap (.bool b) (a.eval x))
    (hk : Cont P X σ {} (.bool (!b)) a o next) : o.wp P a w next Q := by
  simp only [RA] at hp
  refine wp_value h (u := .bool (!b)) ?_ (by simp only [RA]) hk
  simp [execOp, ho, hp, Op.unary]

theorem sound_isnil (h : Rel P X σ a w φ G M) {t t' e : TypeId} {x y : Operand} (ho : o.op = .binOp .eql t x y t') (hy : a.eval y = .slice none 0 0) (hu : P.underlying t = some (.slice e)) {ty : Ty} {xs : List (den ty)} {f : Bool}
    (hp : RA P φ G M w σ.heap (.sl ty xs f) (a.eval x)) (hk : ∀ b : Bool, (xs ≠ [] → b = false) → Cont P X σ {} (.bool b) a o next) : o.wp P a w next Q := by
  simp only [RA, RT] at hp
  obtain ⟨_, _, ⟨A, c, hx, _, hne⟩, _⟩ := hp
  simp only [List.cons.injEq, and_true] at hx
  have hg : (eqGuard .eql t x y (.slice A xs.length c) (.slice none 0 0)).run P w = .ok () w := by unfold eqGuard; rfl
  have he : (Op.equal t (.slice A xs.length c) (.slice none 0 0)).run P w = .ok A.isNone w := by
    unfold Op.equal
    obtain ⟨n, hn⟩ : ∃ n, Op.maxDepth = n + 1 := ⟨9999, rfl⟩
    rw [hn]
    cases A <;> simp only [Op.equalIn, underlying, hu, Sem.run_bind, run_program, Result.andThen_ok, Sem.run_pure, Option.isNone]
  refine wp_value h (u := .bool A.isNone) ?_ (by simp only [RA]) (hk A.isNone fun hxs => ?_)
  · simp only [execOp, ho, hx, hy, Sem.run_bind, hg, Result.andThen_ok]
    simp [binOp, he]
  · rcases hne with rfl | ⟨ad, rfl, _⟩
    · exact absurd rfl hxs
    · rfl
end
end Go.AM
