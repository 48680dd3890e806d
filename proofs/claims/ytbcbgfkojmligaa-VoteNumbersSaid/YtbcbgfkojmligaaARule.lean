import Derived.Test.YtbcbgfkojmligaaAEqs2
/- Part of an abstract machine for Go code and of its soundness, for any program of the model; no condition. -/
set_option linter.unusedVariables false
set_option linter.unusedSimpArgs false
set_option linter.unusedSimpArgs false
namespace Go.AM
section
variable {T : Tab} {c : C} {Q : Ex → St → Prop} {σ : St} {β : Type}
/-- The loop's head is reached once more, nearer to the end. -/
def Again (st : β → St) (inv : β → Prop) (μ : β → Nat) (n : Nat) (σ' : St) : Prop := ∃ n' σ'', n' < n ∧ Ent σ' σ'' ∧ ∃ b, σ'' = st b ∧ inv b ∧ μ b = n'
theorem Again.intro {st : β → St} {inv : β → Prop} {μ : β → Nat} {n : Nat} {σ' : St} (b : β) (he : Ent σ' (st b)) (hi : inv b) (hm : μ b < n) : Again st inv μ n σ' := ⟨μ b, st b, hm, he, b, rfl, hi, rfl⟩
theorem loop_rule (st : β → St) (inv : β → Prop) (μ : β → Nat) (b0 : β) (h0 : Ent σ (st b0)) (hi : inv b0)
    (hs : ∀ b, inv b → vc T c (andThen Q (Again st inv μ (μ b))) (st b)) : vc T (.loop c) Q σ := by
  refine ⟨fun n σ => ∃ b, σ = st b ∧ inv b ∧ μ b = n, ⟨μ b0, st b0, h0, b0, rfl, hi, rfl⟩, ?_⟩
  rintro n σ ⟨b, rfl, hb, rfl⟩
  exact hs b hb
end
section
variable {m : List (Nat × Nat)} {H H' : Heap} {v v' : AV} {vs vs' : List AV}
@[go_sem] theorem mget_nil {j} : mget [] j = none := rfl
@[go_sem] theorem mget_cons {k k0 j} : mget ((k, k0) :: m) j = if k = j then some k0 else mget m j := rfl
def isRow : Option Obj → Prop
  | some (.row _ _ _) => True
  | _ => False
@[go_sem] theorem isRow_row {t xs f} : isRow (some (.row t xs f)) = True := rfl
def frzIs (t : Ty) (xs : List (den t)) (lo n : Nat) : Option Obj → Prop
  | some (.row t0 ys true) => castL? t0 t ((ys.drop lo).take n) = some xs
  | _ => False
@[go_sem] theorem frzIs_row {t xs lo n ys} : frzIs t xs lo n (some (.row t ys true)) = ((ys.drop lo).take n = xs) := by simp [frzIs, castL?_self]
@[go_sem] theorem VM_undef : VM m H H' v .undef = True := by cases v <;> simp only [VM]
@[go_sem] theorem VM_int {k n k' n'} : VM m H H' (.int k n) (.int k' n') = (k' = k ∧ n' = n) := by simp only [VM]
@[go_sem] theorem VM_bool {n n'} : VM m H H' (.bool n) (.bool n') = (n' = n) := by simp only [VM]
@[go_sem] theorem VM_str {n n'} : VM m H H' (.str n) (.str n') = (n' = n) := by simp only [VM]
@[go_sem] theorem VM_slf {t xs f xs'} : VM m H H' (.sl t xs f) (.sl t xs' false) = (xs' = xs) := by
  cases f <;> simp [VM, castL?_self, eq_comm]
@[go_sem] theorem VM_slt {t xs xs' f'} : VM m H H' (.sl t xs true) (.sl t xs' f') = (xs' = xs) := by
  simp [VM, castL?_self, eq_comm]
@[go_sem] theorem VM_slown {t xs k lo n} : VM m H H' (.sl t xs true) (.own k lo n) = (xs = [] ∧ lo = 0 ∧ n = 0 ∧ mget m k = none ∧ isRow (hget H' k)) := by simp only [VM]; rfl
@[go_sem] theorem VM_ownsl {k0 lo0 n0 t xs f} : VM m H H' (.own k0 lo0 n0) (.sl t xs f) = (f = false ∧ plain t = true ∧ frzIs t xs lo0 n0 (hget H k0)) := by simp only [VM]; rfl
@[go_sem] theorem VM_own {k0 lo0 n0 k lo n} : VM m H H' (.own k0 lo0 n0) (.own k lo n) = (mget m k = some k0 ∧ lo = lo0 ∧ n = n0 ∧ (hget H' k).isSome = true) := by simp only [VM]
@[go_sem] theorem VM_ptr {k0 off0 k off} : VM m H H' (.ptr k0 off0) (.ptr k off) = (mget m k = some k0 ∧ off = off0 ∧ (hget H' k).isSome = true) := by simp only [VM]
@[go_sem] theorem VM_rptr {k0 i0 off0 k i off} : VM m H H' (.rptr k0 i0 off0) (.rptr k i off) = (mget m k = some k0 ∧ i = i0 ∧ off = off0 ∧ (hget H' k).isSome = true) := by simp only [VM]
@[go_sem] theorem VM_el {t x off x' off'} : VM m H H' (.el t x off) (.el t x' off') = (x' = x ∧ off' = off) := by
  simp [VM, cast?_self, eq_comm]
@[go_sem] theorem VM_agg {cs cs'} : VM m H H' (.agg cs) (.agg cs') = VML m H H' cs cs' := by simp only [VM]
@[go_sem] theorem VM_tup {cs cs'} : VM m H H' (.tup cs) (.tup cs') = VML m H H' cs cs' := by simp only [VM]
@[go_sem] theorem VM_clo {f f' cs cs'} : VM m H H' (.clo f cs) (.clo f' cs') = (f' = f ∧ VML m H H' cs cs') := by simp only [VM]
@[go_sem] theorem VM_fv {a r p p'} : VM m H H' (.fv a r p) (.fv a r p') = (p' = p) := by simp [VM]
@[go_sem] theorem VM_g {b b'} : VM m H H' (.g b v) (.g b' v') = (b' = b ∧ VM m H H' v v') := by simp only [VM]
@[go_sem] theorem VML_nil : VML m H H' [] [] = True := by simp only [VML]
@[go_sem] theorem VML_cons : VML m H H' (v :: vs) (v' :: vs') = (VM m H H' v v' ∧ VML m H H' vs vs') := by simp only [VML]
@[go_sem] theorem EntE_nil {E} : EntE m H H' E [] = True := rfl
@[go_sem] theorem EntE_cons {E t e} : EntE m H H' E ((t, v) :: e) = (VM m H H' (eget E t) v ∧ EntE m H H' E e) := rfl
@[go_sem] theorem EntH_nil : EntH m H H' [] = True := rfl
@[go_sem] theorem EntH_cons {k o h} : EntH m H H' ((k, o) :: h) = (OM m H H' k o ∧ EntH m H H' h) := rfl
def omK (H H' : Heap) (m : List (Nat × Nat)) (o : Obj) : Option Obj → Prop
  | some (.box cs) => match o with
    | .box cs' => VML m H H' cs cs'
    | _ => False
  | some (.row t xs f) => match o with
    | .row t' xs' f' => castL? t t' xs = some xs' ∧ f' = f
    | _ => False
  | none => False
def omN (H H' : Heap) (m : List (Nat × Nat)) (o : Obj) : Option Nat → Prop
  | some k0 => omK H H' m o (hget H k0)
  | none => match o with
    | .row t xs f => xs = [] ∧ f = false ∧ plain t = true ∧ 0 < AM.size t
    | _ => False
@[go_sem] theorem OM_eq {k o} : OM m H H' k o = omN H H' m o (mget m k) := by
  unfold OM omN
  cases mget m k with
  | none => rfl
  | some k0 => 
    simp only [omK]
    cases hget H k0 with
    | none => rfl
    | some o' => cases o' <;> cases o <;> rfl
@[go_sem] theorem omN_none {t xs f} : omN H H' m (.row t xs f) none = (xs = [] ∧ f = false ∧ plain t = true ∧ 0 < AM.size t) := rfl
@[go_sem] theorem omN_some {o k0} : omN H H' m o (some k0) = omK H H' m o (hget H k0) := rfl
@[go_sem] theorem omK_box {cs cs'} : omK H H' m (.box cs') (some (.box cs)) = VML m H H' cs cs' := rfl
@[go_sem] theorem omK_row {t xs f xs' f'} : omK H H' m (.row t xs' f') (some (.row t xs f)) = (xs' = xs ∧ f' = f) := by simp [omK, castL?_self, eq_comm]
@[go_sem] theorem inj2_nil : inj2 [] = true := rfl
@[go_sem] theorem inj2_cons {k k0} : inj2 ((k, k0) :: m) = (m.all (fun p => p.2 != k0) && inj2 m) := rfl
end
@[go_sem] theorem eget_nil {j} : eget [] j = .undef := rfl
@[go_sem] theorem take_len_set {α : Type} {l : List α} {i : Nat} {x : α} : List.take l.length (l.set i x) = l.set i x := by
  rw [← List.length_set (as := l) (i := i) (a := x), List.take_length]
@[go_sem] theorem imp_keep {p q : Prop} : (p → p ∧ q) = (p → q) := propext ⟨fun h hp => (h hp).2, fun h hp => ⟨hp, h hp⟩⟩
attribute [go_sem] imp_self List.drop_zero List.take_length List.contains_nil List.contains_cons List.length_replicate List.length_append List.length_set Int.toNat_natCast List.take_replicate Nat.min_self Int.toNat_zero List.flatMap_cons List.flatMap_nil List.nil_append List.cons_append List.append_nil List.map_cons List.map_nil List.all_cons List.all_nil Option.isNone_none Option.isNone_some Option.isSome_some Option.isSome_none Option.getD_some Option.getD_none if_true if_false and_true true_and and_self Bool.and_self eq_self List.length_cons List.length_nil Bool.and_true Bool.true_and Nat.add_zero Nat.zero_add List.not_mem_nil not_false_eq_true implies_true false_implies true_implies Bool.or_true Bool.true_or Bool.false_or Bool.or_false Bool.not_true Bool.not_false cond_true cond_false Bool.false_eq_true Bool.false_and Bool.and_false and_false false_and or_false false_or or_true true_or not_true_eq_false
end Go.AM
