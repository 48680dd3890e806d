import Derived.Test.YtbcbgfkojmligaaHAY
import Derived.Test.YtbcbgfkojmligaaAN
import Derived.KernelRfl
import Derived.Test.YtbcbgfkojmligaaProg
/- What functions of the program answer, each under the conditions that its contract names. -/
set_option linter.unusedVariables false
set_option linter.unusedSimpArgs false
set_option maxRecDepth 100000
namespace Go.AM
def c19_14 : C := (.seq (.reg [⟨(some 14), .mv, [.c (.int .i64 0)], none⟩])
 (.block 6 (.loop (.seq (.seq (.reg [⟨(some 100), .mv, [.t 14], none⟩,
  ⟨(some 101), .mv, [.t 10], none⟩,
  ⟨(some 102), (.bin .lss), [.t 100, .t 101], none⟩])
 (.cond (.t 102) .skip (.exit 6)))
 (.seq (.block 7 (.seq (.regd [⟨(some 105), (.load 15 true), [.t 11], none⟩,
  ⟨(some 106), .mv, [.t 6], none⟩,
  ⟨(some 107), .nilchk, [.t 106], none⟩,
  ⟨(some 108), (.fld 0), [.t 107], none⟩,
  ⟨(some 109), (.load 1 false), [.t 108], none⟩,
  ⟨(some 110), .mv, [.t 14], none⟩,
  ⟨(some 111), (.idx 15), [.t 109, .t 110], none⟩,
  ⟨(some 112), (.load 15 true), [.t 111], none⟩,
  ⟨(some 113), (.call 87), [.t 105, .t 112], none⟩,
  ⟨(some 114), .not, [.t 113], none⟩] [0, 0, 2, 4, 8, 0, 48, 64, 129, 256])
 (.cond (.t 114) (.seq (.reg [⟨(some 4), .mv, [.c (.bool false)], none⟩])
 .ret) .skip)))
 (.reg [⟨(some 103), .mv, [.t 14], none⟩,
  ⟨(some 104), (.bin .add), [.t 103, .c (.int .i64 1)], none⟩,
  ⟨(some 14), .mv, [.t 104], none⟩]))))))
def c19_80 : C := (.seq (.seq (.reg [⟨(some 80), (.fld 8), [.t 11], none⟩,
  ⟨(some 81), (.load 1 false), [.t 80], none⟩,
  ⟨(some 82), (.bin .eql), [.t 81, .c (.int .i64 2)], none⟩])
 (.cond (.t 82) (.seq (.seq (.reg [⟨(some 84), .mv, [.t 8], none⟩,
  ⟨(some 85), (.fld 2), [.t 11], none⟩,
  ⟨(some 86), (.load 1 false), [.t 85], none⟩,
  ⟨(some 87), .mget, [.t 84, .t 86], none⟩,
  ⟨(some 83), .mv, [.t 87], none⟩,
  ⟨(some 88), (.ext 0), [.t 83], none⟩,
  ⟨(some 89), (.ext 1), [.t 83], none⟩,
  ⟨(some 12), .mv, [.t 88], none⟩,
  ⟨(some 13), .mv, [.t 89], none⟩])
 (.seq (.reg [⟨(some 90), .mv, [.t 13], none⟩,
  ⟨(some 91), .mv, [.t 90], none⟩,
  ⟨(some 92), .mv, [.t 12], (some (91, true))⟩,
  ⟨(some 93), .mv, [.t 10], (some (91, true))⟩,
  ⟨(some 94), (.bin .neq), [.t 92, .t 93], (some (91, true))⟩,
  ⟨(some 95), .pick, [.t 91, .t 94, .c (.bool false)], none⟩])
 (.cond (.t 95) (.seq (.reg [⟨(some 4), .mv, [.c (.bool false)], none⟩])
 .ret) .skip)))
 (.reg [⟨(some 96), .mv, [.t 8], none⟩,
  ⟨(some 97), (.fld 2), [.t 11], none⟩,
  ⟨(some 98), (.load 1 false), [.t 97], none⟩,
  ⟨(some 99), .mv, [.t 10], none⟩,
  ⟨none, .mput, [.t 96, .t 98, .t 99], none⟩])) .skip))
 (.cut c19_14))
def c19_10 : C := (.seq (.reg [⟨(some 10), .mv, [.c (.int .i64 0)], none⟩])
 (.block 4 (.loop (.seq (.seq (.reg [⟨(some 54), .mv, [.t 10], none⟩,
  ⟨(some 55), .mv, [.t 5], none⟩,
  ⟨(some 56), (.bin .lss), [.t 54, .t 55], none⟩])
 (.cond (.t 56) .skip (.exit 4)))
 (.seq (.block 5 (.seq (.reg [⟨(some 59), .mv, [.t 6], none⟩,
  ⟨(some 60), .nilchk, [.t 59], none⟩,
  ⟨(some 61), (.fld 0), [.t 60], none⟩,
  ⟨(some 62), (.load 1 false), [.t 61], none⟩,
  ⟨(some 63), .mv, [.t 10], none⟩,
  ⟨(some 64), (.idx 15), [.t 62, .t 63], none⟩,
  ⟨(some 65), (.load 15 true), [.t 64], none⟩,
  ⟨(some 11), (.alloc [.int .i64 0, .int .i64 0, .int .i64 0, .int .i64 0, .int .i64 0, .int .i64 0, .str ⟨#[]⟩, .sl tEntry [] true, .int .i64 0, .int .i64 0, .int .i64 0, .sl .bool [] true, .sl tI [] true, .sl tI [] true, .int .i64 0]), [], none⟩,
  ⟨none, (.store 15), [.t 11, .t 65], none⟩])
 (.seq (.seq (.reg [⟨(some 66), (.fld 10), [.t 11], none⟩,
  ⟨(some 67), (.load 1 false), [.t 66], none⟩,
  ⟨(some 68), (.fld 4), [.t 11], none⟩,
  ⟨(some 69), (.load 1 false), [.t 68], none⟩,
  ⟨(some 70), (.fld 7), [.t 11], none⟩,
  ⟨(some 71), (.load 1 false), [.t 70], none⟩,
  ⟨(some 72), .len, [.t 71], none⟩,
  ⟨(some 73), (.bin .add), [.t 69, .t 72], none⟩,
  ⟨(some 74), (.bin .gtr), [.t 67, .t 73], none⟩,
  ⟨(some 75), .mv, [.t 74], none⟩,
  ⟨(some 76), (.fld 4), [.t 11], (some (75, false))⟩,
  ⟨(some 77), (.load 1 false), [.t 76], (some (75, false))⟩,
  ⟨(some 78), (.bin .neq), [.t 77, .c (.int .i64 0)], (some (75, false))⟩,
  ⟨(some 79), .pick, [.t 75, .c (.bool true), .t 78], none⟩])
 (.cond (.t 79) (.seq (.reg [⟨(some 4), .mv, [.c (.bool false)], none⟩])
 .ret) .skip))
 (.cut c19_80))))
 (.reg [⟨(some 57), .mv, [.t 10], none⟩,
  ⟨(some 58), (.bin .add), [.t 57, .c (.int .i64 1)], none⟩,
  ⟨(some 10), .mv, [.t 58], none⟩]))))))
def c19_115 : C := (.seq (.reg [⟨(some 115), (.call 76), [], none⟩,
  ⟨(some 4), .mv, [.t 115], none⟩])
 .ret)
def c19_37 : C := (.seq (.reg [⟨(some 37), .mkm, [], none⟩,
  ⟨(some 8), .mv, [.t 37], none⟩])
 (.seq (.seq (.reg [⟨(some 9), .mv, [.c (.int .i64 0)], none⟩])
 (.block 2 (.loop (.seq (.seq (.reg [⟨(some 38), .mv, [.t 9], none⟩,
  ⟨(some 39), .mv, [.t 1], none⟩,
  ⟨(some 40), .len, [.t 39], none⟩,
  ⟨(some 41), (.bin .lss), [.t 38, .t 40], none⟩,
  ⟨(some 42), .mv, [.t 41], none⟩,
  ⟨(some 43), .mv, [.t 9], (some (42, true))⟩,
  ⟨(some 44), (.bin .lss), [.t 43, .c (.int .i64 250)], (some (42, true))⟩,
  ⟨(some 45), .pick, [.t 42, .t 44, .c (.bool false)], none⟩])
 (.cond (.t 45) .skip (.exit 2)))
 (.seq (.block 3 (.seq (.reg [⟨(some 48), .mv, [.t 6], none⟩,
  ⟨(some 49), .mv, [.t 1], none⟩,
  ⟨(some 50), .mv, [.t 9], none⟩,
  ⟨(some 51), (.idx 1), [.t 49, .t 50], none⟩,
  ⟨(some 52), (.load 1 false), [.t 51], none⟩,
  ⟨(some 53), (.call 86), [.t 48, .t 52], none⟩])
 (.cut c19_10)))
 (.reg [⟨(some 46), .mv, [.t 9], none⟩,
  ⟨(some 47), (.bin .add), [.t 46, .c (.int .i64 1)], none⟩,
  ⟨(some 9), .mv, [.t 47], none⟩]))))))
 (.cut c19_115)))
def c19_7 : C := (.seq (.seq (.reg [⟨(some 7), .mv, [.c (.int .i64 0)], none⟩])
 (.block 0 (.loop (.seq (.seq (.reg [⟨(some 20), .mv, [.t 7], none⟩,
  ⟨(some 21), .mv, [.t 5], none⟩,
  ⟨(some 22), (.bin .lss), [.t 20, .t 21], none⟩])
 (.cond (.t 22) .skip (.exit 0)))
 (.seq (.block 1 (.regd [⟨(some 25), .mv, [.t 6], none⟩,
  ⟨(some 26), .mv, [.t 6], none⟩,
  ⟨(some 27), .nilchk, [.t 26], none⟩,
  ⟨(some 28), (.fld 0), [.t 27], none⟩,
  ⟨(some 29), (.load 1 false), [.t 28], none⟩,
  ⟨(some 30), .mv, [.t 7], none⟩,
  ⟨(some 31), .mv, [.t 5], none⟩,
  ⟨(some 32), (.call 31), [.t 30, .t 31], none⟩,
  ⟨(some 33), (.bslice tNode 1), [.t 32], none⟩,
  ⟨(some 34), (.app 15 192), [.t 29, .t 33], none⟩,
  ⟨(some 35), .nilchk, [.t 25], none⟩,
  ⟨(some 36), (.fld 0), [.t 35], none⟩,
  ⟨none, (.store 1), [.t 36, .t 34], none⟩] [0, 0, 2, 4, 8, 0, 0, 96, 128, 400, 1023, 2047, 3071]))
 (.reg [⟨(some 23), .mv, [.t 7], none⟩,
  ⟨(some 24), (.bin .add), [.t 23, .c (.int .i64 1)], none⟩,
  ⟨(some 7), .mv, [.t 24], none⟩]))))))
 (.cut c19_37))
def c19 : C := (.seq (.reg [⟨(some 4), .mv, [.c (.bool false)], none⟩])
 (.seq (.reg [⟨(some 15), .mv, [.t 0], none⟩,
  ⟨(some 16), (.call 23), [.t 15, .c (.int .i64 5)], none⟩,
  ⟨(some 17), (.bin .add), [.c (.int .i64 1), .t 16], none⟩,
  ⟨(some 5), .mv, [.t 17], none⟩])
 (.seq (.reg [⟨(some 18), (.build [.sl tNode [] true, .sl tMsg [] true] []), [], none⟩,
  ⟨(some 19), .box, [.t 18], none⟩,
  ⟨(some 6), .mv, [.t 19], none⟩])
 (.cut c19_7))))
theorem comp19 : compC Go.Proofs.Try.prog ttL 116 [] (match Go.Proofs.Try.f19.body with | some b => b | none => .skip) = some (erase c19) := by kernel_rfl
end Go.AM
set_option maxRecDepth 100000
set_option maxHeartbeats 40000000
set_option linter.unusedSimpArgs false
namespace Go.AM
open Go.Proofs
attribute [local congr] vc_congr evOps_congr evTab_congr bind_congr condK_congr tabK_congr
def mpLook (m : List (Int × Int)) (x : Int) : Option Int := (mpFind x m 0).map (·.2)
def mpSet (x v : Int) : List (Int × Int) → List (Int × Int)
  | [] => [(x, v)]
  | (a, u) :: l => if x = a then (x, v) :: l else (a, u) :: mpSet x v l
theorem mpFind_shift (x : Int) : ∀ (m : List (Int × Int)) (i : Nat), mpFind x m (i + 1) = (mpFind x m i).map fun p => (p.1 + 1, p.2) := by
  intro m
  induction m with
  | nil => intro i; rfl
  | cons p m ih =>
    intro i
    obtain ⟨a, u⟩ := p
    unfold mpFind
    split
    · rfl
    · exact ih (i + 1)
theorem mpPut_set (x v : Int) : ∀ m : List (Int × Int), mpPut m x v = mpSet x v m := by
  intro m
  induction m with
  | nil => rfl
  | cons p m ih =>
    obtain ⟨a, u⟩ := p
    by_cases h : x = a
    · have e : mpFind x ((a, u) :: m) 0 = some (0, u) := by unfold mpFind; rw [if_pos h]
      unfold mpPut mpSet
      rw [e, if_pos h]; rfl
    · have e : mpFind x ((a, u) :: m) 0 = (mpFind x m 0).map fun p => (p.1 + 1, p.2) := by
        rw [← mpFind_shift]
        unfold mpFind; rw [if_neg h]; cases m <;> rfl
      unfold mpSet
      rw [if_neg h, ← ih]
      unfold mpPut
      rw [e]
      cases mpFind x m 0 with
      | none => rfl
      | some q => rfl
theorem mpLook_cons (x a u : Int) (m : List (Int × Int)) : mpLook ((a, u) :: m) x = if x = a then some u else mpLook m x := by
  unfold mpLook
  by_cases h : x = a
  · have e : mpFind x ((a, u) :: m) 0 = some (0, u) := by unfold mpFind; rw [if_pos h]
    rw [e, if_pos h]; rfl
  · have e : mpFind x ((a, u) :: m) 0 = (mpFind x m 0).map fun p => (p.1 + 1, p.2) := by
      rw [← mpFind_shift]
      unfold mpFind; rw [if_neg h]; cases m <;> rfl
    rw [e, if_neg h]
    cases mpFind x m 0 <;> rfl
theorem mpLook_set (x v y : Int) : ∀ m : List (Int × Int), mpLook (mpSet x v m) y = if y = x then some v else mpLook m y := by
  intro m
  induction m with
  | nil => unfold mpSet; rw [mpLook_cons]
  | cons p m ih =>
    obtain ⟨a, u⟩ := p
    unfold mpSet
    split
    · rename_i h
      subst h
      rw [mpLook_cons, mpLook_cons]
      split <;> rfl
    · rename_i h
      rw [mpLook_cons, mpLook_cons, ih]
      by_cases e : y = a
      · subst e
        rw [if_pos rfl, if_pos rfl, if_neg (fun e => h e.symm)]
      · rw [if_neg e, if_neg e]
theorem mpSet_len (x v : Int) : ∀ m : List (Int × Int), (mpSet x v m).length ≤ m.length + 1 := by
  intro m
  induction m with
  | nil => exact Nat.le_refl _
  | cons p m ih =>
    obtain ⟨a, u⟩ := p
    unfold mpSet
    split
    · rw [List.length_cons, List.length_cons]; omega
    · rw [List.length_cons, List.length_cons]; omega
def mpM (m : List (Int × Int)) (T : Int) (w : Nat) : Prop := mpLook m T = some (w : Int)
theorem mpGet_look (m : List (Int × Int)) (x : Int) : mpHas m x = true → mpLook m x = some (mpGet m x) := by
  unfold mpHas mpGet mpLook
  cases mpFind x m 0 with
  | none => intro h; cases h
  | some p => intro _; rfl
theorem mpM_put {m : List (Int × Int)} {T T' : Int} {a w : Nat} (h : mpM (mpPut m T a) T' w) : mpM m T' w ∨ (T' = T ∧ w = a) := by
  unfold mpM at h ⊢
  rw [mpPut_set, mpLook_set] at h
  by_cases e : T' = T
  · rw [if_pos e] at h
    have := Option.some.inj h
    exact .inr ⟨e, by omega⟩
  · rw [if_neg e] at h
    exact .inl h
def isW (m : List (Int × Int)) : Prop := ∀ p ∈ m, 0 ≤ p.2
theorem mpLook_mem {m : List (Int × Int)} {x u : Int} : mpLook m x = some u → ∃ p ∈ m, p.2 = u := by
  induction m with
  | nil => intro h; cases h
  | cons p m ih =>
    obtain ⟨a, v⟩ := p
    intro h
    rw [mpLook_cons] at h
    split at h
    · exact ⟨(a, v), List.mem_cons_self .., Option.some.inj h⟩
    · obtain ⟨q, hq, e⟩ := ih h
      exact ⟨q, List.mem_cons_of_mem _ hq, e⟩
theorem isW_set {x v : Int} (hv : 0 ≤ v) : ∀ {m : List (Int × Int)}, isW m → isW (mpSet x v m) := by
  intro m
  induction m with
  | nil => intro _ p hp; cases List.mem_singleton.1 hp; exact hv
  | cons q m ih =>
    obtain ⟨a, u⟩ := q
    intro h p hp
    unfold mpSet at hp
    split at hp
    · rcases List.mem_cons.1 hp with rfl | hp
      · exact hv
      · exact h p (List.mem_cons_of_mem _ hp)
    · rcases List.mem_cons.1 hp with rfl | hp
      · exact h (a, u) (List.mem_cons_self ..)
      · exact ih (fun p hp => h p (List.mem_cons_of_mem _ hp)) p hp
theorem WN.agree {b : Int} {N : Nat} {M : Int → Nat → Prop} {ns : List Node} {l : List Msg} {a c : Nat} (h : WN b N M ns l) (hb : b ≤ 1000000) (ha : a < N) (hc : c < N) : agrOk (ndAt ns a) (ndAt ns c) := by
  have sa := (h.sz a ha).lg
  have sc := (h.sz c hc).lg
  obtain ⟨_, a1, a2⟩ := h.wi.base ha
  obtain ⟨_, c1, c2⟩ := h.wi.base hc
  refine ⟨h.wi.agr ha hc, ⟨?_, ?_⟩, ⟨a1, c1⟩, ⟨a2, c2⟩, h.wi.comm ha hc (by omega) (by omega)⟩
  · show (nLog (ndAt ns a)).length ≤ 1048576
    omega
  · show (nLog (ndAt ns c)).length ≤ 1048576
    omega
def news' (K : Nat) : List Node := (List.range K).map fun i : Nat => newN (i : Int) (K : Int)
theorem news_len' (K : Nat) : (news' K).length = K := by unfold news'; rw [List.length_map, List.length_range]
def raftSafeFn : Fn := { a := .pair tI (.pair (.list tI) .unit), r := .pair .bool .unit, pre := fun x => InR .i64 x.1 ∧ preS x.2.1, f := fun _ => (true, ()) }
theorem h19  : Holds Try.prog 19 (raftSafeFn) := by
  refine Holds.of_vcc (T := [(23, fn23), (31, fn31), (76, fn76), (86, fn86), (87, fn87)]) (TT := ttL) (rowAt := []) (c := c19) (ros := [.t 4]) (.cons _ h23 (.cons _ h31 (.cons _ h76 (.cons _ h86 (.cons _ h87 (.nil _)))))) mixed Try.func19 (by decide +kernel) (by rfl) comp19 (by kernel_rfl) rfl rfl (fun h => by cases h) ?_
  rintro ⟨(nodes : Int), (l : List Int), _⟩ hpre
  simp only [raftSafeFn] at hpre ⊢
  simp only [c19, fn23, fn31, fn76, fn86, fn87, go_sem, reduceIte, Nat.reduceBEq, Nat.reduceMul, reduceCtorEq, Nat.reduceAdd, Nat.reduceEqDiff, decide_eq_true_eq, decide_eq_false_iff_not, Bool.not_eq_true', Bool.not_eq_false', Bool.and_eq_true, Bool.or_eq_true, Bool.and_eq_false_iff, Bool.or_eq_false_iff, Bool.cond_true_left, Bool.cond_false_right, Bool.cond_true_right, Bool.cond_false_left, Bool.or_false, Bool.and_true, inR, fn23]
  have hk0 := Int.emod_nonneg nodes (show (5 : Int) ≠ 0 by decide)
  have hk1 := Int.emod_lt_of_pos nodes (show (0 : Int) < 5 by decide)
  obtain ⟨K, hK⟩ : ∃ K : Nat, (K : Int) = 1 + nodes % 5 := ⟨(1 + nodes % 5).toNat, by omega⟩
  simp only [← hK]
  obtain ⟨_, hl8, _⟩ := hpre
  have hl8 : l.length * 8 ≤ 140737488351232 := hl8
  refine ⟨by decide, by omega, ?_⟩
  have hK1 : 1 ≤ K ∧ K ≤ 5 := by omega
  clear hK hk0 hk1
  generalize hV : vc _ (C.cut c19_7) _ = V
  refine cut_at hV ⟨[(1, .sl tI l false), (5, .int .i64 K), (6, .ptr 19 0)], [(19, .box [.own 34 0 0, .own 35 0 0]), (34, .row tNode [] false), (35, .row tMsg [] false)]⟩ ?_ (Ent_of [(19, 19)] rfl ?_ ?_)
  rotate_left
  · simp only [go_sem, reduceIte, Nat.reduceBEq, Nat.reduceMul, reduceCtorEq, Nat.reduceAdd, Nat.reduceEqDiff, decide_eq_true_eq, decide_eq_false_iff_not, Bool.not_eq_true', Bool.not_eq_false', Bool.and_eq_true, Bool.or_eq_true, Bool.and_eq_false_iff, Bool.or_eq_false_iff, Bool.cond_true_left, Bool.cond_false_right, Bool.cond_true_right, Bool.cond_false_left, Bool.or_false, Bool.and_true]
    exact ⟨⟨⟨rfl, rfl, rfl⟩, by decide⟩, rfl, by decide⟩
  · simp only [go_sem, reduceIte, Nat.reduceBEq, Nat.reduceMul, reduceCtorEq, Nat.reduceAdd, Nat.reduceEqDiff, decide_eq_true_eq, decide_eq_false_iff_not, Bool.not_eq_true', Bool.not_eq_false', Bool.and_eq_true, Bool.or_eq_true, Bool.and_eq_false_iff, Bool.or_eq_false_iff, Bool.cond_true_left, Bool.cond_false_right, Bool.cond_true_right, Bool.cond_false_left, Bool.or_false, Bool.and_true]
  clear hV V
  simp (maxSteps := 10000000) only [c19_7, go_sem, reduceIte, Nat.reduceBEq, Nat.reduceMul, reduceCtorEq, Nat.reduceAdd, Nat.reduceEqDiff, decide_eq_true_eq, decide_eq_false_iff_not, Bool.not_eq_true', Bool.not_eq_false', Bool.and_eq_true, Bool.or_eq_true, Bool.and_eq_false_iff, Bool.or_eq_false_iff, Bool.cond_true_left, Bool.cond_false_right, Bool.cond_true_right, Bool.cond_false_left, Bool.or_false, Bool.and_true, inR]
  refine loop_rule (β := Nat) (fun i => ⟨[(1, .sl tI l false), (5, .int .i64 K), (6, .ptr 19 0), (7, .int .i64 i)], [(19, .box [.own 34 0 i, .own 35 0 0]), (34, .row tNode ((List.range i).map fun j : Nat => newN (j : Int) (K : Int)) false), (35, .row tMsg [] false)]⟩) (fun i => i ≤ K) (fun i => K - i) 0 ?_ ?_ ?_
  · refine Ent_of [(19, 19), (34, 34), (35, 35)] rfl ?_ ?_
    · simp only [go_sem, reduceIte, Nat.reduceBEq, Nat.reduceMul, reduceCtorEq, Nat.reduceAdd, Nat.reduceEqDiff, decide_eq_true_eq, decide_eq_false_iff_not, Bool.not_eq_true', Bool.not_eq_false', Bool.and_eq_true, Bool.or_eq_true, Bool.and_eq_false_iff, Bool.or_eq_false_iff, Bool.cond_true_left, Bool.cond_false_right, Bool.cond_true_right, Bool.cond_false_left, Bool.or_false, Bool.and_true]
      try rfl
    · simp only [go_sem, reduceIte, Nat.reduceBEq, Nat.reduceMul, reduceCtorEq, Nat.reduceAdd, Nat.reduceEqDiff, decide_eq_true_eq, decide_eq_false_iff_not, Bool.not_eq_true', Bool.not_eq_false', Bool.and_eq_true, Bool.or_eq_true, Bool.and_eq_false_iff, Bool.or_eq_false_iff, Bool.cond_true_left, Bool.cond_false_right, Bool.cond_true_right, Bool.cond_false_left, Bool.or_false, Bool.and_true]
      try rfl
  · exact Nat.zero_le _
  intro i hi
  have hi : i ≤ K := hi
  simp (maxSteps := 10000000) only [go_sem, reduceIte, Nat.reduceBEq, Nat.reduceMul, reduceCtorEq, Nat.reduceAdd, Nat.reduceEqDiff, decide_eq_true_eq, decide_eq_false_iff_not, Bool.not_eq_true', Bool.not_eq_false', Bool.and_eq_true, Bool.or_eq_true, Bool.and_eq_false_iff, Bool.or_eq_false_iff, Bool.cond_true_left, Bool.cond_false_right, Bool.cond_true_right, Bool.cond_false_left, Bool.or_false, Bool.and_true, inR]
  generalize hV : vc _ (C.cut c19_37) _ = V
  have hbi : i + 1 ≤ 140737488355328 ∧ (i + 1) * 192 ≤ 140737488355328 := by omega
  have hbj : (-9223372036854775808 : Int) ≤ (i : Int) + 1 ∧ (i : Int) + 1 ≤ 9223372036854775807 := by omega
  refine ⟨fun h => ⟨hbi, by decide +kernel, hbj, Again.intro (i + 1) (Ent_of [(19, 19), (34, 34), (35, 35)] rfl ?_ ?_) (show i + 1 ≤ K by omega) (show K - (i + 1) < K - i by omega)⟩, fun h => ?_⟩
  · simp only [go_sem, reduceIte, Nat.reduceBEq, Nat.reduceMul, reduceCtorEq, Nat.reduceAdd, Nat.reduceEqDiff, decide_eq_true_eq, decide_eq_false_iff_not, Bool.not_eq_true', Bool.not_eq_false', Bool.and_eq_true, Bool.or_eq_true, Bool.and_eq_false_iff, Bool.or_eq_false_iff, Bool.cond_true_left, Bool.cond_false_right, Bool.cond_true_right, Bool.cond_false_left, Bool.or_false, Bool.and_true, List.range_succ]
    rw [List.map_append, List.take_of_length_le (by rw [List.length_map, List.length_range]; exact Nat.le_refl _)]
    try rfl
  · simp only [go_sem, reduceIte, Nat.reduceBEq, Nat.reduceMul, reduceCtorEq, Nat.reduceAdd, Nat.reduceEqDiff, decide_eq_true_eq, decide_eq_false_iff_not, Bool.not_eq_true', Bool.not_eq_false', Bool.and_eq_true, Bool.or_eq_true, Bool.and_eq_false_iff, Bool.or_eq_false_iff, Bool.cond_true_left, Bool.cond_false_right, Bool.cond_true_right, Bool.cond_false_left, Bool.or_false, Bool.and_true]
    try rfl
  have hiK : i = K := by omega
  subst hiK
  clear h hbi hbj
  have hnl := news_len' i
  have hW := WN.new hK1.2
  refine cut_at hV ⟨[(1, .sl tI l false), (5, .int .i64 i), (6, .ptr 19 0)], [(19, .box [.own 34 0 (news' i).length, .own 35 0 0]), (34, .row tNode (news' i) false), (35, .row tMsg [] false)]⟩ ?_ (Ent_of [(19, 19), (34, 34), (35, 35)] rfl ?_ ?_)
  rotate_left
  · simp only [go_sem, reduceIte, Nat.reduceBEq, Nat.reduceMul, reduceCtorEq, Nat.reduceAdd, Nat.reduceEqDiff, decide_eq_true_eq, decide_eq_false_iff_not, Bool.not_eq_true', Bool.not_eq_false', Bool.and_eq_true, Bool.or_eq_true, Bool.and_eq_false_iff, Bool.or_eq_false_iff, Bool.cond_true_left, Bool.cond_false_right, Bool.cond_true_right, Bool.cond_false_left, Bool.or_false, Bool.and_true]
    rw [hnl]; exact ⟨rfl, rfl⟩
  · simp only [go_sem, reduceIte, Nat.reduceBEq, Nat.reduceMul, reduceCtorEq, Nat.reduceAdd, Nat.reduceEqDiff, decide_eq_true_eq, decide_eq_false_iff_not, Bool.not_eq_true', Bool.not_eq_false', Bool.and_eq_true, Bool.or_eq_true, Bool.and_eq_false_iff, Bool.or_eq_false_iff, Bool.cond_true_left, Bool.cond_false_right, Bool.cond_true_right, Bool.cond_false_left, Bool.or_false, Bool.and_true]
  clear hV V
  change WN 0 i (fun _ _ => False) (news' i) [] at hW
  generalize hns0 : news' i = ns0 at *
  clear hns0 hi
  simp (maxSteps := 10000000) only [c19_37, go_sem, reduceIte, Nat.reduceBEq, Nat.reduceMul, reduceCtorEq, Nat.reduceAdd, Nat.reduceEqDiff, decide_eq_true_eq, decide_eq_false_iff_not, Bool.not_eq_true', Bool.not_eq_false', Bool.and_eq_true, Bool.or_eq_true, Bool.and_eq_false_iff, Bool.or_eq_false_iff, Bool.cond_true_left, Bool.cond_false_right, Bool.cond_true_right, Bool.cond_false_left, Bool.or_false, Bool.and_true, inR]
  generalize hV : vc _ (C.cut c19_115) _ = V
  refine loop_rule (β := Nat × List Node × List Msg × List (Int × Int)) (fun p => ⟨[(1, .sl tI l false), (5, .int .i64 i), (6, .ptr 19 0), (8, .mp 37), (9, .int .i64 p.1)], [(19, .box [.own 34 0 p.2.1.length, .own 35 0 p.2.2.1.length]), (34, .row tNode p.2.1 false), (35, .row tMsg p.2.2.1 false), (37, .mp p.2.2.2)]⟩)
    (fun p => p.1 ≤ 250 ∧ p.1 ≤ l.length ∧ WN (20 * (p.1 : Int)) i (mpM p.2.2.2) p.2.1 p.2.2.1 ∧ p.2.2.1.length ≤ 60 ∧ p.2.2.2.length ≤ 5 * p.1 ∧ isW p.2.2.2) (fun p => l.length - p.1) (0, ns0, [], []) ?_ ?_ ?_
  · refine Ent_of [(19, 19), (34, 34), (35, 35), (37, 37)] rfl ?_ ?_
    · simp only [go_sem, reduceIte, Nat.reduceBEq, Nat.reduceMul, reduceCtorEq, Nat.reduceAdd, Nat.reduceEqDiff, decide_eq_true_eq, decide_eq_false_iff_not, Bool.not_eq_true', Bool.not_eq_false', Bool.and_eq_true, Bool.or_eq_true, Bool.and_eq_false_iff, Bool.or_eq_false_iff, Bool.cond_true_left, Bool.cond_false_right, Bool.cond_true_right, Bool.cond_false_left, Bool.or_false, Bool.and_true]
      try rfl
    · simp only [go_sem, reduceIte, Nat.reduceBEq, Nat.reduceMul, reduceCtorEq, Nat.reduceAdd, Nat.reduceEqDiff, decide_eq_true_eq, decide_eq_false_iff_not, Bool.not_eq_true', Bool.not_eq_false', Bool.and_eq_true, Bool.or_eq_true, Bool.and_eq_false_iff, Bool.or_eq_false_iff, Bool.cond_true_left, Bool.cond_false_right, Bool.cond_true_right, Bool.cond_false_left, Bool.or_false, Bool.and_true]
      try rfl
  · exact ⟨Nat.zero_le _, Nat.zero_le _, hW.wi' (hW.wi.monoM fun T w h => by cases h), Nat.zero_le _, Nat.zero_le _, fun p hp => by cases hp⟩
  rintro ⟨x, ns, q, m⟩ ⟨hx1, hx2, hWN, hq, hm, hmw⟩
  have hx1 : x ≤ 250 := hx1
  have hx2 : x ≤ l.length := hx2
  have hWN : WN (20 * (x : Int)) i (mpM m) ns q := hWN
  have hq : q.length ≤ 60 := hq
  have hm : m.length ≤ 5 * x := hm
  have hmw : isW m := hmw
  simp (maxSteps := 10000000) only [go_sem, reduceIte, Nat.reduceBEq, Nat.reduceMul, reduceCtorEq, Nat.reduceAdd, Nat.reduceEqDiff, decide_eq_true_eq, decide_eq_false_iff_not, Bool.not_eq_true', Bool.not_eq_false', Bool.and_eq_true, Bool.or_eq_true, Bool.and_eq_false_iff, Bool.or_eq_false_iff, Bool.cond_true_left, Bool.cond_false_right, Bool.cond_true_right, Bool.cond_false_left, Bool.or_false, Bool.and_true, inR]
  refine ⟨fun h => ?_, fun h => ?_⟩
  · have h1 : (x : Int) < (l.length : Int) := h.1
    have h2 : (x : Int) < 250 := h.2
    clear h
    have hx3 : (0 : Int) ≤ x ∧ (x : Int) < (l.length : Int) := by omega
    have hlen := hWN.len
    refine ⟨hx3, ⟨by omega, by omega, hWN.ready hK1.2 (by omega), by omega⟩, ?_⟩
    have hD := hWN.do (by omega) hK1.1 hK1.2 (v := l.getD x (dflt tI))
    have hq2 : (doN ns q (l.getD x (dflt tI))).2.length ≤ 60 := last60_len
    generalize doN ns q (l.getD x (dflt tI)) = R at *
    obtain ⟨ns', q'⟩ := R
    have hD : WN (20 * (x : Int) + 20) i (mpM m) ns' q' := hD
    have hq2 : q'.length ≤ 60 := hq2
    have hlen' := hD.len
    clear hWN hq hlen
    generalize hU : vc _ (C.cut c19_10) _ = U
    refine cut_at hU ⟨[(1, .sl tI l false), (5, .int .i64 i), (6, .ptr 19 0), (8, .mp 37), (9, .int .i64 x)], [(19, .box [.own 34 0 ns'.length, .own 35 0 q'.length]), (34, .row tNode ns' false), (35, .row tMsg q' false), (37, .mp m)]⟩ ?_ (Ent_of [(19, 19), (34, 20005300), (35, 20005301), (37, 37)] rfl ?_ ?_)
    rotate_left
    · simp only [go_sem, reduceIte, Nat.reduceBEq, Nat.reduceMul, reduceCtorEq, Nat.reduceAdd, Nat.reduceEqDiff, decide_eq_true_eq, decide_eq_false_iff_not, Bool.not_eq_true', Bool.not_eq_false', Bool.and_eq_true, Bool.or_eq_true, Bool.and_eq_false_iff, Bool.or_eq_false_iff, Bool.cond_true_left, Bool.cond_false_right, Bool.cond_true_right, Bool.cond_false_left, Bool.or_false, Bool.and_true]
      try rfl
    · simp only [go_sem, reduceIte, Nat.reduceBEq, Nat.reduceMul, reduceCtorEq, Nat.reduceAdd, Nat.reduceEqDiff, decide_eq_true_eq, decide_eq_false_iff_not, Bool.not_eq_true', Bool.not_eq_false', Bool.and_eq_true, Bool.or_eq_true, Bool.and_eq_false_iff, Bool.or_eq_false_iff, Bool.cond_true_left, Bool.cond_false_right, Bool.cond_true_right, Bool.cond_false_left, Bool.or_false, Bool.and_true]
      try rfl
    clear hU U
    simp (maxSteps := 10000000) only [c19_10, go_sem, reduceIte, Nat.reduceBEq, Nat.reduceMul, reduceCtorEq, Nat.reduceAdd, Nat.reduceEqDiff, decide_eq_true_eq, decide_eq_false_iff_not, Bool.not_eq_true', Bool.not_eq_false', Bool.and_eq_true, Bool.or_eq_true, Bool.and_eq_false_iff, Bool.or_eq_false_iff, Bool.cond_true_left, Bool.cond_false_right, Bool.cond_true_right, Bool.cond_false_left, Bool.or_false, Bool.and_true, inR]
    refine loop_rule (β := Nat × List (Int × Int)) (fun p => ⟨[(1, .sl tI l false), (5, .int .i64 i), (6, .ptr 19 0), (8, .mp 37), (9, .int .i64 x), (10, .int .i64 p.1)], [(19, .box [.own 34 0 ns'.length, .own 35 0 q'.length]), (34, .row tNode ns' false), (35, .row tMsg q' false), (37, .mp p.2)]⟩)
      (fun p => p.1 ≤ i ∧ WN (20 * (x : Int) + 20) i (mpM p.2) ns' q' ∧ p.2.length ≤ 5 * x + p.1 ∧ isW p.2) (fun p => i - p.1) (0, m) ?_ ?_ ?_
    · refine Ent_of [(19, 19), (34, 34), (35, 35), (37, 37)] rfl ?_ ?_
      · simp only [go_sem, reduceIte, Nat.reduceBEq, Nat.reduceMul, reduceCtorEq, Nat.reduceAdd, Nat.reduceEqDiff, decide_eq_true_eq, decide_eq_false_iff_not, Bool.not_eq_true', Bool.not_eq_false', Bool.and_eq_true, Bool.or_eq_true, Bool.and_eq_false_iff, Bool.or_eq_false_iff, Bool.cond_true_left, Bool.cond_false_right, Bool.cond_true_right, Bool.cond_false_left, Bool.or_false, Bool.and_true]
        try rfl
      · simp only [go_sem, reduceIte, Nat.reduceBEq, Nat.reduceMul, reduceCtorEq, Nat.reduceAdd, Nat.reduceEqDiff, decide_eq_true_eq, decide_eq_false_iff_not, Bool.not_eq_true', Bool.not_eq_false', Bool.and_eq_true, Bool.or_eq_true, Bool.and_eq_false_iff, Bool.or_eq_false_iff, Bool.cond_true_left, Bool.cond_false_right, Bool.cond_true_right, Bool.cond_false_left, Bool.or_false, Bool.and_true]
        try rfl
    · exact ⟨Nat.zero_le _, hD, hm, hmw⟩
    clear hD hm hmw
    rintro ⟨a, m⟩ ⟨ha, hWN, hm, hmw⟩
    have ha : a ≤ i := ha
    have hWN : WN (20 * (x : Int) + 20) i (mpM m) ns' q' := hWN
    have hm : m.length ≤ 5 * x + a := hm
    have hmw : isW m := hmw
    simp (maxSteps := 10000000) only [go_sem, reduceIte, Nat.reduceBEq, Nat.reduceMul, reduceCtorEq, Nat.reduceAdd, Nat.reduceEqDiff, decide_eq_true_eq, decide_eq_false_iff_not, Bool.not_eq_true', Bool.not_eq_false', Bool.and_eq_true, Bool.or_eq_true, Bool.and_eq_false_iff, Bool.or_eq_false_iff, Bool.cond_true_left, Bool.cond_false_right, Bool.cond_true_right, Bool.cond_false_left, Bool.or_false, Bool.and_true, inR]
    generalize hU : vc _ (C.cut c19_80) _ = U
    have hn2 : ns'.getD a (dflt tNode) = ndAt ns' a := rfl
    simp only [hn2]
    refine ⟨fun h => ?_, fun h => ?_⟩
    · have h : (a : Int) < (i : Int) := h
      have haN : a < i := by omega
      obtain ⟨b1, b2, b3⟩ := hWN.wi.base haN
      have hsz := (hWN.sz a haN).lg
      generalize hnn : ndAt ns' a = n at *
      have hi2 : (0 : Int) ≤ a ∧ (a : Int) < (ns'.length : Int) := by omega
      have hbd : (-9223372036854775808 : Int) ≤ nBase n + ((nLog n).length : Int) ∧ nBase n + ((nLog n).length : Int) ≤ 9223372036854775807 := by omega
      refine ⟨hi2, hbd, fun hbad => ?_, fun hok => ?_⟩
      · have hbad : nBase n + ((nLog n).length : Int) < nCommit n ∨ ¬ nBase n = 0 := hbad
        omega
      · clear hok hbd
        refine cut_at hU ⟨[(1, .sl tI l false), (5, .int .i64 i), (6, .ptr 19 0), (8, .mp 37), (9, .int .i64 x), (10, .int .i64 a), (11, .ptr 11 0)], [(11, .box (cellsA tNode n [])), (19, .box [.own 34 0 ns'.length, .own 35 0 q'.length]), (34, .row tNode ns' false), (35, .row tMsg q' false), (37, .mp m)]⟩ ?_ (Ent_of [(11, 11), (19, 19), (34, 34), (35, 35), (37, 37)] rfl ?_ ?_)
        rotate_left
        · simp only [go_sem, reduceIte, Nat.reduceBEq, Nat.reduceMul, reduceCtorEq, Nat.reduceAdd, Nat.reduceEqDiff, decide_eq_true_eq, decide_eq_false_iff_not, Bool.not_eq_true', Bool.not_eq_false', Bool.and_eq_true, Bool.or_eq_true, Bool.and_eq_false_iff, Bool.or_eq_false_iff, Bool.cond_true_left, Bool.cond_false_right, Bool.cond_true_right, Bool.cond_false_left, Bool.or_false, Bool.and_true]
          try rfl
        · simp only [go_sem, reduceIte, Nat.reduceBEq, Nat.reduceMul, reduceCtorEq, Nat.reduceAdd, Nat.reduceEqDiff, decide_eq_true_eq, decide_eq_false_iff_not, Bool.not_eq_true', Bool.not_eq_false', Bool.and_eq_true, Bool.or_eq_true, Bool.and_eq_false_iff, Bool.or_eq_false_iff, Bool.cond_true_left, Bool.cond_false_right, Bool.cond_true_right, Bool.cond_false_left, Bool.or_false, Bool.and_true]
          try rfl
        clear hU U
        simp (maxSteps := 10000000) only [c19_80, go_sem, reduceIte, Nat.reduceBEq, Nat.reduceMul, reduceCtorEq, Nat.reduceAdd, Nat.reduceEqDiff, decide_eq_true_eq, decide_eq_false_iff_not, Bool.not_eq_true', Bool.not_eq_false', Bool.and_eq_true, Bool.or_eq_true, Bool.and_eq_false_iff, Bool.or_eq_false_iff, Bool.cond_true_left, Bool.cond_false_right, Bool.cond_true_right, Bool.cond_false_left, Bool.or_false, Bool.and_true, inR]
        generalize hU : vc _ (C.cut c19_14) _ = U
        have H : ∀ (m' : List (Int × Int)) (σ : St), WN (20 * (x : Int) + 20) i (mpM m') ns' q' → m'.length ≤ 5 * x + (a + 1) → isW m' → Ent σ ⟨[(1, .sl tI l false), (5, .int .i64 i), (6, .ptr 19 0), (8, .mp 37), (9, .int .i64 x), (10, .int .i64 a), (11, .ptr 11 0)], [(11, .box (cellsA tNode n [])), (19, .box [.own 34 0 ns'.length, .own 35 0 q'.length]), (34, .row tNode ns' false), (35, .row tMsg q' false), (37, .mp m')]⟩ → U σ := by
          intro m' σ hW' hm' hw' hE
          refine cut_at hU _ ?_ hE
          clear hU hE
          simp (maxSteps := 10000000) only [c19_14, go_sem, reduceIte, Nat.reduceBEq, Nat.reduceMul, reduceCtorEq, Nat.reduceAdd, Nat.reduceEqDiff, decide_eq_true_eq, decide_eq_false_iff_not, Bool.not_eq_true', Bool.not_eq_false', Bool.and_eq_true, Bool.or_eq_true, Bool.and_eq_false_iff, Bool.or_eq_false_iff, Bool.cond_true_left, Bool.cond_false_right, Bool.cond_true_right, Bool.cond_false_left, Bool.or_false, Bool.and_true, inR]
          refine loop_rule (β := Nat) (fun c => ⟨[(1, .sl tI l false), (5, .int .i64 i), (6, .ptr 19 0), (8, .mp 37), (9, .int .i64 x), (10, .int .i64 a), (11, .ptr 11 0), (14, .int .i64 c)], [(11, .box (cellsA tNode n [])), (19, .box [.own 34 0 ns'.length, .own 35 0 q'.length]), (34, .row tNode ns' false), (35, .row tMsg q' false), (37, .mp m')]⟩) (fun c => c ≤ a) (fun c => a - c) 0 ?_ ?_ ?_
          · refine Ent_of [(11, 11), (19, 19), (34, 34), (35, 35), (37, 37)] rfl ?_ ?_
            · simp only [go_sem, reduceIte, Nat.reduceBEq, Nat.reduceMul, reduceCtorEq, Nat.reduceAdd, Nat.reduceEqDiff, decide_eq_true_eq, decide_eq_false_iff_not, Bool.not_eq_true', Bool.not_eq_false', Bool.and_eq_true, Bool.or_eq_true, Bool.and_eq_false_iff, Bool.or_eq_false_iff, Bool.cond_true_left, Bool.cond_false_right, Bool.cond_true_right, Bool.cond_false_left, Bool.or_false, Bool.and_true]
              try rfl
            · simp only [go_sem, reduceIte, Nat.reduceBEq, Nat.reduceMul, reduceCtorEq, Nat.reduceAdd, Nat.reduceEqDiff, decide_eq_true_eq, decide_eq_false_iff_not, Bool.not_eq_true', Bool.not_eq_false', Bool.and_eq_true, Bool.or_eq_true, Bool.and_eq_false_iff, Bool.or_eq_false_iff, Bool.cond_true_left, Bool.cond_false_right, Bool.cond_true_right, Bool.cond_false_left, Bool.or_false, Bool.and_true]
              try rfl
          · exact Nat.zero_le _
          intro c hc
          have hc : c ≤ a := hc
          simp (maxSteps := 10000000) only [go_sem, reduceIte, Nat.reduceBEq, Nat.reduceMul, reduceCtorEq, Nat.reduceAdd, Nat.reduceEqDiff, decide_eq_true_eq, decide_eq_false_iff_not, Bool.not_eq_true', Bool.not_eq_false', Bool.and_eq_true, Bool.or_eq_true, Bool.and_eq_false_iff, Bool.or_eq_false_iff, Bool.cond_true_left, Bool.cond_false_right, Bool.cond_true_right, Bool.cond_false_left, Bool.or_false, Bool.and_true, inR]
          refine ⟨fun h => ?_, fun h => ?_⟩
          · have h : (c : Int) < (a : Int) := h
            have hc2 : (0 : Int) ≤ c ∧ (c : Int) < (ns'.length : Int) := by omega
            have hag : agrOk n (ndAt ns' c) := by
              rw [← hnn]
              exact hW'.agree (by omega) haN (by omega)
            have hcx : (-9223372036854775808 : Int) ≤ (c : Int) + 1 ∧ (c : Int) + 1 ≤ 9223372036854775807 := by omega
            refine ⟨hc2, hag, by decide +kernel, hcx, Again.intro (c + 1) (Ent_of [(11, 11), (19, 19), (34, 34), (35, 35), (37, 37)] rfl ?_ ?_) (show c + 1 ≤ a by omega) (show a - (c + 1) < a - c by omega)⟩
            · simp only [go_sem, reduceIte, Nat.reduceBEq, Nat.reduceMul, reduceCtorEq, Nat.reduceAdd, Nat.reduceEqDiff, decide_eq_true_eq, decide_eq_false_iff_not, Bool.not_eq_true', Bool.not_eq_false', Bool.and_eq_true, Bool.or_eq_true, Bool.and_eq_false_iff, Bool.or_eq_false_iff, Bool.cond_true_left, Bool.cond_false_right, Bool.cond_true_right, Bool.cond_false_left, Bool.or_false, Bool.and_true]
              try rfl
            · simp only [go_sem, reduceIte, Nat.reduceBEq, Nat.reduceMul, reduceCtorEq, Nat.reduceAdd, Nat.reduceEqDiff, decide_eq_true_eq, decide_eq_false_iff_not, Bool.not_eq_true', Bool.not_eq_false', Bool.and_eq_true, Bool.or_eq_true, Bool.and_eq_false_iff, Bool.or_eq_false_iff, Bool.cond_true_left, Bool.cond_false_right, Bool.cond_true_right, Bool.cond_false_left, Bool.or_false, Bool.and_true]
              try rfl
          · have hax : (-9223372036854775808 : Int) ≤ (a : Int) + 1 ∧ (a : Int) + 1 ≤ 9223372036854775807 := by omega
            refine ⟨hax, Again.intro (a + 1, m') (Ent_of [(19, 19), (34, 34), (35, 35), (37, 37)] rfl ?_ ?_) ⟨by show a + 1 ≤ i; omega, hW', hm', hw'⟩ (show i - (a + 1) < i - a by omega)⟩
            · simp only [go_sem, reduceIte, Nat.reduceBEq, Nat.reduceMul, reduceCtorEq, Nat.reduceAdd, Nat.reduceEqDiff, decide_eq_true_eq, decide_eq_false_iff_not, Bool.not_eq_true', Bool.not_eq_false', Bool.and_eq_true, Bool.or_eq_true, Bool.and_eq_false_iff, Bool.or_eq_false_iff, Bool.cond_true_left, Bool.cond_false_right, Bool.cond_true_right, Bool.cond_false_left, Bool.or_false, Bool.and_true]
              try rfl
            · simp only [go_sem, reduceIte, Nat.reduceBEq, Nat.reduceMul, reduceCtorEq, Nat.reduceAdd, Nat.reduceEqDiff, decide_eq_true_eq, decide_eq_false_iff_not, Bool.not_eq_true', Bool.not_eq_false', Bool.and_eq_true, Bool.or_eq_true, Bool.and_eq_false_iff, Bool.or_eq_false_iff, Bool.cond_true_left, Bool.cond_false_right, Bool.cond_true_right, Bool.cond_false_left, Bool.or_false, Bool.and_true]
              try rfl
        refine ⟨fun hr => ?_, fun hr => ?_⟩
        · have hr : nRole n = 2 := hr
          have hlead := hWN.wi.lead haN (by rw [hnn]; exact hr)
          rw [hnn] at hlead
          refine ⟨fun hbad => ?_, fun _ => ⟨by omega, H (mpPut m (nTerm n) a) _ (hWN.wi' (hlead.2.monoM fun T w hw => mpM_put hw)) ?_ ?_ (Ent_of [(11, 11), (19, 19), (34, 34), (35, 35), (37, 37)] rfl ?_ ?_)⟩⟩
          · have hb1 : mpHas m (nTerm n) = true := hbad.1
            have hb2 : ¬ mpGet m (nTerm n) = (a : Int) := hbad.2
            have hlk := mpGet_look m (nTerm n) hb1
            obtain ⟨p, hp, hpe⟩ := mpLook_mem hlk
            have hp0 := hmw p hp
            have := hlead.1 (mpGet m (nTerm n)).toNat (by
              show mpLook m (nTerm n) = some _
              rw [hlk, show (((mpGet m (nTerm n)).toNat : Nat) : Int) = mpGet m (nTerm n) by omega])
            omega
          · rw [mpPut_set]
            have := mpSet_len (nTerm n) (a : Int) m
            omega
          · rw [mpPut_set]
            exact isW_set (by omega) hmw
          · simp only [go_sem, reduceIte, Nat.reduceBEq, Nat.reduceMul, reduceCtorEq, Nat.reduceAdd, Nat.reduceEqDiff, decide_eq_true_eq, decide_eq_false_iff_not, Bool.not_eq_true', Bool.not_eq_false', Bool.and_eq_true, Bool.or_eq_true, Bool.and_eq_false_iff, Bool.or_eq_false_iff, Bool.cond_true_left, Bool.cond_false_right, Bool.cond_true_right, Bool.cond_false_left, Bool.or_false, Bool.and_true]
            try rfl
          · simp only [go_sem, reduceIte, Nat.reduceBEq, Nat.reduceMul, reduceCtorEq, Nat.reduceAdd, Nat.reduceEqDiff, decide_eq_true_eq, decide_eq_false_iff_not, Bool.not_eq_true', Bool.not_eq_false', Bool.and_eq_true, Bool.or_eq_true, Bool.and_eq_false_iff, Bool.or_eq_false_iff, Bool.cond_true_left, Bool.cond_false_right, Bool.cond_true_right, Bool.cond_false_left, Bool.or_false, Bool.and_true]
            try rfl
        · refine H m _ hWN (by omega) hmw (Ent_of [(11, 11), (19, 19), (34, 34), (35, 35), (37, 37)] rfl ?_ ?_)
          · simp only [go_sem, reduceIte, Nat.reduceBEq, Nat.reduceMul, reduceCtorEq, Nat.reduceAdd, Nat.reduceEqDiff, decide_eq_true_eq, decide_eq_false_iff_not, Bool.not_eq_true', Bool.not_eq_false', Bool.and_eq_true, Bool.or_eq_true, Bool.and_eq_false_iff, Bool.or_eq_false_iff, Bool.cond_true_left, Bool.cond_false_right, Bool.cond_true_right, Bool.cond_false_left, Bool.or_false, Bool.and_true]
            try rfl
          · simp only [go_sem, reduceIte, Nat.reduceBEq, Nat.reduceMul, reduceCtorEq, Nat.reduceAdd, Nat.reduceEqDiff, decide_eq_true_eq, decide_eq_false_iff_not, Bool.not_eq_true', Bool.not_eq_false', Bool.and_eq_true, Bool.or_eq_true, Bool.and_eq_false_iff, Bool.or_eq_false_iff, Bool.cond_true_left, Bool.cond_false_right, Bool.cond_true_right, Bool.cond_false_left, Bool.or_false, Bool.and_true]
            try rfl
    · have h : ¬ (a : Int) < (i : Int) := h
      have hbx : (-9223372036854775808 : Int) ≤ (x : Int) + 1 ∧ (x : Int) + 1 ≤ 9223372036854775807 := by omega
      refine ⟨hbx, Again.intro (x + 1, ns', q', m) (Ent_of [(19, 19), (34, 34), (35, 35), (37, 37)] rfl ?_ ?_) ⟨by show x + 1 ≤ 250; omega, by show x + 1 ≤ l.length; omega, ?_, hq2, by show m.length ≤ 5 * (x + 1); omega, hmw⟩ (show l.length - (x + 1) < l.length - x by omega)⟩
      · simp only [go_sem, reduceIte, Nat.reduceBEq, Nat.reduceMul, reduceCtorEq, Nat.reduceAdd, Nat.reduceEqDiff, decide_eq_true_eq, decide_eq_false_iff_not, Bool.not_eq_true', Bool.not_eq_false', Bool.and_eq_true, Bool.or_eq_true, Bool.and_eq_false_iff, Bool.or_eq_false_iff, Bool.cond_true_left, Bool.cond_false_right, Bool.cond_true_right, Bool.cond_false_left, Bool.or_false, Bool.and_true]
        try rfl
      · simp only [go_sem, reduceIte, Nat.reduceBEq, Nat.reduceMul, reduceCtorEq, Nat.reduceAdd, Nat.reduceEqDiff, decide_eq_true_eq, decide_eq_false_iff_not, Bool.not_eq_true', Bool.not_eq_false', Bool.and_eq_true, Bool.or_eq_true, Bool.and_eq_false_iff, Bool.or_eq_false_iff, Bool.cond_true_left, Bool.cond_false_right, Bool.cond_true_right, Bool.cond_false_left, Bool.or_false, Bool.and_true]
        try rfl
      · show WN (20 * ((x + 1 : Nat) : Int)) i (mpM m) ns' q'
        rw [show 20 * ((x + 1 : Nat) : Int) = 20 * (x : Int) + 20 by omega]
        exact hWN
  · refine cut_at hV ⟨[], []⟩ ?_ (Ent_of [] rfl ?_ ?_)
    rotate_left
    · simp only [go_sem, reduceIte, Nat.reduceBEq, Nat.reduceMul, reduceCtorEq, Nat.reduceAdd, Nat.reduceEqDiff, decide_eq_true_eq, decide_eq_false_iff_not, Bool.not_eq_true', Bool.not_eq_false', Bool.and_eq_true, Bool.or_eq_true, Bool.and_eq_false_iff, Bool.or_eq_false_iff, Bool.cond_true_left, Bool.cond_false_right, Bool.cond_true_right, Bool.cond_false_left, Bool.or_false, Bool.and_true]
    · simp only [go_sem, reduceIte, Nat.reduceBEq, Nat.reduceMul, reduceCtorEq, Nat.reduceAdd, Nat.reduceEqDiff, decide_eq_true_eq, decide_eq_false_iff_not, Bool.not_eq_true', Bool.not_eq_false', Bool.and_eq_true, Bool.or_eq_true, Bool.and_eq_false_iff, Bool.or_eq_false_iff, Bool.cond_true_left, Bool.cond_false_right, Bool.cond_true_right, Bool.cond_false_left, Bool.or_false, Bool.and_true]
    clear hV
    simp (maxSteps := 10000000) only [c19_115, fn76, go_sem, reduceIte, Nat.reduceBEq, Nat.reduceMul, reduceCtorEq, Nat.reduceAdd, Nat.reduceEqDiff, decide_eq_true_eq, decide_eq_false_iff_not, Bool.not_eq_true', Bool.not_eq_false', Bool.and_eq_true, Bool.or_eq_true, Bool.and_eq_false_iff, Bool.or_eq_false_iff, Bool.cond_true_left, Bool.cond_false_right, Bool.cond_true_right, Bool.cond_false_left, Bool.or_false, Bool.and_true, inR]
    try rfl
end Go.AM
