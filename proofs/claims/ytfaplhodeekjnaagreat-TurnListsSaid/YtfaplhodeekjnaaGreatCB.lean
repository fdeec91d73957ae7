/-
  Walks over letters of the functions that the law reaches.
-/
import Derived.Test.YtfaplhodeekjnaaGreatCA
import Derived.Test.YtfaplhodeekjnaaGreatBB
import Derived.Test.YtfaplhodeekjnaaGreatAMc
import Derived.Test.YtfaplhodeekjnaaGreatB1
namespace Go.AM
attribute [local instance] fnMaps
open Go Go.Proofs
set_option maxRecDepth 100000
set_option maxHeartbeats 1000000
set_option linter.unusedSimpArgs false
theorem fn112 : E.fn.get 112 = some Tryz.f112 := by kernel_rfl
theorem stable_ok (H : Heap) (hlo : H.lo ≤ H.next) (v : Value) (l : List Span) (hv0 : SL RSpan 2 H v l) (hr : Rising l) (hl : l.length ≤ 100000) : CallA E (fnv 112) [v, .int .i64 l.length, fnv 110] H fun r H' => r = .tuple #[] ∧ Same H H' := by
  refine callA_fn (by kernel_rfl) fn112 rfl rfl ?_
  simp only [Tryz.f112]
  repeat' (first | refine boolP_dec (fun _ => ?_) (fun _ => ?_) | apply boolP_not | refine boolP_b (fun _ => ?_) (fun _ => ?_) | ((with_reducible show Qs _ _ _ _ _); first | refine hQe _ _ _ _ ?_ | refine hQr _ _ _ ?_) | simp (config := { maxSteps := 1000000 }) (disch := omega) only [↓sh, ↓sh2, ↓reduceIte, sx, sl, sb, st, nbeq_ne, dle, relo_eq, wrap_i64, Nat.reduceBEq, Nat.reduceLT, Nat.reduceLeDiff, Nat.reduceAdd, Nat.reduceMul, Nat.reduceEqDiff, Int.reduceEq, Int.reduceLT, Int.reduceLE, Int.reduceNeg, Int.reduceToNat, Bool.false_eq_true, eq_self, sa, *])
  refine wps_named2 (fun T1 H1 eT eH => ?_)
  have k1 : Ko H H1 := by rw [eH]; exact koW
  have n1 := congrArg Heap.next eH; have l1 := congrArg Heap.lo eH; have g1 := fun r => congrArg (fun h : Heap => h.objs.get r) eH
  try simp (disch := omega) only [sm, sl] at n1 l1 g1
  clear eH
  have u1_0 := congrArg (fun T : Tr Value => T.get 0) eT
  have u1_1 := congrArg (fun T : Tr Value => T.get 1) eT
  have u1_2 := congrArg (fun T : Tr Value => T.get 2) eT
  have u1_6 := congrArg (fun T : Tr Value => T.get 6) eT
  have u1_7 := congrArg (fun T : Tr Value => T.get 7) eT
  have u1_8 := congrArg (fun T : Tr Value => T.get 8) eT
  simp only [get_set, of_nil, of_1, of_2, of_3, of_4, of_5, Nat.reduceEqDiff, if_true, if_false, reduceIte] at u1_0 u1_1 u1_2 u1_6 u1_7 u1_8
  clear eT
  refine wp_loopN (by kernel_rfl) (fun nn T X => ∃ a : Nat, nn = l.length + 1 - a ∧ (T.get 7 = some (.int .i64 a) ∧ T.get 8 = some (.int .i64 (a + 20 : Nat))) ∧ (T.get 0 = T1.get 0 ∧ T.get 1 = T1.get 1 ∧ T.get 2 = T1.get 2 ∧ T.get 6 = T1.get 6) ∧ Ko H1 X ∧ X.lo = H1.lo ∧ (a ≤ l.length)) ?_ ?_
  · refine ⟨_, 0, rfl, ?_, ?_, Ko.refl _, rfl, by omega⟩ <;> exact nextW
  rintro nn T1' X1 ⟨a, rfl, m1, w1, kx1, lx1, hi⟩ Qs hQ hQr hQe
  have kX1 := k1.trans kx1; have nx1 := kx1.nxt; have gx1 := kx1.objs
  by_cases hlt : a + 20 ≤ l.length
  · repeat' (first | refine boolP_dec (fun _ => ?_) (fun _ => ?_) | apply boolP_not | refine boolP_b (fun _ => ?_) (fun _ => ?_) | ((with_reducible show CallA _ _ _ _ _); refine call_ko (H0 := H1) koW (insort_ok _ loW v l (hv0.ext RSpan.mono (Ko.ext koW)) hr a (a + 20) (by omega) (by omega) hl) ?_; intro H2 k2 l2 n2 g2 q2; try simp (disch := omega) only [sm, sl] at l2 n2 g2 q2) | ((with_reducible show Qs _ _ _ _ _); first | refine hQe _ _ _ _ ?_ | refine hQr _ _ _ ?_) | simp (config := { maxSteps := 1000000 }) (disch := omega) only [↓sh, ↓sh2, ↓reduceIte, sx, sl, sb, st, nbeq_ne, dle, relo_eq, wrap_i64, Nat.reduceBEq, Nat.reduceLT, Nat.reduceLeDiff, Nat.reduceAdd, Nat.reduceMul, Nat.reduceEqDiff, Int.reduceEq, Int.reduceLT, Int.reduceLE, Int.reduceNeg, Int.reduceToNat, Bool.false_eq_true, eq_self, sa, *])
    all_goals try omega
    refine hQ _ _ _ ?_ ⟨a + 20, rfl, ?_, ?_, ?_, ?_, by omega⟩ <;> exact nextW
  · repeat' (first | refine boolP_dec (fun _ => ?_) (fun _ => ?_) | apply boolP_not | refine boolP_b (fun _ => ?_) (fun _ => ?_) | ((with_reducible show CallA _ _ _ _ _); refine call_ko (H0 := H1) koW (insort_ok _ loW v l (hv0.ext RSpan.mono (Ko.ext koW)) hr a l.length (by omega) (by omega) hl) ?_; intro H2 k2 l2 n2 g2 q2; try simp (disch := omega) only [sm, sl] at l2 n2 g2 q2) | ((with_reducible show Qs _ _ _ _ _); first | refine hQe _ _ _ _ ?_ | refine hQr _ _ _ ?_) | simp (config := { maxSteps := 1000000 }) (disch := omega) only [↓sh, ↓sh2, ↓reduceIte, sx, sl, sb, st, nbeq_ne, dle, relo_eq, wrap_i64, Nat.reduceBEq, Nat.reduceLT, Nat.reduceLeDiff, Nat.reduceAdd, Nat.reduceMul, Nat.reduceEqDiff, Int.reduceEq, Int.reduceLT, Int.reduceLE, Int.reduceNeg, Int.reduceToNat, Bool.false_eq_true, eq_self, sa, *])
    all_goals try omega
    refine wps_named2 (fun T2 H2 eT eH => ?_)
    have k2 : Ko H H2 := by rw [eH]; exact koW
    have n2 := congrArg Heap.next eH; have l2 := congrArg Heap.lo eH; have g2 := fun r => congrArg (fun h : Heap => h.objs.get r) eH
    try simp (disch := omega) only [sm, sl] at n2 l2 g2
    clear eH
    have u2_0 := congrArg (fun T : Tr Value => T.get 0) eT
    have u2_1 := congrArg (fun T : Tr Value => T.get 1) eT
    have u2_2 := congrArg (fun T : Tr Value => T.get 2) eT
    have u2_6 := congrArg (fun T : Tr Value => T.get 6) eT
    simp only [get_set, of_nil, of_1, of_2, of_3, of_4, of_5, Nat.reduceEqDiff, if_true, if_false, reduceIte] at u2_0 u2_1 u2_2 u2_6
    clear eT
    refine wp_loopN (by kernel_rfl) (fun nn T X => ∃ k : Nat, nn = l.length - k ∧ (T.get 6 = some (.int .i64 k)) ∧ (T.get 0 = T2.get 0 ∧ T.get 1 = T2.get 1 ∧ T.get 2 = T2.get 2) ∧ True ∧ True ∧ (1 ≤ k ∧ k ≤ 200000 ∧ Ko H X ∧ X.lo = H.lo)) ?_ ?_
    · refine ⟨_, 20, rfl, ?_, ?_, trivial, trivial, ⟨by omega, by omega, ?_, ?_⟩⟩ <;> exact nextW
    rintro nn T2' X2 ⟨k, rfl, m2, w2, _, _, ⟨hk, hk2, kX2, lX2⟩⟩ Qs hQ hQr hQe
    have nX2 := kX2.nxt; have gX2 := kX2.objs
    by_cases hlt2 : k < l.length
    · repeat' (first | refine boolP_dec (fun _ => ?_) (fun _ => ?_) | apply boolP_not | refine boolP_b (fun _ => ?_) (fun _ => ?_) | ((with_reducible show Qs _ _ _ _ _); first | refine hQe _ _ _ _ ?_ | refine hQr _ _ _ ?_) | simp (config := { maxSteps := 1000000 }) (disch := omega) only [↓sh, ↓sh2, ↓reduceIte, sx, sl, sb, st, nbeq_ne, dle, relo_eq, wrap_i64, Nat.reduceBEq, Nat.reduceLT, Nat.reduceLeDiff, Nat.reduceAdd, Nat.reduceMul, Nat.reduceEqDiff, Int.reduceEq, Int.reduceLT, Int.reduceLE, Int.reduceNeg, Int.reduceToNat, Bool.false_eq_true, eq_self, sa, *])
      all_goals try omega
      have hQo := hQ
      refine wps_named2 (fun T3 H3 eT eH => ?_)
      have k3 : Ko H H3 := by rw [eH]; exact koW
      have n3 := congrArg Heap.next eH; have l3 := congrArg Heap.lo eH; have g3 := fun r => congrArg (fun h : Heap => h.objs.get r) eH
      try simp (disch := omega) only [sm, sl] at n3 l3 g3
      clear eH
      have u3_0 := congrArg (fun T : Tr Value => T.get 0) eT
      have u3_1 := congrArg (fun T : Tr Value => T.get 1) eT
      have u3_2 := congrArg (fun T : Tr Value => T.get 2) eT
      have u3_6 := congrArg (fun T : Tr Value => T.get 6) eT
      have u3_7 := congrArg (fun T : Tr Value => T.get 7) eT
      have u3_8 := congrArg (fun T : Tr Value => T.get 8) eT
      simp only [get_set, of_nil, of_1, of_2, of_3, of_4, of_5, Nat.reduceEqDiff, if_true, if_false, reduceIte] at u3_0 u3_1 u3_2 u3_6 u3_7 u3_8
      clear eT
      refine wp_loopN (by kernel_rfl) (fun nn T X => ∃ a : Nat, nn = l.length + 1 - a ∧ (T.get 7 = some (.int .i64 a) ∧ T.get 8 = some (.int .i64 (a + 2 * k : Nat))) ∧ (T.get 0 = T3.get 0 ∧ T.get 1 = T3.get 1 ∧ T.get 2 = T3.get 2 ∧ T.get 6 = T3.get 6) ∧ Ko H3 X ∧ X.lo = H3.lo ∧ (a ≤ l.length)) ?_ ?_
      · refine ⟨_, 0, rfl, ?_, ?_, Ko.refl _, rfl, by omega⟩ <;> exact nextW
      rintro nn T3' X3 ⟨a, rfl, m3, w3, kx3, lx3, hi⟩ Qs hQ hQr hQe
      have kX3 := k3.trans kx3; have nx3 := kx3.nxt; have gx3 := kx3.objs
      by_cases hlt3 : a + 2 * k ≤ l.length
      · repeat' (first | refine boolP_dec (fun _ => ?_) (fun _ => ?_) | apply boolP_not | refine boolP_b (fun _ => ?_) (fun _ => ?_) | ((with_reducible show CallA _ _ _ _ _); refine call_ko (H0 := H3) koW (symm_ok (a + 2 * k) _ loW v l (hv0.ext RSpan.mono (Ko.ext koW)) hr a (a + k) (a + 2 * k) (by omega) (by omega) (by omega) (by omega) hl) ?_; intro H2 k2 l2 n2 g2 q2; try simp (disch := omega) only [sm, sl] at l2 n2 g2 q2) | ((with_reducible show Qs _ _ _ _ _); first | refine hQe _ _ _ _ ?_ | refine hQr _ _ _ ?_) | simp (config := { maxSteps := 1000000 }) (disch := omega) only [↓sh, ↓sh2, ↓reduceIte, sx, sl, sb, st, nbeq_ne, dle, relo_eq, wrap_i64, Nat.reduceBEq, Nat.reduceLT, Nat.reduceLeDiff, Nat.reduceAdd, Nat.reduceMul, Nat.reduceEqDiff, Int.reduceEq, Int.reduceLT, Int.reduceLE, Int.reduceNeg, Int.reduceToNat, Bool.false_eq_true, eq_self, sa, *])
        all_goals try omega
        refine hQ _ _ _ ?_ ⟨a + 2 * k, rfl, ?_, ?_, ?_, ?_, by omega⟩ <;> exact nextW
      · by_cases hlt4 : a + k < l.length
        · repeat' (first | refine boolP_dec (fun _ => ?_) (fun _ => ?_) | apply boolP_not | refine boolP_b (fun _ => ?_) (fun _ => ?_) | ((with_reducible show CallA _ _ _ _ _); refine call_ko (H0 := H3) koW (symm_ok l.length _ loW v l (hv0.ext RSpan.mono (Ko.ext koW)) hr a (a + k) l.length (by omega) (by omega) (by omega) (by omega) hl) ?_; intro H2 k2 l2 n2 g2 q2; try simp (disch := omega) only [sm, sl] at l2 n2 g2 q2) | ((with_reducible show Qs _ _ _ _ _); first | refine hQe _ _ _ _ ?_ | refine hQr _ _ _ ?_) | simp (config := { maxSteps := 1000000 }) (disch := omega) only [↓sh, ↓sh2, ↓reduceIte, sx, sl, sb, st, nbeq_ne, dle, relo_eq, wrap_i64, Nat.reduceBEq, Nat.reduceLT, Nat.reduceLeDiff, Nat.reduceAdd, Nat.reduceMul, Nat.reduceEqDiff, Int.reduceEq, Int.reduceLT, Int.reduceLE, Int.reduceNeg, Int.reduceToNat, Bool.false_eq_true, eq_self, sa, *])
          all_goals try omega
          have hQ := hQo
          refine hQ _ _ _ ?_ ⟨k * 2, rfl, ?_, ?_, trivial, trivial, ⟨by omega, by omega, ?_, ?_⟩⟩ <;> exact nextW
        · repeat' (first | refine boolP_dec (fun _ => ?_) (fun _ => ?_) | apply boolP_not | refine boolP_b (fun _ => ?_) (fun _ => ?_) | ((with_reducible show Qs _ _ _ _ _); first | refine hQe _ _ _ _ ?_ | refine hQr _ _ _ ?_) | simp (config := { maxSteps := 1000000 }) (disch := omega) only [↓sh, ↓sh2, ↓reduceIte, sx, sl, sb, st, nbeq_ne, dle, relo_eq, wrap_i64, Nat.reduceBEq, Nat.reduceLT, Nat.reduceLeDiff, Nat.reduceAdd, Nat.reduceMul, Nat.reduceEqDiff, Int.reduceEq, Int.reduceLT, Int.reduceLE, Int.reduceNeg, Int.reduceToNat, Bool.false_eq_true, eq_self, sa, *])
          all_goals try omega
          have hQ := hQo
          refine hQ _ _ _ ?_ ⟨k * 2, rfl, ?_, ?_, trivial, trivial, ⟨by omega, by omega, ?_, ?_⟩⟩ <;> exact nextW
    · repeat' (first | refine boolP_dec (fun _ => ?_) (fun _ => ?_) | apply boolP_not | refine boolP_b (fun _ => ?_) (fun _ => ?_) | ((with_reducible show Qs _ _ _ _ _); first | refine hQe _ _ _ _ ?_ | refine hQr _ _ _ ?_) | simp (config := { maxSteps := 1000000 }) (disch := omega) only [↓sh, ↓sh2, ↓reduceIte, sx, sl, sb, st, nbeq_ne, dle, relo_eq, wrap_i64, Nat.reduceBEq, Nat.reduceLT, Nat.reduceLeDiff, Nat.reduceAdd, Nat.reduceMul, Nat.reduceEqDiff, Int.reduceEq, Int.reduceLT, Int.reduceLE, Int.reduceNeg, Int.reduceToNat, Bool.false_eq_true, eq_self, sa, *])
      all_goals first
        | (first | (with_reducible exact sameW) | ((with_reducible show _ ∧ _); exact ⟨by first | rfl | (simp [*] <;> omega), sameW⟩))
        | omega
theorem fn109 : E.fn.get 109 = some Tryz.f109 := by kernel_rfl
theorem sortst_ok (H : Heap) (hlo : H.lo ≤ H.next) (v : Value) (l : List Span) (hv0 : SL RSpan 2 H v l) (hr : Rising l) (hl : l.length ≤ 100000) : CallA E (fnv 109) [v, fnv 110] H fun r H' => r = .tuple #[] ∧ Same H H' := by
  have hc := stable_ok H hlo v l hv0 hr hl
  obtain ⟨ad, ca, rfl, _⟩ := hv0
  refine callA_fn (by kernel_rfl) fn109 rfl rfl ?_
  simp only [Tryz.f109]
  repeat' (first | refine boolP_dec (fun _ => ?_) (fun _ => ?_) | apply boolP_not | refine boolP_b (fun _ => ?_) (fun _ => ?_) | ((with_reducible show CallA _ _ _ _ _); refine call_ko (H0 := H) koW (hc) ?_; intro H2 k2 l2 n2 g2 q2; try simp (disch := omega) only [sm, sl] at l2 n2 g2 q2) | ((with_reducible show Qs _ _ _ _ _); first | refine hQe _ _ _ _ ?_ | refine hQr _ _ _ ?_) | simp (config := { maxSteps := 1000000 }) (disch := omega) only [↓sh, ↓sh2, ↓reduceIte, sx, sl, sb, st, nbeq_ne, dle, relo_eq, wrap_i64, Nat.reduceBEq, Nat.reduceLT, Nat.reduceLeDiff, Nat.reduceAdd, Nat.reduceMul, Nat.reduceEqDiff, Int.reduceEq, Int.reduceLT, Int.reduceLE, Int.reduceNeg, Int.reduceToNat, Bool.false_eq_true, eq_self, sa, *])
  (first | (with_reducible exact sameW) | ((with_reducible show _ ∧ _); exact ⟨by first | rfl | (simp [*] <;> omega), sameW⟩))
end Go.AM
namespace Go.AM
attribute [local instance] fnMaps
open Go Go.Proofs
set_option maxRecDepth 100000
set_option maxHeartbeats 1000000
set_option linter.unusedSimpArgs false
theorem app_zero {z b : Nat} {H : Heap} (a : Addr) (c : Nat) (h : a.spot = none) (new : List Value) : appendT z b H (.slice (some a) 0 c) 0 new = some (.slice (some a) 0 c, H) := by
  obtain ⟨r, o, s⟩ := a
  cases h
  simp [appendT, show Nat.ble 0 c = true from rfl]
theorem SLr.mono {α : Type} {R : Heap → List Value → α → Prop} (hR : Mono R) {z : Nat} {H H' : Heap} {v : Value} {l : List α} (hs : Same H H') (h : SLr R z H v l) : SLr R z H' v l := ⟨h.1.mono hR hs, h.2.same hs⟩
theorem SLr.row {α : Type} {R : Heap → List Value → α → Prop} {z : Nat} {H H0 : Heap} (hR : Mono R) {r : Nat} {cs : List Value} {g : Option (Nat × Nat)} {t : Bool} {l : List α} (hr : r < H.next) (hrow : H.objs.get r = some (.row cs g t)) (he : Elems R z H0 cs l) (hx : Ext H0 H) (hl : l.length ≤ 9223372036854775807) : SLr R z H (.slice (some ⟨r, 0, none⟩) l.length l.length) l := by
  refine ⟨SL.ofRow hr hrow (Nat.le_refl _) hl fun i x hi => ?_, fun a n c e => ?_⟩
  · obtain ⟨part, h1, h2⟩ := he.2 i x hi
    exact ⟨part, h1, hR _ _ _ _ hx h2⟩
  · simp only [Value.slice.injEq] at e
    obtain ⟨rfl, _, _⟩ := e
    exact .inr ⟨r, _, _, _, rfl, hr, hrow⟩
theorem SLr.nil {α : Type} {R : Heap → List Value → α → Prop} {z : Nat} {H : Heap} : SLr R z H (.slice none 0 0) [] :=
  ⟨⟨none, 0, rfl, ⟨Nat.le_refl _, Nat.zero_le _⟩, fun i x h => by simp at h⟩, fun a n c e => by cases e; exact .inl rfl⟩
theorem isnil_26 (d : Nat) (a : Addr) (n c n' c' : Nat) : eqV E (d + 1) 26 (.slice (some a) n c) (.slice none n' c') = some false := by kernel_rfl
theorem fn44 : E.fn.get 44 = some Tryz.f44 := by kernel_rfl
theorem spans_clone (H : Heap) (hlo : H.lo ≤ H.next) (v : Value) (l : List Span) (hv : SLr RSpan 2 H v l) (hl : l.length ≤ 100000) : CallA E (fnv 44) [v] H fun r H' => (SLr RSpan 2 H' r l ∧ Fresh H.next r) ∧ Same H H' := by
  obtain ⟨hs, hr⟩ := hv
  have sN : Same H (H.newRow []) := same_newRow _
  obtain ⟨a, c, cs, rfl, hrd, heR⟩ := (hs.mono RSpan.mono sN).reading (hr.same sN)
  have hrow0 : (H.newRow []).objs.get H.next = some (.row [] none true) := by simp (disch := omega) only [setRow_get, newRow_get, newRow_next, setRow_next, newRow_lo, setRow_lo, newRow_grps, setRow_grps, newRow_relo, setRow_relo, relo_objs, relo_next, relo_lo, nbeq_ne, sl]
  refine callA_fn (by kernel_rfl) fn44 rfl rfl ?_
  simp only [Tryz.f44]
  cases a with
  | none =>
    have e0 : l = [] := by
      cases l with
      | nil => rfl
      | cons x l =>
        obtain ⟨a', c', e, _, h⟩ := hs
        simp only [Value.slice.injEq] at e
        obtain ⟨r, o, _, _, _, _, h0, _⟩ := h 0 x rfl
        rw [h0] at e
        cases e.1
    subst e0
    repeat' (first | refine boolP_dec (fun _ => ?_) (fun _ => ?_) | apply boolP_not | refine boolP_b (fun _ => ?_) (fun _ => ?_) | simp (config := { maxSteps := 1000000 }) (disch := omega) only [↓sh, ↓sh2, ↓reduceIte, sx, sl, sb, st, nbeq_ne, dle, relo_eq, wrap_i64, Nat.reduceBEq, Nat.reduceLT, Nat.reduceLeDiff, Nat.reduceAdd, Nat.reduceMul, Nat.reduceEqDiff, Int.reduceEq, Int.reduceLT, Int.reduceLE, Int.reduceNeg, Int.reduceToNat, Bool.false_eq_true, eq_self, sa, Option.isNone_none, *])
    exact ⟨⟨SLr.nil, Fresh.nil _ _ _⟩, sameW⟩
  | some a =>
    by_cases hne : l.length = 0
    · have e0 : l = [] := List.eq_nil_of_length_eq_zero hne
      subst e0
      simp only [List.length_nil, Nat.zero_mul] at hrd
      have hap := app_zero (z := 2) (b := 16) (H := H.newRow []) ⟨H.next, 0, none⟩ 0 rfl cs
      repeat' (first | refine boolP_dec (fun _ => ?_) (fun _ => ?_) | apply boolP_not | refine boolP_b (fun _ => ?_) (fun _ => ?_) | simp (config := { maxSteps := 1000000 }) (disch := omega) only [↓sh, ↓sh2, ↓reduceIte, sx, sl, sb, st, nbeq_ne, dle, relo_eq, wrap_i64, Nat.reduceBEq, Nat.reduceLT, Nat.reduceLeDiff, Nat.reduceAdd, Nat.reduceMul, Nat.reduceEqDiff, Int.reduceEq, Int.reduceLT, Int.reduceLE, Int.reduceNeg, Int.reduceToNat, Bool.false_eq_true, eq_self, sa, isnil_26, ble_dec, repeat_zero, List.length_nil, *])
      have hz : SLr RSpan 2 (H.newRow []) (.slice (some ⟨H.next, 0, none⟩) 0 0) [] := SLr.row (l := []) RSpan.mono (by simp (disch := omega) only [setRow_get, newRow_get, newRow_next, setRow_next, newRow_lo, setRow_lo, newRow_grps, setRow_grps, newRow_relo, setRow_relo, relo_objs, relo_next, relo_lo, nbeq_ne, sl]; omega) hrow0 (Elems.nil _ _ (H.newRow [])) ⟨Nat.le_refl _, fun x cells g t hx ho => ⟨t, ho⟩⟩ (by simp)
      exact ⟨hz, Fresh.mk _ _ _ _ (Nat.le_refl _)⟩
    · have hap := app_fresh (z := 2) (b := 16) (k := l.length) (new := cs) hrow0 hne (by simp [growOk, beq_dec, ble_dec]; omega)
      repeat' (first | refine boolP_dec (fun _ => ?_) (fun _ => ?_) | apply boolP_not | refine boolP_b (fun _ => ?_) (fun _ => ?_) | simp (config := { maxSteps := 1000000 }) (disch := omega) only [↓sh, ↓sh2, ↓reduceIte, sx, sl, sb, st, nbeq_ne, dle, relo_eq, wrap_i64, Nat.reduceBEq, Nat.reduceLT, Nat.reduceLeDiff, Nat.reduceAdd, Nat.reduceMul, Nat.reduceEqDiff, Int.reduceEq, Int.reduceLT, Int.reduceLE, Int.reduceNeg, Int.reduceToNat, Bool.false_eq_true, eq_self, sa, isnil_26, ble_dec, repeat_zero, *])
      have g := grown_newApp (b := H.next) (H := H.newRow []) (by simp (disch := omega) only [setRow_get, newRow_get, newRow_next, setRow_next, newRow_lo, setRow_lo, newRow_grps, setRow_grps, newRow_relo, setRow_relo, relo_objs, relo_next, relo_lo, nbeq_ne, sl]; omega) 2 cs
      exact ⟨⟨SLr.row RSpan.mono (by rw [newApp_next]; simp (disch := omega) only [setRow_get, newRow_get, newRow_next, setRow_next, newRow_lo, setRow_lo, newRow_grps, setRow_grps, newRow_relo, setRow_relo, relo_objs, relo_next, relo_lo, nbeq_ne, sl]; omega) (g := some (H.next + 1, 2)) (t := true) (by rw [newApp_get, nbeq_eq (by simp (disch := omega) only [setRow_get, newRow_get, newRow_next, setRow_next, newRow_lo, setRow_lo, newRow_grps, setRow_grps, newRow_relo, setRow_relo, relo_objs, relo_next, relo_lo, nbeq_ne, sl])]; simp (disch := omega) only [setRow_get, newRow_get, newRow_next, setRow_next, newRow_lo, setRow_lo, newRow_grps, setRow_grps, newRow_relo, setRow_relo, relo_objs, relo_next, relo_lo, nbeq_ne, sl]) heR g.ext (by omega), Fresh.mk _ _ _ _ (by omega)⟩, g.same sN (Nat.le_refl _)⟩
theorem fn104 : E.fn.get 104 = some Tryz.f104 := by kernel_rfl
theorem sort_ok (H : Heap) (hlo : H.lo ≤ H.next) (v : Value) (l : List Span) (hv : SLr RSpan 2 H v l) (hr : Rising l) (hl : l.length ≤ 100000) : CallA E (fnv 104) [v] H fun r H' => (SLr RSpan 2 H' r l ∧ Fresh H.next r) ∧ Same H H' := by
  refine callA_fn (by kernel_rfl) fn104 rfl rfl ?_
  simp only [Tryz.f104]
  repeat' (first | refine boolP_dec (fun _ => ?_) (fun _ => ?_) | apply boolP_not | refine boolP_b (fun _ => ?_) (fun _ => ?_) | simp (config := { maxSteps := 1000000 }) (disch := omega) only [↓sh, ↓sh2, ↓reduceIte, sx, sl, sb, st, nbeq_ne, dle, relo_eq, wrap_i64, Nat.reduceBEq, Nat.reduceLT, Nat.reduceLeDiff, Nat.reduceAdd, Nat.reduceMul, Nat.reduceEqDiff, Int.reduceEq, Int.reduceLT, Int.reduceLE, Int.reduceNeg, Int.reduceToNat, Bool.false_eq_true, eq_self, sa, *])
  refine (spans_clone H hlo v l hv hl).mono ?_
  rintro r H2 ⟨⟨hr2, hf⟩, s2⟩
  have k2 := s2.ko; have l2 := s2.lo; have n2 := s2.nxt
  repeat' (first | refine boolP_dec (fun _ => ?_) (fun _ => ?_) | apply boolP_not | refine boolP_b (fun _ => ?_) (fun _ => ?_) | ((with_reducible show CallA _ _ _ _ _); refine call_ko (H0 := H2) koW (sortst_ok _ loW r l (hr2.1.ext RSpan.mono (Ko.ext koW)) hr hl) ?_; intro H2 k2 l2 n2 g2 q2; try simp (disch := omega) only [sm, sl] at l2 n2 g2 q2) | simp (config := { maxSteps := 1000000 }) (disch := omega) only [↓sh, ↓sh2, ↓reduceIte, sx, sl, sb, st, nbeq_ne, dle, relo_eq, wrap_i64, Nat.reduceBEq, Nat.reduceLT, Nat.reduceLeDiff, Nat.reduceAdd, Nat.reduceMul, Nat.reduceEqDiff, Int.reduceEq, Int.reduceLT, Int.reduceLE, Int.reduceNeg, Int.reduceToNat, Bool.false_eq_true, eq_self, sa, *])
  exact ⟨hr2.mono RSpan.mono (Ko.same (by assumption) (by assumption)), sameW⟩
end Go.AM
namespace Go.AM
attribute [local instance] fnMaps
open Go Go.Proofs
set_option maxRecDepth 100000
set_option maxHeartbeats 1000000
set_option linter.unusedSimpArgs false
structure Stp where
  at' : Int
  h : Hd
  e : Int
  last : Bool
theorem Ar.base {H X : Heap} {ex : List Nat} {a rw g : Nat} {ws : List Nat} (h : Ar H a rw g ws) (b : RBase H ex X) (ha : a ∉ ex) (hr : rw ∉ ex) : Ar X a rw g ws :=
  ⟨(b.objs a h.la ha).trans h.box, (b.objs rw h.lw hr).trans h.row, (b.grps g h.lg).trans h.grp, by have := h.la; have := b.nxt; omega, by have := h.lw; have := b.nxt; omega, by have := h.lg; have := b.nxt; omega, h.ne, h.u64, h.len⟩
theorem meet_yield {α : Type} {enc : α → Value} {B : Nat} {exl : List Nat} {y : Value} {I : List α → Heap → Prop} {F : Heap → Prop} (hI : ∀ rest X X', I rest X → Pd B X X' → I rest X')
    (hy : ∀ v rest X, I (v :: rest) X → CallA E y [enc v] X fun r X' => (r = .bool true ∧ I rest X' ∧ Yd B exl X X') ∨ (r = .bool false ∧ F X')) {v : α} {rest : List α} {X Xc : Heap} {K : Value → Heap → Prop} (hi : I (v :: rest) X) (s : Same X Xc) (hn : B ≤ X.next)
    (kt : ∀ X', I rest X' → Yd B exl Xc X' → K (.bool true) X') (kf : ∀ X', F X' → K (.bool false) X') : CallA E y [enc v] Xc K := by
  refine (hy v rest Xc (hI _ _ _ hi (s.pd hn))).mono ?_
  rintro r X' (⟨rfl, h1, h2⟩ | ⟨rfl, h⟩)
  · exact kt X' h1 h2
  · exact kf X' h
end Go.AM
namespace Go.AM
attribute [local instance] fnMaps
open Go Go.Proofs
set_option maxRecDepth 100000
set_option maxHeartbeats 1000000
set_option linter.unusedSimpArgs false
def mergeL : Span → List Span → List Span
  | op, [] => if 0 < op.size then [op] else []
  | op, s :: l => if 0 < op.size ∧ s.at' ≤ op.at' + op.size then mergeL ⟨op.at', (if op.at' + op.size < s.at' + s.size then s.at' + s.size else op.at' + op.size) - op.at'⟩ l else if 0 < op.size then op :: mergeL s l else mergeL s l
def OpenOk (op : Span) : Prop := op = ⟨0, 0⟩ ∨ May op
theorem fn103 : E.fn.get 103 = some Tryz.f103 := by kernel_rfl
theorem rows_iter (H : Heap) (ex : List Nat) (hlo : H.lo ≤ H.next) (bV : Nat) (v : Value) (l : List Span) (hV : H.objs.get bV = some (.row [v] none true)) (lV : bV < H.next) (nV : bV ∉ ex) (hv : SLr RSpan 2 H v l) (hvx : ∀ a n c, v = .slice a n c → ∀ r, a = some r → r.block ∉ ex) (hr : Rising l) (hm : ∀ x ∈ l, May x) (hl : l.length ≤ 100000) (hex : ∀ x : Nat, x ∈ ex → x < H.next)
    (y : Value) (I : List Span → Heap → Prop) (F : Heap → Prop) (H1 : Heap) (sH : Same H H1) (hn1 : H1.next = H.next + 2) (hI : ∀ rest X X', I rest X → Pd (H.next + 2) X X' → I rest X') (hB : ∀ rest X, I rest X → RBase H ex X)
    (hy : ∀ v rest X, I (v :: rest) X → CallA E y [spanV v] X fun r X' => (r = .bool true ∧ I rest X' ∧ Yd (H.next + 2) ((H.next + 1) :: ex) X X') ∨ (r = .bool false ∧ F X'))
    (h0 : I (mergeL ⟨0, 0⟩ l) H1) : CallA E (.func (.func 103) #[] #[ptr bV 0]) [y] H1 fun _ X => I [] X ∨ F X := by
  have e1 := (sH.objs bV lV).trans hV
  have hv1 : SLr RSpan 2 H1 v l := hv.mono RSpan.mono sH
  have hcv : isCell v = true := by
    obtain ⟨⟨a, c, rfl, _⟩, _⟩ := hv
    rfl
  have l1 := sH.lo
  refine callA_clo (by kernel_rfl) fn103 rfl rfl ?_
  simp only [Tryz.f103]
  repeat' (first | refine boolP_dec (fun _ => ?_) (fun _ => ?_) | apply boolP_not | refine boolP_b (fun _ => ?_) (fun _ => ?_) | refine wps_draw (id := 7) [Fx, Fx, Fx, Fx, Fx, Fx, Fx, Tx, Fx, Fx, Fx] (by kernel_rfl) ?_ | refine wps_draw (id := 8) [Fx, Tx, Fx, Tx, Fx, Fx, Fx, Fx, Fx, Fx] (by kernel_rfl) ?_ | ((with_reducible show Qs _ _ _ _ _); first | refine hQe _ _ _ _ ?_ | refine hQr _ _ _ ?_) | simp (config := { maxSteps := 1000000 }) (disch := omega) only [↓sh, ↓sh2, ↓reduceIte, sx, sl, sb, st, nbeq_ne, dle, relo_eq, wrap_i64, Nat.reduceBEq, Nat.reduceLT, Nat.reduceLeDiff, Nat.reduceAdd, Nat.reduceMul, Nat.reduceEqDiff, Int.reduceEq, Int.reduceLT, Int.reduceLE, Int.reduceNeg, Int.reduceToNat, Bool.false_eq_true, eq_self, sa, List.nil_append, List.cons_append, *])
  refine (sort_ok _ loW v l (hv1.mono RSpan.mono (same_newRow _)) hr hl).mono ?_
  rintro r H3 ⟨⟨hs, hf⟩, s3⟩
  have k3 : Ko H1 H3 := (show Ko H1 (H1.newRow [Value.int .i64 0, Value.int .i64 0]) from koW).call s3
  have l3 := s3.lo; have n3 := s3.nxt
  have o3 := s3.objs (H.next + 2) (by simp (disch := omega) only [setRow_get, newRow_get, newRow_next, setRow_next, newRow_lo, setRow_lo, newRow_grps, setRow_grps, newRow_relo, setRow_relo, relo_objs, relo_next, relo_lo, nbeq_ne, sl]; omega)
  have z1 : (H.next + 2 == H1.next) = true := by rw [hn1]; exact beq_self_eq_true _
  simp (disch := omega) only [sm, sl] at l3 n3 o3 hf
  rw [z1] at o3
  clear s3
  obtain ⟨⟨ad, ca, rfl, ⟨_, hml⟩, hla⟩, -⟩ := hs
  repeat' (first | refine boolP_dec (fun _ => ?_) (fun _ => ?_) | apply boolP_not | refine boolP_b (fun _ => ?_) (fun _ => ?_) | refine wps_draw (id := 7) [Fx, Fx, Fx, Fx, Fx, Fx, Fx, Tx, Fx, Fx, Fx] (by kernel_rfl) ?_ | refine wps_draw (id := 8) [Fx, Tx, Fx, Tx, Fx, Fx, Fx, Fx, Fx, Fx] (by kernel_rfl) ?_ | ((with_reducible show Qs _ _ _ _ _); first | refine hQe _ _ _ _ ?_ | refine hQr _ _ _ ?_) | simp (config := { maxSteps := 1000000 }) (disch := omega) only [↓sh, ↓sh2, ↓reduceIte, sx, sl, sb, st, nbeq_ne, dle, relo_eq, wrap_i64, Nat.reduceBEq, Nat.reduceLT, Nat.reduceLeDiff, Nat.reduceAdd, Nat.reduceMul, Nat.reduceEqDiff, Int.reduceEq, Int.reduceLT, Int.reduceLE, Int.reduceNeg, Int.reduceToNat, Bool.false_eq_true, eq_self, sa, *])
  have i3 := hI _ _ _ h0 (Same.pd (sameW : Same H1 H3) (by omega))
  refine wp_loopN (by kernel_rfl) (fun nn T X => ∃ (i : Nat) (op : Span), nn = l.length - i ∧ i ≤ l.length ∧ T.get 9 = some (.int .i64 i) ∧ T.get 0 = some y ∧ T.get 3 = some (ptr (H.next + 2) 0) ∧ T.get 7 = some (.slice ad l.length ca) ∧ T.get 8 = some (.int .i64 l.length) ∧
    X.objs.get (H.next + 2) = some (.row [.int .i64 op.at', .int .i64 op.size] none true) ∧ OpenOk op ∧ SL RSpan 2 X (.slice ad l.length ca) l ∧ H.next + 2 < X.next ∧ I (mergeL op (l.drop i)) X) ⟨_, 0, ⟨0, 0⟩, rfl, Nat.zero_le _, by simp (config := { maxSteps := 1000000 }) (disch := omega) only [↓sh, ↓sh2, ↓reduceIte, sx, sl, sb, st, nbeq_ne, dle, relo_eq, wrap_i64, Nat.reduceBEq, Nat.reduceLT, Nat.reduceLeDiff, Nat.reduceAdd, Nat.reduceMul, Nat.reduceEqDiff, Int.reduceEq, Int.reduceLT, Int.reduceLE, Int.reduceNeg, Int.reduceToNat, Bool.false_eq_true, eq_self, sa, Int.natCast_zero, List.nil_append, List.cons_append], by simp (config := { maxSteps := 1000000 }) (disch := omega) only [↓sh, ↓sh2, ↓reduceIte, sx, sl, sb, st, nbeq_ne, dle, relo_eq, wrap_i64, Nat.reduceBEq, Nat.reduceLT, Nat.reduceLeDiff, Nat.reduceAdd, Nat.reduceMul, Nat.reduceEqDiff, Int.reduceEq, Int.reduceLT, Int.reduceLE, Int.reduceNeg, Int.reduceToNat, Bool.false_eq_true, eq_self, sa, List.nil_append, List.cons_append], by simp (config := { maxSteps := 1000000 }) (disch := omega) only [↓sh, ↓sh2, ↓reduceIte, sx, sl, sb, st, nbeq_ne, dle, relo_eq, wrap_i64, Nat.reduceBEq, Nat.reduceLT, Nat.reduceLeDiff, Nat.reduceAdd, Nat.reduceMul, Nat.reduceEqDiff, Int.reduceEq, Int.reduceLT, Int.reduceLE, Int.reduceNeg, Int.reduceToNat, Bool.false_eq_true, eq_self, sa, List.nil_append, List.cons_append], by simp (config := { maxSteps := 1000000 }) (disch := omega) only [↓sh, ↓sh2, ↓reduceIte, sx, sl, sb, st, nbeq_ne, dle, relo_eq, wrap_i64, Nat.reduceBEq, Nat.reduceLT, Nat.reduceLeDiff, Nat.reduceAdd, Nat.reduceMul, Nat.reduceEqDiff, Int.reduceEq, Int.reduceLT, Int.reduceLE, Int.reduceNeg, Int.reduceToNat, Bool.false_eq_true, eq_self, sa, List.nil_append, List.cons_append], by simp (config := { maxSteps := 1000000 }) (disch := omega) only [↓sh, ↓sh2, ↓reduceIte, sx, sl, sb, st, nbeq_ne, dle, relo_eq, wrap_i64, Nat.reduceBEq, Nat.reduceLT, Nat.reduceLeDiff, Nat.reduceAdd, Nat.reduceMul, Nat.reduceEqDiff, Int.reduceEq, Int.reduceLT, Int.reduceLE, Int.reduceNeg, Int.reduceToNat, Bool.false_eq_true, eq_self, sa, List.nil_append, List.cons_append], o3, .inl rfl, ⟨ad, ca, rfl, ⟨by assumption, hml⟩, hla⟩, by omega, i3⟩ ?_
  rintro nn T X ⟨i, op, rfl, hi, t9, t0, t3, t7, t8, fo, hop, hsl, hnx, ii⟩ Qs hQ hQr hQe
  have rb := hB _ _ ii
  have lX := rb.lo; have nX := rb.nxt
  have no : H.next + 2 ∉ (H.next + 1) :: ex := fun hh => by
    rcases List.mem_cons.1 hh with hh | hh
    · omega
    · have := hex _ hh; omega
  have hexl : ∀ x : Nat, x ∈ (H.next + 1) :: ex → x < H.next + 2 := fun x hh => by
    rcases List.mem_cons.1 hh with rfl | hh
    · omega
    · have := hex _ hh; omega
  by_cases hlt : i < l.length
  · obtain ⟨rr, o, cells, gg, tt, part, rfl, hr1, hrow, hcut, rfl⟩ := (by obtain ⟨_, _, e, _, h⟩ := hsl; cases e; exact h i l[i] (by simp) : ∃ r o cells g t part, ad = some ⟨r, o, none⟩ ∧ r < X.next ∧ X.objs.get r = some (.row cells g t) ∧ cut cells (o + i * 2) 2 = some part ∧ RSpan X part l[i])
    have hmx := hm l[i] (by simp)
    have hmx' := hmx
    unfold May at hmx'
    have a1 := at_nat hlt
    rw [List.drop_eq_getElem_cons hlt] at ii
    have hxx : ∀ x : Nat, x ∈ [H.next + 2] → x < H.next + 3 := fun x hx => by rw [List.mem_singleton] at hx; omega
    have hst : op.stop = op.at' + op.size := rfl
    have hst2 : l[i].stop = l[i].at' + l[i].size := rfl
    by_cases hos : 0 < op.size
    · have hmo : May op := hop.resolve_left fun e => by rw [e] at hos; exact absurd hos (by decide)
      have hmo' := hmo
      unfold May at hmo'
      by_cases hle : l[i].at' ≤ op.at' + op.size
      · repeat' (first | refine boolP_dec (fun _ => ?_) (fun _ => ?_) | apply boolP_not | refine boolP_b (fun _ => ?_) (fun _ => ?_) | refine wps_draw (id := 7) [Fx, Fx, Fx, Fx, Fx, Fx, Fx, Tx, Fx, Fx, Fx] (by kernel_rfl) ?_ | refine wps_draw (id := 8) [Fx, Tx, Fx, Tx, Fx, Fx, Fx, Fx, Fx, Fx] (by kernel_rfl) ?_ | ((with_reducible show CallA _ _ _ _ _); (first | refine call_ko (H0 := X) koW (smay_ok _ loW l[i]) ?_ | refine call_ko (H0 := X) koW (send_ok _ loW op (by assumption)) ?_ | refine call_ko (H0 := X) koW (send_ok _ loW l[i] (by assumption)) ?_); intro H2 k2 l2 n2 g2 q2; try simp (disch := omega) only [sm, sl] at l2 n2 g2 q2) | ((with_reducible show Qs _ _ _ _ _); first | refine hQe _ _ _ _ ?_ | refine hQr _ _ _ ?_) | simp (config := { maxSteps := 1000000 }) (disch := omega) only [↓sh, ↓sh2, ↓reduceIte, sx, sl, sb, st, nbeq_ne, dle, relo_eq, wrap_i64, Nat.reduceBEq, Nat.reduceLT, Nat.reduceLeDiff, Nat.reduceAdd, Nat.reduceMul, Nat.reduceEqDiff, Int.reduceEq, Int.reduceLT, Int.reduceLE, Int.reduceNeg, Int.reduceToNat, Bool.false_eq_true, eq_self, sa, builtin_max, *])
        all_goals try omega
        rw [mergeL, if_pos ⟨hos, hle⟩] at ii
        refine hQ _ _ _ ?_ ⟨i + 1, ⟨op.at', (if op.at' + op.size < l[i].at' + l[i].size then l[i].at' + l[i].size else op.at' + op.size) - op.at'⟩, rfl, by omega, ?_, ?_, ?_, ?_, ?_, ?_, .inr (by unfold May; simp only; split <;> omega), ?_, ?_, ?_⟩
        · omega
        iterate 5 exact nextW
        · simp (disch := omega) only [setRow_get, newRow_get, newRow_next, setRow_next, newRow_lo, setRow_lo, newRow_grps, setRow_grps, newRow_relo, setRow_relo, relo_objs, relo_next, relo_lo, nbeq_ne, sl]
        · refine hsl.yd (fun _ _ _ _ h => h) (hf.le (by omega)) hxx (Yd.setRow (Same.yd ?_ (by omega)) (List.mem_singleton.2 rfl) _); exact sameW
        · simp (disch := omega) only [setRow_get, newRow_get, newRow_next, setRow_next, newRow_lo, setRow_lo, newRow_grps, setRow_grps, newRow_relo, setRow_relo, relo_objs, relo_next, relo_lo, nbeq_ne, sl]; omega
        · refine hI _ _ _ ii (Pd.setRow (Same.pd ?_ (by omega)) (by omega) ⟨[.int .i64 op.at', .int .i64 op.size], true, ?_⟩ _); exact sameW; (simp (disch := omega) only [setRow_get, newRow_get, newRow_next, setRow_next, newRow_lo, setRow_lo, newRow_grps, setRow_grps, newRow_relo, setRow_relo, relo_objs, relo_next, relo_lo, nbeq_ne, sl, *])
      · repeat' (first | refine boolP_dec (fun _ => ?_) (fun _ => ?_) | apply boolP_not | refine boolP_b (fun _ => ?_) (fun _ => ?_) | refine wps_draw (id := 7) [Fx, Fx, Fx, Fx, Fx, Fx, Fx, Tx, Fx, Fx, Fx] (by kernel_rfl) ?_ | refine wps_draw (id := 8) [Fx, Tx, Fx, Tx, Fx, Fx, Fx, Fx, Fx, Fx] (by kernel_rfl) ?_ | ((with_reducible show CallA _ _ _ _ _); (first | refine call_ko (H0 := X) koW (smay_ok _ loW l[i]) ?_ | refine call_ko (H0 := X) koW (send_ok _ loW op (by assumption)) ?_); intro H2 k2 l2 n2 g2 q2; try simp (disch := omega) only [sm, sl] at l2 n2 g2 q2) | ((with_reducible show Qs _ _ _ _ _); first | refine hQe _ _ _ _ ?_ | refine hQr _ _ _ ?_) | simp (config := { maxSteps := 1000000 }) (disch := omega) only [↓sh, ↓sh2, ↓reduceIte, sx, sl, sb, st, nbeq_ne, dle, relo_eq, wrap_i64, Nat.reduceBEq, Nat.reduceLT, Nat.reduceLeDiff, Nat.reduceAdd, Nat.reduceMul, Nat.reduceEqDiff, Int.reduceEq, Int.reduceLT, Int.reduceLE, Int.reduceNeg, Int.reduceToNat, Bool.false_eq_true, eq_self, sa, *])
        all_goals try omega
        rw [mergeL, if_neg (by omega), if_pos hos] at ii
        refine meet_yield hI hy ii sameW nX ?_ ?_
        · intro X' h1 h2
          have f1 := h2.alone (H.next + 2) [.int .i64 op.at', .int .i64 op.size] true (by simp (disch := omega) only [setRow_get, newRow_get, newRow_next, setRow_next, newRow_lo, setRow_lo, newRow_grps, setRow_grps, newRow_relo, setRow_relo, relo_objs, relo_next, relo_lo, nbeq_ne, sl]; omega) no (by simp (disch := omega) only [setRow_get, newRow_get, newRow_next, setRow_next, newRow_lo, setRow_lo, newRow_grps, setRow_grps, newRow_relo, setRow_relo, relo_objs, relo_next, relo_lo, nbeq_ne, sl, *])
          have f2 := h2.alone X.next [.int .i64 l[i].at', .int .i64 l[i].size] true (by simp (disch := omega) only [setRow_get, newRow_get, newRow_next, setRow_next, newRow_lo, setRow_lo, newRow_grps, setRow_grps, newRow_relo, setRow_relo, relo_objs, relo_next, relo_lo, nbeq_ne, sl]; omega) (fun hh => by have := hexl _ hh; omega) (by simp (disch := omega) only [setRow_get, newRow_get, newRow_next, setRow_next, newRow_lo, setRow_lo, newRow_grps, setRow_grps, newRow_relo, setRow_relo, relo_objs, relo_next, relo_lo, nbeq_ne, sl, *])
          have hsl2 := (hsl.mono RSpan.mono (sameW : Same X (H2.relo H.lo))).yd (fun _ _ _ _ h => h) (hf.le (by omega)) hexl h2
          have lY := h2.lo; have nY := h2.nxt
          simp (disch := omega) only [sm, sl] at lY nY
          clear h2
          repeat' (first | refine boolP_dec (fun _ => ?_) (fun _ => ?_) | apply boolP_not | refine boolP_b (fun _ => ?_) (fun _ => ?_) | refine wps_draw (id := 7) [Fx, Fx, Fx, Fx, Fx, Fx, Fx, Tx, Fx, Fx, Fx] (by kernel_rfl) ?_ | refine wps_draw (id := 8) [Fx, Tx, Fx, Tx, Fx, Fx, Fx, Fx, Fx, Fx] (by kernel_rfl) ?_ | ((with_reducible show Qs _ _ _ _ _); first | refine hQe _ _ _ _ ?_ | refine hQr _ _ _ ?_) | simp (config := { maxSteps := 1000000 }) (disch := omega) only [↓sh, ↓sh2, ↓reduceIte, sx, sl, sb, st, nbeq_ne, dle, relo_eq, wrap_i64, Nat.reduceBEq, Nat.reduceLT, Nat.reduceLeDiff, Nat.reduceAdd, Nat.reduceMul, Nat.reduceEqDiff, Int.reduceEq, Int.reduceLT, Int.reduceLE, Int.reduceNeg, Int.reduceToNat, Bool.false_eq_true, eq_self, sa, *])
          refine hQ _ _ _ ?_ ⟨i + 1, l[i], rfl, by omega, ?_, ?_, ?_, ?_, ?_, ?_, .inr hmx, ?_, ?_, ?_⟩
          · omega
          iterate 5 exact nextW
          · simp (disch := omega) only [setRow_get, newRow_get, newRow_next, setRow_next, newRow_lo, setRow_lo, newRow_grps, setRow_grps, newRow_relo, setRow_relo, relo_objs, relo_next, relo_lo, nbeq_ne, sl]
          · refine hsl2.yd (fun _ _ _ _ h => h) (hf.le (by omega)) hxx (Yd.setRow (Same.yd ?_ (by omega)) (List.mem_singleton.2 rfl) _); exact sameW
          · simp (disch := omega) only [setRow_get, newRow_get, newRow_next, setRow_next, newRow_lo, setRow_lo, newRow_grps, setRow_grps, newRow_relo, setRow_relo, relo_objs, relo_next, relo_lo, nbeq_ne, sl]; omega
          · refine hI _ _ _ h1 (Pd.setRow (Same.pd ?_ (by omega)) (by omega) ⟨[.int .i64 op.at', .int .i64 op.size], true, ?_⟩ _); exact sameW; (simp (disch := omega) only [setRow_get, newRow_get, newRow_next, setRow_next, newRow_lo, setRow_lo, newRow_grps, setRow_grps, newRow_relo, setRow_relo, relo_objs, relo_next, relo_lo, nbeq_ne, sl, *])
        · intro X' h1
          repeat' (first | refine boolP_dec (fun _ => ?_) (fun _ => ?_) | apply boolP_not | refine boolP_b (fun _ => ?_) (fun _ => ?_) | refine wps_draw (id := 7) [Fx, Fx, Fx, Fx, Fx, Fx, Fx, Tx, Fx, Fx, Fx] (by kernel_rfl) ?_ | refine wps_draw (id := 8) [Fx, Tx, Fx, Tx, Fx, Fx, Fx, Fx, Fx, Fx] (by kernel_rfl) ?_ | ((with_reducible show Qs _ _ _ _ _); first | refine hQe _ _ _ _ ?_ | refine hQr _ _ _ ?_) | simp (config := { maxSteps := 1000000 }) (disch := omega) only [↓sh, ↓sh2, ↓reduceIte, sx, sl, sb, st, nbeq_ne, dle, relo_eq, wrap_i64, Nat.reduceBEq, Nat.reduceLT, Nat.reduceLeDiff, Nat.reduceAdd, Nat.reduceMul, Nat.reduceEqDiff, Int.reduceEq, Int.reduceLT, Int.reduceLE, Int.reduceNeg, Int.reduceToNat, Bool.false_eq_true, eq_self, sa, *])
          exact .inr trivial
    · repeat' (first | refine boolP_dec (fun _ => ?_) (fun _ => ?_) | apply boolP_not | refine boolP_b (fun _ => ?_) (fun _ => ?_) | refine wps_draw (id := 7) [Fx, Fx, Fx, Fx, Fx, Fx, Fx, Tx, Fx, Fx, Fx] (by kernel_rfl) ?_ | refine wps_draw (id := 8) [Fx, Tx, Fx, Tx, Fx, Fx, Fx, Fx, Fx, Fx] (by kernel_rfl) ?_ | ((with_reducible show CallA _ _ _ _ _); refine call_ko (H0 := X) koW (smay_ok _ loW l[i]) ?_; intro H2 k2 l2 n2 g2 q2; try simp (disch := omega) only [sm, sl] at l2 n2 g2 q2) | ((with_reducible show Qs _ _ _ _ _); first | refine hQe _ _ _ _ ?_ | refine hQr _ _ _ ?_) | simp (config := { maxSteps := 1000000 }) (disch := omega) only [↓sh, ↓sh2, ↓reduceIte, sx, sl, sb, st, nbeq_ne, dle, relo_eq, wrap_i64, Nat.reduceBEq, Nat.reduceLT, Nat.reduceLeDiff, Nat.reduceAdd, Nat.reduceMul, Nat.reduceEqDiff, Int.reduceEq, Int.reduceLT, Int.reduceLE, Int.reduceNeg, Int.reduceToNat, Bool.false_eq_true, eq_self, sa, *])
      all_goals try omega
      rw [mergeL, if_neg (by omega), if_neg hos] at ii
      refine hQ _ _ _ ?_ ⟨i + 1, l[i], rfl, by omega, ?_, ?_, ?_, ?_, ?_, ?_, .inr hmx, ?_, ?_, ?_⟩
      · omega
      iterate 5 exact nextW
      · simp (disch := omega) only [setRow_get, newRow_get, newRow_next, setRow_next, newRow_lo, setRow_lo, newRow_grps, setRow_grps, newRow_relo, setRow_relo, relo_objs, relo_next, relo_lo, nbeq_ne, sl]
      · refine hsl.yd (fun _ _ _ _ h => h) (hf.le (by omega)) hxx (Yd.setRow (Same.yd ?_ (by omega)) (List.mem_singleton.2 rfl) _); exact sameW
      · simp (disch := omega) only [setRow_get, newRow_get, newRow_next, setRow_next, newRow_lo, setRow_lo, newRow_grps, setRow_grps, newRow_relo, setRow_relo, relo_objs, relo_next, relo_lo, nbeq_ne, sl]; omega
      · refine hI _ _ _ ii (Pd.setRow (Same.pd ?_ (by omega)) (by omega) ⟨[.int .i64 op.at', .int .i64 op.size], true, ?_⟩ _); exact sameW; (simp (disch := omega) only [setRow_get, newRow_get, newRow_next, setRow_next, newRow_lo, setRow_lo, newRow_grps, setRow_grps, newRow_relo, setRow_relo, relo_objs, relo_next, relo_lo, nbeq_ne, sl, *])
  · repeat' (first | refine boolP_dec (fun _ => ?_) (fun _ => ?_) | apply boolP_not | refine boolP_b (fun _ => ?_) (fun _ => ?_) | refine wps_draw (id := 7) [Fx, Fx, Fx, Fx, Fx, Fx, Fx, Tx, Fx, Fx, Fx] (by kernel_rfl) ?_ | refine wps_draw (id := 8) [Fx, Tx, Fx, Tx, Fx, Fx, Fx, Fx, Fx, Fx] (by kernel_rfl) ?_ | ((with_reducible show Qs _ _ _ _ _); first | refine hQe _ _ _ _ ?_ | refine hQr _ _ _ ?_) | simp (config := { maxSteps := 1000000 }) (disch := omega) only [↓sh, ↓sh2, ↓reduceIte, sx, sl, sb, st, nbeq_ne, dle, relo_eq, wrap_i64, Nat.reduceBEq, Nat.reduceLT, Nat.reduceLeDiff, Nat.reduceAdd, Nat.reduceMul, Nat.reduceEqDiff, Int.reduceEq, Int.reduceLT, Int.reduceLE, Int.reduceNeg, Int.reduceToNat, Bool.false_eq_true, eq_self, sa, *])
    all_goals try omega
    · have e0 : i = l.length := by omega
      rw [e0, List.drop_length, mergeL, if_pos (by omega)] at ii
      refine meet_yield hI hy ii (Same.refl _) nX ?_ ?_
      · intro X' h1 h2
        repeat' (first | refine boolP_dec (fun _ => ?_) (fun _ => ?_) | apply boolP_not | refine boolP_b (fun _ => ?_) (fun _ => ?_) | refine wps_draw (id := 7) [Fx, Fx, Fx, Fx, Fx, Fx, Fx, Tx, Fx, Fx, Fx] (by kernel_rfl) ?_ | refine wps_draw (id := 8) [Fx, Tx, Fx, Tx, Fx, Fx, Fx, Fx, Fx, Fx] (by kernel_rfl) ?_ | ((with_reducible show Qs _ _ _ _ _); first | refine hQe _ _ _ _ ?_ | refine hQr _ _ _ ?_) | simp (config := { maxSteps := 1000000 }) (disch := omega) only [↓sh, ↓sh2, ↓reduceIte, sx, sl, sb, st, nbeq_ne, dle, relo_eq, wrap_i64, Nat.reduceBEq, Nat.reduceLT, Nat.reduceLeDiff, Nat.reduceAdd, Nat.reduceMul, Nat.reduceEqDiff, Int.reduceEq, Int.reduceLT, Int.reduceLE, Int.reduceNeg, Int.reduceToNat, Bool.false_eq_true, eq_self, sa, *])
        exact .inl trivial
      · intro X' h1
        repeat' (first | refine boolP_dec (fun _ => ?_) (fun _ => ?_) | apply boolP_not | refine boolP_b (fun _ => ?_) (fun _ => ?_) | refine wps_draw (id := 7) [Fx, Fx, Fx, Fx, Fx, Fx, Fx, Tx, Fx, Fx, Fx] (by kernel_rfl) ?_ | refine wps_draw (id := 8) [Fx, Tx, Fx, Tx, Fx, Fx, Fx, Fx, Fx, Fx] (by kernel_rfl) ?_ | ((with_reducible show Qs _ _ _ _ _); first | refine hQe _ _ _ _ ?_ | refine hQr _ _ _ ?_) | simp (config := { maxSteps := 1000000 }) (disch := omega) only [↓sh, ↓sh2, ↓reduceIte, sx, sl, sb, st, nbeq_ne, dle, relo_eq, wrap_i64, Nat.reduceBEq, Nat.reduceLT, Nat.reduceLeDiff, Nat.reduceAdd, Nat.reduceMul, Nat.reduceEqDiff, Int.reduceEq, Int.reduceLT, Int.reduceLE, Int.reduceNeg, Int.reduceToNat, Bool.false_eq_true, eq_self, sa, *])
        exact .inr trivial
    · have e0 : i = l.length := by omega
      rw [e0, List.drop_length, mergeL, if_neg (by omega)] at ii
      exact .inl ii
end Go.AM
namespace Go.AM
attribute [local instance] fnMaps
open Go Go.Proofs
set_option maxRecDepth 100000
set_option maxHeartbeats 1000000
set_option linter.unusedSimpArgs false
theorem RBase.ko {H H3 X : Heap} {ex : List Nat} (b : RBase H3 ex X) (k : Ko H H3) (hex : ∀ x : Nat, x ∈ ex → H.next ≤ x) : Ko H X := by
  have h1 := k.nxt; have h2 := b.nxt
  exact ⟨by omega, fun x hx => (b.objs x (by omega) fun hh => by have := hex x hh; omega).trans (k.objs x hx), fun x hx => (b.grps x (by omega)).trans (k.grps x hx)⟩
theorem ko_del {H X : Heap} {gr : Tr (List Nat)} {nx k : Nat} (h : Ko H X) (hk : H.next ≤ k) (hg : gr = X.grps) (hn : nx = X.next) : Same H ⟨X.objs.del k, gr, nx, H.lo⟩ := by
  subst hg hn
  exact ⟨rfl, h.nxt, fun x hx => (delO_get _ _ _ (by omega)).trans (h.objs x hx), h.grps⟩
theorem ko_rec {H X : Heap} {gr : Tr (List Nat)} {nx : Nat} (k : Ko H X) (hg : gr = X.grps) (hn : nx = X.next) : Same H ⟨X.objs, gr, nx, H.lo⟩ := by
  subst hg hn
  exact ⟨rfl, k.nxt, k.objs, k.grps⟩
end Go.AM
namespace Go.AM
attribute [local instance] fnMaps
open Go Go.Proofs
set_option maxRecDepth 100000
set_option maxHeartbeats 1000000
set_option linter.unusedSimpArgs false
theorem OwnF.pd {B b z n : Nat} {v : Value} {cs : List Value} {f : Option (Nat × Nat)} {X X' : Heap} (h : OwnF b z X v n cs f) (p : Pd B X X') : OwnF b z X' v n cs f := by
  refine h.keep p.nxt fun r g e => ?_
  subst e
  obtain ⟨_, _, _, h3, _, h5, old, h6, h7⟩ := h
  exact ⟨(p.grp r _ _ _ h3 h6).trans h6.symm, p.grps g h5⟩
theorem OwnF.offL {b z n l : Nat} {v : Value} {cs : List Value} {f : Option (Nat × Nat)} {X X' : Heap} (h : OwnF b z X v n cs f) (p : OffL l X X') (hl : l < b) : OwnF b z X' v n cs f := by
  refine h.keep (by rw [p.next]; exact Nat.le_refl _) fun r g e => ?_
  subst e
  obtain ⟨_, _, h2, h3, _, h5, old, h6, h7⟩ := h
  exact ⟨p.objs r (by omega), p.grps g⟩
end Go.AM
namespace Go.AM
attribute [local instance] fnMaps
open Go Go.Proofs
set_option maxRecDepth 100000
set_option maxHeartbeats 1000000
set_option linter.unusedSimpArgs false
theorem fn84 : E.fn.get 84 = some Tryz.f84 := by kernel_rfl
theorem rows_ok (H : Heap) (hlo : H.lo ≤ H.next) (v : Value) (hv : isCell v = true) (hv2 : cellsV v = [v]) : CallA E (fnv 84) [v] H fun r H' => r = .func (.func 103) #[] #[ptr H.next 0] ∧ H'.objs.get H.next = some (.row [v] none true) ∧ H'.next = H.next + 1 ∧ Same H H' := by
  refine callA_fn (by kernel_rfl) fn84 rfl rfl ?_
  simp only [Tryz.f84]
  repeat' (first | refine boolP_dec (fun _ => ?_) (fun _ => ?_) | apply boolP_not | refine boolP_b (fun _ => ?_) (fun _ => ?_) | simp (config := { maxSteps := 1000000 }) (disch := omega) only [↓sh, ↓sh2, ↓reduceIte, sx, sl, sb, st, nbeq_ne, dle, relo_eq, wrap_i64, Nat.reduceBEq, Nat.reduceLT, Nat.reduceLeDiff, Nat.reduceAdd, Nat.reduceMul, Nat.reduceEqDiff, Int.reduceEq, Int.reduceLT, Int.reduceLE, Int.reduceNeg, Int.reduceToNat, Bool.false_eq_true, eq_self, sa, OP_makeFunc, ev_nilfunc, evs_cons, evs_nil, *])
  exact sameW
def InAll (all x : Span) : Prop := May x ∧ all.at' ≤ x.at' ∧ x.at' + x.size ≤ all.at' + all.size
theorem mergeL_in {all : Span} (ha : May all) : ∀ (l : List Span) (op : Span), (∀ x ∈ l, InAll all x) → (op = ⟨0, 0⟩ ∨ InAll all op) → ∀ r ∈ mergeL op l, InAll all r
  | [], op, _, ho, r, hr => by
    unfold mergeL at hr
    split at hr
    · rw [List.mem_singleton] at hr
      subst hr
      rename_i h
      exact ho.resolve_left fun e => by rw [e] at h; exact absurd h (by decide)
    · cases hr
  | s :: l, op, hl, ho, r, hr => by
    have hs := hl s (List.mem_cons_self ..)
    have hl' : ∀ x ∈ l, InAll all x := fun x hx => hl x (List.mem_cons_of_mem _ hx)
    unfold mergeL at hr
    split at hr
    · rename_i h
      have h2 := ho.resolve_left fun e => by rw [e] at h; exact absurd h.1 (by decide)
      refine mergeL_in ha l _ hl' (.inr ?_) r hr
      unfold InAll May at *
      simp only
      split <;> omega
    · split at hr
      · rename_i h
        have h2 := ho.resolve_left fun e => by rw [e] at h; exact absurd h (by decide)
        rcases List.mem_cons.1 hr with rfl | hr
        · exact h2
        · exact mergeL_in ha l _ hl' (.inr hs) r hr
      · exact mergeL_in ha l _ hl' (.inr hs) r hr
theorem mergeL_len : ∀ (l : List Span) (op : Span), (mergeL op l).length ≤ l.length + 1
  | [], op => by unfold mergeL; split <;> simp
  | s :: l, op => by
    unfold mergeL
    split
    · have := mergeL_len l ⟨op.at', (if op.at' + op.size < s.at' + s.size then s.at' + s.size else op.at' + op.size) - op.at'⟩
      simp only [List.length_cons]; omega
    · have := mergeL_len l s
      split <;> simp only [List.length_cons] <;> omega
def gapsL (all : Span) (p : Int) : List Span → List Span
  | [] => if p < all.at' + all.size then [⟨p, all.at' + all.size - p⟩] else []
  | s :: l => (if p < s.at' then [⟨p, s.at' - p⟩] else []) ++ gapsL all (if p < s.at' + s.size then s.at' + s.size else p) l
def gapsR (all : Span) (l : List Span) : List Span := if May all then gapsL all all.at' (mergeL ⟨0, 0⟩ l) else []
def spanC (s : Span) : List Value := [.int .i64 s.at', .int .i64 s.size]
theorem spanC_cut : ∀ (l : List Span) (i : Nat) (x : Span), l[i]? = some x → cut (l.flatMap spanC) (i * 2) 2 = some (spanC x)
  | [], _, _, h => by simp at h
  | s :: l, 0, x, h => by
    simp only [List.getElem?_cons_zero, Option.some.injEq] at h
    subst h
    rw [cut_eq, if_pos (by simp [spanC])]
    rfl
  | s :: l, i + 1, x, h => by
    have := spanC_cut l i x (by simpa using h)
    rw [cut_eq] at this ⊢
    split at this
    · rename_i hh
      rw [if_pos (by simp [spanC] at hh ⊢; omega), ← this]
      simp only [List.flatMap_cons, spanC, List.cons_append, List.nil_append, Nat.add_mul, List.drop_succ_cons]
    · cases this
theorem elems_span (H : Heap) (l : List Span) : Elems RSpan 2 H (l.flatMap spanC) l := by
  refine ⟨?_, fun i x hx => ⟨spanC x, spanC_cut l i x hx, rfl⟩⟩
  induction l with
  | nil => rfl
  | cons x l ih => simp [spanC, ih]; try omega
theorem OwnF.slrS {b k lo : Nat} {X : Heap} {v : Value} {l : List Span} {f : Option (Nat × Nat)} {gr : Tr (List Nat)} (h : OwnF b 2 X v l.length (l.flatMap spanC) f) (hk : k < b) (hl : l.length ≤ 9223372036854775807) : SLr RSpan 2 ⟨X.objs.del k, gr, X.next, lo⟩ v l := by
  obtain ⟨_, h⟩ := h
  match f, h with
  | none, ⟨h1, h2⟩ =>
    have : l = [] := List.eq_nil_of_length_eq_zero h2
    subst h1 this
    exact SLr.nil
  | some (r, g), ⟨h1, h2, h3, _, _, old, h6, _⟩ =>
    subst h1
    exact SLr.row RSpan.mono h3 ((delO_get _ _ _ (by omega)).trans h6) (elems_span _ l) ⟨Nat.le_refl _, fun x cells g t _ ho => ⟨t, ho⟩⟩ hl
end Go.AM
