/-
  Walks over letters of the functions that the law reaches.
-/
import Derived.Test.YtbkhcbddbefepaaGreatC2
import Derived.Test.YtbkhcbddbefepaaGreatB9
namespace Go.AM
attribute [local instance] fnMaps
open Go Go.Proofs
set_option maxRecDepth 100000
set_option maxHeartbeats 1000000
set_option linter.unusedSimpArgs false
theorem fn157 : E.fn.get 157 = some Tryz.f157 := by kernel_rfl
theorem stable_ok (H : Heap) (hlo : H.lo ≤ H.next) (v : Value) (l : List Span) (hv0 : SL RSpan 2 H v l) (hr : Rising l) (hl : l.length ≤ 100000) : CallA E (fnv 157) [v, .int .i64 l.length, fnv 156] H fun r H' => r = .tuple #[] ∧ Same H H' := by
  refine callA_fn (by kernel_rfl) fn157 rfl rfl ?_
  simp only [Tryz.f157]
  repeat' (first | refine boolP_dec (fun _ => ?_) (fun _ => ?_) | apply boolP_not | refine boolP_b (fun _ => ?_) (fun _ => ?_) | ((with_reducible show Qs _ _ _ _ _); first | refine hQe _ _ _ _ ?_ | refine hQr _ _ _ ?_) | simp (config := { maxSteps := 1000000 }) (disch := omega) only [↓sh, ↓sh2, ↓reduceIte, sx, sl, sb, st, nbeq_ne, dle, relo_eq, wrap_i64, Nat.reduceBEq, Nat.reduceLT, Nat.reduceLeDiff, Nat.reduceAdd, Nat.reduceMul, Nat.reduceEqDiff, Int.reduceEq, Int.reduceLT, Int.reduceLE, Int.reduceNeg, Int.reduceToNat, Bool.false_eq_true, eq_self, sa, *])
  refine wps_named2 (fun T1 H1 eT eH => ?_)
  have k1 : Ko H H1 := by rw [eH]; exact koW
  have n1 := congrArg Heap.next eH; have l1 := congrArg Heap.lo eH; have g1 := fun r => congrArg (fun h : Heap => h.objs.get r) eH
  try simp (disch := omega) only [sm, sl] at n1 l1 g1
  clear eH
  have u1_0 := congrArg (fun T : Tr Value => T.get 0) eT
  have u1_1 := congrArg (fun T : Tr Value => T.get 1) eT
  have u1_2 := congrArg (fun T : Tr Value => T.get 2) eT
  have u1_6 := congrArg (fun T : Tr Value => T.get 6) eT
  have u1_7 := congrArg (fun T : Tr Value => T.get 7) eT
  have u1_8 := congrArg (fun T : Tr Value => T.get 8) eT
  simp only [get_set, of_nil, of_1, of_2, of_3, of_4, of_5, Nat.reduceEqDiff, if_true, if_false, reduceIte] at u1_0 u1_1 u1_2 u1_6 u1_7 u1_8
  clear eT
  refine wp_loopN (by kernel_rfl) (fun nn T X => ∃ a : Nat, nn = l.length + 1 - a ∧ (T.get 7 = some (.int .i64 a) ∧ T.get 8 = some (.int .i64 (a + 20 : Nat))) ∧ (T.get 0 = T1.get 0 ∧ T.get 1 = T1.get 1 ∧ T.get 2 = T1.get 2 ∧ T.get 6 = T1.get 6) ∧ Ko H1 X ∧ X.lo = H1.lo ∧ (a ≤ l.length)) ?_ ?_
  · refine ⟨_, 0, rfl, ?_, ?_, Ko.refl _, rfl, by omega⟩ <;> exact nextW
  rintro nn T1' X1 ⟨a, rfl, m1, w1, kx1, lx1, hi⟩ Qs hQ hQr hQe
  have kX1 := k1.trans kx1; have nx1 := kx1.nxt; have gx1 := kx1.objs
  by_cases hlt : a + 20 ≤ l.length
  · repeat' (first | refine boolP_dec (fun _ => ?_) (fun _ => ?_) | apply boolP_not | refine boolP_b (fun _ => ?_) (fun _ => ?_) | ((with_reducible show CallA _ _ _ _ _); refine call_ko (H0 := H1) koW (insort_ok _ loW v l (hv0.ext RSpan.mono (Ko.ext koW)) hr a (a + 20) (by omega) (by omega) hl) ?_; intro H2 k2 l2 n2 g2 q2; try simp (disch := omega) only [sm, sl] at l2 n2 g2 q2) | ((with_reducible show Qs _ _ _ _ _); first | refine hQe _ _ _ _ ?_ | refine hQr _ _ _ ?_) | simp (config := { maxSteps := 1000000 }) (disch := omega) only [↓sh, ↓sh2, ↓reduceIte, sx, sl, sb, st, nbeq_ne, dle, relo_eq, wrap_i64, Nat.reduceBEq, Nat.reduceLT, Nat.reduceLeDiff, Nat.reduceAdd, Nat.reduceMul, Nat.reduceEqDiff, Int.reduceEq, Int.reduceLT, Int.reduceLE, Int.reduceNeg, Int.reduceToNat, Bool.false_eq_true, eq_self, sa, *])
    all_goals try omega
    refine hQ _ _ _ ?_ ⟨a + 20, rfl, ?_, ?_, ?_, ?_, by omega⟩ <;> exact nextW
  · repeat' (first | refine boolP_dec (fun _ => ?_) (fun _ => ?_) | apply boolP_not | refine boolP_b (fun _ => ?_) (fun _ => ?_) | ((with_reducible show CallA _ _ _ _ _); refine call_ko (H0 := H1) koW (insort_ok _ loW v l (hv0.ext RSpan.mono (Ko.ext koW)) hr a l.length (by omega) (by omega) hl) ?_; intro H2 k2 l2 n2 g2 q2; try simp (disch := omega) only [sm, sl] at l2 n2 g2 q2) | ((with_reducible show Qs _ _ _ _ _); first | refine hQe _ _ _ _ ?_ | refine hQr _ _ _ ?_) | simp (config := { maxSteps := 1000000 }) (disch := omega) only [↓sh, ↓sh2, ↓reduceIte, sx, sl, sb, st, nbeq_ne, dle, relo_eq, wrap_i64, Nat.reduceBEq, Nat.reduceLT, Nat.reduceLeDiff, Nat.reduceAdd, Nat.reduceMul, Nat.reduceEqDiff, Int.reduceEq, Int.reduceLT, Int.reduceLE, Int.reduceNeg, Int.reduceToNat, Bool.false_eq_true, eq_self, sa, *])
    all_goals try omega
    refine wps_named2 (fun T2 H2 eT eH => ?_)
    have k2 : Ko H H2 := by rw [eH]; exact koW
    have n2 := congrArg Heap.next eH; have l2 := congrArg Heap.lo eH; have g2 := fun r => congrArg (fun h : Heap => h.objs.get r) eH
    try simp (disch := omega) only [sm, sl] at n2 l2 g2
    clear eH
    have u2_0 := congrArg (fun T : Tr Value => T.get 0) eT
    have u2_1 := congrArg (fun T : Tr Value => T.get 1) eT
    have u2_2 := congrArg (fun T : Tr Value => T.get 2) eT
    have u2_6 := congrArg (fun T : Tr Value => T.get 6) eT
    simp only [get_set, of_nil, of_1, of_2, of_3, of_4, of_5, Nat.reduceEqDiff, if_true, if_false, reduceIte] at u2_0 u2_1 u2_2 u2_6
    clear eT
    refine wp_loopN (by kernel_rfl) (fun nn T X => ∃ k : Nat, nn = l.length - k ∧ (T.get 6 = some (.int .i64 k)) ∧ (T.get 0 = T2.get 0 ∧ T.get 1 = T2.get 1 ∧ T.get 2 = T2.get 2) ∧ True ∧ True ∧ (1 ≤ k ∧ k ≤ 200000 ∧ Ko H X ∧ X.lo = H.lo)) ?_ ?_
    · refine ⟨_, 20, rfl, ?_, ?_, trivial, trivial, ⟨by omega, by omega, ?_, ?_⟩⟩ <;> exact nextW
    rintro nn T2' X2 ⟨k, rfl, m2, w2, _, _, ⟨hk, hk2, kX2, lX2⟩⟩ Qs hQ hQr hQe
    have nX2 := kX2.nxt; have gX2 := kX2.objs
    by_cases hlt2 : k < l.length
    · repeat' (first | refine boolP_dec (fun _ => ?_) (fun _ => ?_) | apply boolP_not | refine boolP_b (fun _ => ?_) (fun _ => ?_) | ((with_reducible show Qs _ _ _ _ _); first | refine hQe _ _ _ _ ?_ | refine hQr _ _ _ ?_) | simp (config := { maxSteps := 1000000 }) (disch := omega) only [↓sh, ↓sh2, ↓reduceIte, sx, sl, sb, st, nbeq_ne, dle, relo_eq, wrap_i64, Nat.reduceBEq, Nat.reduceLT, Nat.reduceLeDiff, Nat.reduceAdd, Nat.reduceMul, Nat.reduceEqDiff, Int.reduceEq, Int.reduceLT, Int.reduceLE, Int.reduceNeg, Int.reduceToNat, Bool.false_eq_true, eq_self, sa, *])
      all_goals try omega
      have hQo := hQ
      refine wps_named2 (fun T3 H3 eT eH => ?_)
      have k3 : Ko H H3 := by rw [eH]; exact koW
      have n3 := congrArg Heap.next eH; have l3 := congrArg Heap.lo eH; have g3 := fun r => congrArg (fun h : Heap => h.objs.get r) eH
      try simp (disch := omega) only [sm, sl] at n3 l3 g3
      clear eH
      have u3_0 := congrArg (fun T : Tr Value => T.get 0) eT
      have u3_1 := congrArg (fun T : Tr Value => T.get 1) eT
      have u3_2 := congrArg (fun T : Tr Value => T.get 2) eT
      have u3_6 := congrArg (fun T : Tr Value => T.get 6) eT
      have u3_7 := congrArg (fun T : Tr Value => T.get 7) eT
      have u3_8 := congrArg (fun T : Tr Value => T.get 8) eT
      simp only [get_set, of_nil, of_1, of_2, of_3, of_4, of_5, Nat.reduceEqDiff, if_true, if_false, reduceIte] at u3_0 u3_1 u3_2 u3_6 u3_7 u3_8
      clear eT
      refine wp_loopN (by kernel_rfl) (fun nn T X => ∃ a : Nat, nn = l.length + 1 - a ∧ (T.get 7 = some (.int .i64 a) ∧ T.get 8 = some (.int .i64 (a + 2 * k : Nat))) ∧ (T.get 0 = T3.get 0 ∧ T.get 1 = T3.get 1 ∧ T.get 2 = T3.get 2 ∧ T.get 6 = T3.get 6) ∧ Ko H3 X ∧ X.lo = H3.lo ∧ (a ≤ l.length)) ?_ ?_
      · refine ⟨_, 0, rfl, ?_, ?_, Ko.refl _, rfl, by omega⟩ <;> exact nextW
      rintro nn T3' X3 ⟨a, rfl, m3, w3, kx3, lx3, hi⟩ Qs hQ hQr hQe
      have kX3 := k3.trans kx3; have nx3 := kx3.nxt; have gx3 := kx3.objs
      by_cases hlt3 : a + 2 * k ≤ l.length
      · repeat' (first | refine boolP_dec (fun _ => ?_) (fun _ => ?_) | apply boolP_not | refine boolP_b (fun _ => ?_) (fun _ => ?_) | ((with_reducible show CallA _ _ _ _ _); refine call_ko (H0 := H3) koW (symm_ok (a + 2 * k) _ loW v l (hv0.ext RSpan.mono (Ko.ext koW)) hr a (a + k) (a + 2 * k) (by omega) (by omega) (by omega) (by omega) hl) ?_; intro H2 k2 l2 n2 g2 q2; try simp (disch := omega) only [sm, sl] at l2 n2 g2 q2) | ((with_reducible show Qs _ _ _ _ _); first | refine hQe _ _ _ _ ?_ | refine hQr _ _ _ ?_) | simp (config := { maxSteps := 1000000 }) (disch := omega) only [↓sh, ↓sh2, ↓reduceIte, sx, sl, sb, st, nbeq_ne, dle, relo_eq, wrap_i64, Nat.reduceBEq, Nat.reduceLT, Nat.reduceLeDiff, Nat.reduceAdd, Nat.reduceMul, Nat.reduceEqDiff, Int.reduceEq, Int.reduceLT, Int.reduceLE, Int.reduceNeg, Int.reduceToNat, Bool.false_eq_true, eq_self, sa, *])
        all_goals try omega
        refine hQ _ _ _ ?_ ⟨a + 2 * k, rfl, ?_, ?_, ?_, ?_, by omega⟩ <;> exact nextW
      · by_cases hlt4 : a + k < l.length
        · repeat' (first | refine boolP_dec (fun _ => ?_) (fun _ => ?_) | apply boolP_not | refine boolP_b (fun _ => ?_) (fun _ => ?_) | ((with_reducible show CallA _ _ _ _ _); refine call_ko (H0 := H3) koW (symm_ok l.length _ loW v l (hv0.ext RSpan.mono (Ko.ext koW)) hr a (a + k) l.length (by omega) (by omega) (by omega) (by omega) hl) ?_; intro H2 k2 l2 n2 g2 q2; try simp (disch := omega) only [sm, sl] at l2 n2 g2 q2) | ((with_reducible show Qs _ _ _ _ _); first | refine hQe _ _ _ _ ?_ | refine hQr _ _ _ ?_) | simp (config := { maxSteps := 1000000 }) (disch := omega) only [↓sh, ↓sh2, ↓reduceIte, sx, sl, sb, st, nbeq_ne, dle, relo_eq, wrap_i64, Nat.reduceBEq, Nat.reduceLT, Nat.reduceLeDiff, Nat.reduceAdd, Nat.reduceMul, Nat.reduceEqDiff, Int.reduceEq, Int.reduceLT, Int.reduceLE, Int.reduceNeg, Int.reduceToNat, Bool.false_eq_true, eq_self, sa, *])
          all_goals try omega
          have hQ := hQo
          refine hQ _ _ _ ?_ ⟨k * 2, rfl, ?_, ?_, trivial, trivial, ⟨by omega, by omega, ?_, ?_⟩⟩ <;> exact nextW
        · repeat' (first | refine boolP_dec (fun _ => ?_) (fun _ => ?_) | apply boolP_not | refine boolP_b (fun _ => ?_) (fun _ => ?_) | ((with_reducible show Qs _ _ _ _ _); first | refine hQe _ _ _ _ ?_ | refine hQr _ _ _ ?_) | simp (config := { maxSteps := 1000000 }) (disch := omega) only [↓sh, ↓sh2, ↓reduceIte, sx, sl, sb, st, nbeq_ne, dle, relo_eq, wrap_i64, Nat.reduceBEq, Nat.reduceLT, Nat.reduceLeDiff, Nat.reduceAdd, Nat.reduceMul, Nat.reduceEqDiff, Int.reduceEq, Int.reduceLT, Int.reduceLE, Int.reduceNeg, Int.reduceToNat, Bool.false_eq_true, eq_self, sa, *])
          all_goals try omega
          have hQ := hQo
          refine hQ _ _ _ ?_ ⟨k * 2, rfl, ?_, ?_, trivial, trivial, ⟨by omega, by omega, ?_, ?_⟩⟩ <;> exact nextW
    · repeat' (first | refine boolP_dec (fun _ => ?_) (fun _ => ?_) | apply boolP_not | refine boolP_b (fun _ => ?_) (fun _ => ?_) | ((with_reducible show Qs _ _ _ _ _); first | refine hQe _ _ _ _ ?_ | refine hQr _ _ _ ?_) | simp (config := { maxSteps := 1000000 }) (disch := omega) only [↓sh, ↓sh2, ↓reduceIte, sx, sl, sb, st, nbeq_ne, dle, relo_eq, wrap_i64, Nat.reduceBEq, Nat.reduceLT, Nat.reduceLeDiff, Nat.reduceAdd, Nat.reduceMul, Nat.reduceEqDiff, Int.reduceEq, Int.reduceLT, Int.reduceLE, Int.reduceNeg, Int.reduceToNat, Bool.false_eq_true, eq_self, sa, *])
      all_goals first
        | (first | (with_reducible exact sameW) | ((with_reducible show _ ∧ _); exact ⟨by first | rfl | (simp [*] <;> omega), sameW⟩))
        | omega
theorem fn155 : E.fn.get 155 = some Tryz.f155 := by kernel_rfl
theorem sortst_ok (H : Heap) (hlo : H.lo ≤ H.next) (v : Value) (l : List Span) (hv0 : SL RSpan 2 H v l) (hr : Rising l) (hl : l.length ≤ 100000) : CallA E (fnv 155) [v, fnv 156] H fun r H' => r = .tuple #[] ∧ Same H H' := by
  have hc := stable_ok H hlo v l hv0 hr hl
  obtain ⟨ad, ca, rfl, _⟩ := hv0
  refine callA_fn (by kernel_rfl) fn155 rfl rfl ?_
  simp only [Tryz.f155]
  repeat' (first | refine boolP_dec (fun _ => ?_) (fun _ => ?_) | apply boolP_not | refine boolP_b (fun _ => ?_) (fun _ => ?_) | ((with_reducible show CallA _ _ _ _ _); refine call_ko (H0 := H) koW (hc) ?_; intro H2 k2 l2 n2 g2 q2; try simp (disch := omega) only [sm, sl] at l2 n2 g2 q2) | ((with_reducible show Qs _ _ _ _ _); first | refine hQe _ _ _ _ ?_ | refine hQr _ _ _ ?_) | simp (config := { maxSteps := 1000000 }) (disch := omega) only [↓sh, ↓sh2, ↓reduceIte, sx, sl, sb, st, nbeq_ne, dle, relo_eq, wrap_i64, Nat.reduceBEq, Nat.reduceLT, Nat.reduceLeDiff, Nat.reduceAdd, Nat.reduceMul, Nat.reduceEqDiff, Int.reduceEq, Int.reduceLT, Int.reduceLE, Int.reduceNeg, Int.reduceToNat, Bool.false_eq_true, eq_self, sa, *])
  (first | (with_reducible exact sameW) | ((with_reducible show _ ∧ _); exact ⟨by first | rfl | (simp [*] <;> omega), sameW⟩))
end Go.AM
