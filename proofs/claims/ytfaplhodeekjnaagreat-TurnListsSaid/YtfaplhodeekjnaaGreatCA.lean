/-
  Walks over letters of the functions that the law reaches.
-/
import Derived.Test.YtfaplhodeekjnaaGreatB1
namespace Go.AM
attribute [local instance] fnMaps
open Go Go.Proofs
set_option maxRecDepth 100000
set_option maxHeartbeats 1000000
set_option linter.unusedSimpArgs false
def cmpI (a b : Int) : Int := if a < b then -1 else if b < a then 1 else 0
theorem fn117 : E.fn.get 117 = some Tryz.f117 := by kernel_rfl
theorem nan_ok (H : Heap) (hlo : H.lo ≤ H.next) (a : Int) : CallA E (fnv 117) [.int .i64 a] H fun r H' => r = .bool false ∧ Same H H' := by
  refine callA_fn (by kernel_rfl) fn117 rfl rfl ?_
  simp only [Tryz.f117]
  repeat' (first | refine boolP_dec (fun _ => ?_) (fun _ => ?_) | apply boolP_not | refine boolP_b (fun _ => ?_) (fun _ => ?_) | ((with_reducible show Qs _ _ _ _ _); first | refine hQe _ _ _ _ ?_ | refine hQr _ _ _ ?_) | simp (config := { maxSteps := 1000000 }) (disch := omega) only [↓sh, ↓sh2, ↓reduceIte, sx, sl, sb, st, nbeq_ne, dle, relo_eq, wrap_i64, Nat.reduceBEq, Nat.reduceLT, Nat.reduceLeDiff, Nat.reduceAdd, Nat.reduceMul, Nat.reduceEqDiff, Int.reduceEq, Int.reduceLT, Int.reduceLE, Int.reduceNeg, Int.reduceToNat, Bool.false_eq_true, eq_self, sa, *])
  (first | (with_reducible exact sameW) | ((with_reducible show _ ∧ _); exact ⟨by first | rfl | (simp [*] <;> omega), sameW⟩))
theorem fn114 : E.fn.get 114 = some Tryz.f114 := by kernel_rfl
theorem compare_ok (H : Heap) (hlo : H.lo ≤ H.next) (a b : Int) : CallA E (fnv 114) [.int .i64 a, .int .i64 b] H fun r H' => r = .int .i64 (cmpI a b) ∧ Same H H' := by
  refine callA_fn (by kernel_rfl) fn114 rfl rfl ?_
  simp only [Tryz.f114]
  repeat' (first | refine boolP_dec (fun _ => ?_) (fun _ => ?_) | apply boolP_not | refine boolP_b (fun _ => ?_) (fun _ => ?_) | ((with_reducible show CallA _ _ _ _ _); refine call_ko (H0 := H) koW (nan_ok _ loW _) ?_; intro H2 k2 l2 n2 g2 q2; try simp (disch := omega) only [sm, sl] at l2 n2 g2 q2) | ((with_reducible show Qs _ _ _ _ _); first | refine hQe _ _ _ _ ?_ | refine hQr _ _ _ ?_) | simp (config := { maxSteps := 1000000 }) (disch := omega) only [↓sh, ↓sh2, ↓reduceIte, sx, sl, sb, st, nbeq_ne, dle, relo_eq, wrap_i64, Nat.reduceBEq, Nat.reduceLT, Nat.reduceLeDiff, Nat.reduceAdd, Nat.reduceMul, Nat.reduceEqDiff, Int.reduceEq, Int.reduceLT, Int.reduceLE, Int.reduceNeg, Int.reduceToNat, Bool.false_eq_true, eq_self, sa, *])
  all_goals (first | (with_reducible exact sameW) | ((with_reducible show _ ∧ _); exact ⟨by first | rfl | (simp [cmpI, *] <;> omega), sameW⟩))
def or2 (a b : Int) : Int := if a = 0 then b else a
theorem fn113 : E.fn.get 113 = some Tryz.f113 := by kernel_rfl
theorem or_ok (H : Heap) (hlo : H.lo ≤ H.next) (r0 : Nat) (a b : Int) (hr : r0 < H.next) (hrow : H.objs.get r0 = some (.row [.int .i64 a, .int .i64 b] none true)) : CallA E (fnv 113) [.slice (some ⟨r0, 0, none⟩) 2 2] H fun r H' => r = .int .i64 (or2 a b) ∧ Same H H' := by
  refine callA_fn (by kernel_rfl) fn113 rfl rfl ?_
  simp only [Tryz.f113]
  repeat' (first | refine boolP_dec (fun _ => ?_) (fun _ => ?_) | apply boolP_not | refine boolP_b (fun _ => ?_) (fun _ => ?_) | ((with_reducible show Qs _ _ _ _ _); first | refine hQe _ _ _ _ ?_ | refine hQr _ _ _ ?_) | simp (config := { maxSteps := 1000000 }) (disch := omega) only [↓sh, ↓sh2, ↓reduceIte, sx, sl, sb, st, nbeq_ne, dle, relo_eq, wrap_i64, Nat.reduceBEq, Nat.reduceLT, Nat.reduceLeDiff, Nat.reduceAdd, Nat.reduceMul, Nat.reduceEqDiff, Int.reduceEq, Int.reduceLT, Int.reduceLE, Int.reduceNeg, Int.reduceToNat, Bool.false_eq_true, eq_self, sa, *])
  refine wps_named2 (fun T1 H1 eT eH => ?_)
  have k1 : Ko H H1 := by rw [eH]; exact koW
  have n1 := congrArg Heap.next eH; have l1 := congrArg Heap.lo eH; have g1 := fun r => congrArg (fun h : Heap => h.objs.get r) eH
  try simp (disch := omega) only [sm, sl] at n1 l1 g1
  clear eH
  have u1_3 := congrArg (fun T : Tr Value => T.get 3) eT
  have u1_6 := congrArg (fun T : Tr Value => T.get 6) eT
  have u1_7 := congrArg (fun T : Tr Value => T.get 7) eT
  have u1_8 := congrArg (fun T : Tr Value => T.get 8) eT
  simp only [get_set, of_nil, of_1, of_2, of_3, of_4, of_5, Nat.reduceEqDiff, if_true, if_false, reduceIte] at u1_3 u1_6 u1_7 u1_8
  clear eT
  refine wp_loopN (by kernel_rfl) (fun nn T X => ∃ i : Nat, nn = 2 - i ∧ (T.get 8 = some (.int .i64 i)) ∧ (T.get 3 = T1.get 3 ∧ T.get 6 = T1.get 6 ∧ T.get 7 = T1.get 7) ∧ Ko H1 X ∧ X.lo = H1.lo ∧ (i ≤ 2 ∧ (0 < i → a = 0) ∧ (1 < i → b = 0))) ?_ ?_
  · refine ⟨_, 0, rfl, ?_, ?_, Ko.refl _, rfl, ⟨by omega, by omega, by omega⟩⟩ <;> exact nextW
  rintro nn T1' X1 ⟨i, rfl, m1, w1, kx1, lx1, ⟨hi, ha, hb⟩⟩ Qs hQ hQr hQe
  have kX1 := k1.trans kx1; have nx1 := kx1.nxt; have gx1 := kx1.objs
  have e1 := kX1.objs r0 hr
  match i, hi with
  | 0, _ =>
    have a1 : at? ((0 : Nat) : Int) 2 = some 0 := rfl
    repeat' (first | refine boolP_dec (fun _ => ?_) (fun _ => ?_) | apply boolP_not | refine boolP_b (fun _ => ?_) (fun _ => ?_) | ((with_reducible show Qs _ _ _ _ _); first | refine hQe _ _ _ _ ?_ | refine hQr _ _ _ ?_) | simp (config := { maxSteps := 1000000 }) (disch := omega) only [↓sh, ↓sh2, ↓reduceIte, sx, sl, sb, st, nbeq_ne, dle, relo_eq, wrap_i64, Nat.reduceBEq, Nat.reduceLT, Nat.reduceLeDiff, Nat.reduceAdd, Nat.reduceMul, Nat.reduceEqDiff, Int.reduceEq, Int.reduceLT, Int.reduceLE, Int.reduceNeg, Int.reduceToNat, Bool.false_eq_true, eq_self, sa, *, Int.natCast_zero])
    all_goals first
      | (refine hQ _ _ _ ?_ ⟨1, rfl, ?_, ?_, ?_, ?_, ⟨by omega, fun _ => by assumption, by omega⟩⟩ <;> exact nextW)
      | (first | (with_reducible exact sameW) | ((with_reducible show _ ∧ _); exact ⟨by first | rfl | (simp [or2, *] <;> omega), sameW⟩))
      | omega
  | 1, _ =>
    have a1 : at? ((1 : Nat) : Int) 2 = some 1 := rfl
    repeat' (first | refine boolP_dec (fun _ => ?_) (fun _ => ?_) | apply boolP_not | refine boolP_b (fun _ => ?_) (fun _ => ?_) | ((with_reducible show Qs _ _ _ _ _); first | refine hQe _ _ _ _ ?_ | refine hQr _ _ _ ?_) | simp (config := { maxSteps := 1000000 }) (disch := omega) only [↓sh, ↓sh2, ↓reduceIte, sx, sl, sb, st, nbeq_ne, dle, relo_eq, wrap_i64, Nat.reduceBEq, Nat.reduceLT, Nat.reduceLeDiff, Nat.reduceAdd, Nat.reduceMul, Nat.reduceEqDiff, Int.reduceEq, Int.reduceLT, Int.reduceLE, Int.reduceNeg, Int.reduceToNat, Bool.false_eq_true, eq_self, sa, *, Int.natCast_one])
    all_goals first
      | (refine hQ _ _ _ ?_ ⟨2, rfl, ?_, ?_, ?_, ?_, ⟨by omega, by omega, fun _ => by assumption⟩⟩ <;> exact nextW)
      | (first | (with_reducible exact sameW) | ((with_reducible show _ ∧ _); exact ⟨by first | rfl | (simp [or2, *] <;> omega), sameW⟩))
      | omega
  | 2, _ =>
    have ha := ha (by omega)
    have hb := hb (by omega)
    repeat' (first | refine boolP_dec (fun _ => ?_) (fun _ => ?_) | apply boolP_not | refine boolP_b (fun _ => ?_) (fun _ => ?_) | ((with_reducible show Qs _ _ _ _ _); first | refine hQe _ _ _ _ ?_ | refine hQr _ _ _ ?_) | simp (config := { maxSteps := 1000000 }) (disch := omega) only [↓sh, ↓sh2, ↓reduceIte, sx, sl, sb, st, nbeq_ne, dle, relo_eq, wrap_i64, Nat.reduceBEq, Nat.reduceLT, Nat.reduceLeDiff, Nat.reduceAdd, Nat.reduceMul, Nat.reduceEqDiff, Int.reduceEq, Int.reduceLT, Int.reduceLE, Int.reduceNeg, Int.reduceToNat, Bool.false_eq_true, eq_self, sa, *])
    all_goals first
      | (first | (with_reducible exact sameW) | ((with_reducible show _ ∧ _); exact ⟨by first | rfl | (simp [or2, *] <;> omega), sameW⟩))
      | omega
def byI (x y : Span) : Int := or2 (cmpI x.at' y.at') (cmpI x.size y.size)
theorem fn110 : E.fn.get 110 = some Tryz.f110 := by kernel_rfl
theorem by_ok (H : Heap) (hlo : H.lo ≤ H.next) (x y : Span) : CallA E (fnv 110) [spanV x, spanV y] H fun r H' => r = .int .i64 (byI x y) ∧ Same H H' := by
  refine callA_fn (by kernel_rfl) fn110 rfl rfl ?_
  simp only [Tryz.f110]
  simp only [spanV]
  repeat' (first | refine boolP_dec (fun _ => ?_) (fun _ => ?_) | apply boolP_not | refine boolP_b (fun _ => ?_) (fun _ => ?_) | refine wps_draw (id := 1) [Fx, Fx, Fx, Fx, Tx, Fx, Fx, Fx, Fx, Fx, Fx, Fx, Fx] (by kernel_rfl) ?_ | ((with_reducible show CallA _ _ _ _ _); (first | refine call_ko (H0 := H) koW (compare_ok _ loW _ _) ?_ | refine call_ko (H0 := H) koW (or_ok _ loW _ (cmpI x.at' y.at') (cmpI x.size y.size) loW (by simp (disch := omega) only [setRow_get, newRow_get, newRow_next, setRow_next, newRow_lo, setRow_lo, newRow_grps, setRow_grps, newRow_relo, setRow_relo, relo_objs, relo_next, relo_lo, nbeq_ne, sl])) ?_); intro H2 k2 l2 n2 g2 q2; try simp (disch := omega) only [sm, sl] at l2 n2 g2 q2) | ((with_reducible show Qs _ _ _ _ _); first | refine hQe _ _ _ _ ?_ | refine hQr _ _ _ ?_) | simp (config := { maxSteps := 1000000 }) (disch := omega) only [↓sh, ↓sh2, ↓reduceIte, sx, sl, sb, st, nbeq_ne, dle, relo_eq, wrap_i64, Nat.reduceBEq, Nat.reduceLT, Nat.reduceLeDiff, Nat.reduceAdd, Nat.reduceMul, Nat.reduceEqDiff, Int.reduceEq, Int.reduceLT, Int.reduceLE, Int.reduceNeg, Int.reduceToNat, Bool.false_eq_true, eq_self, sa, ble_dec, repeat_succ, repeat_zero, List.nil_append, List.cons_append, List.length_cons, List.length_nil, List.drop_succ_cons, List.drop_zero, *])
  all_goals (first | (with_reducible exact sameW) | ((with_reducible show _ ∧ _); exact ⟨by first | rfl | (simp [byI, *] <;> omega), sameW⟩))
def Rising (l : List Span) : Prop := ∀ (i j : Nat) (x y : Span), i < j → l[i]? = some x → l[j]? = some y → x.at' < y.at'
theorem byI_lt {x y : Span} (h : x.at' < y.at') : byI y x = 1 ∧ byI x y = -1 := by
  unfold byI or2 cmpI
  have h1 : ¬ y.at' < x.at' := by omega
  simp [h, h1]
def RSpan : Heap → List Value → Span → Prop := fun _ part x => part = [.int .i64 x.at', .int .i64 x.size]
theorem RSpan.mono : Mono RSpan := fun _ _ _ _ _ h => h
theorem fn115 : E.fn.get 115 = some Tryz.f115 := by kernel_rfl
theorem insort_ok (H : Heap) (hlo : H.lo ≤ H.next) (v : Value) (l : List Span) (hv : SL RSpan 2 H v l) (hr : Rising l) (a b : Nat) (hab : a ≤ b) (hb : b ≤ l.length) (hl : l.length ≤ 100000) : CallA E (fnv 115) [v, .int .i64 a, .int .i64 b, fnv 110] H fun r H' => r = .tuple #[] ∧ Same H H' := by
  obtain ⟨ad, ca, rfl, ⟨_, hma⟩, hla⟩ := hv
  refine callA_fn (by kernel_rfl) fn115 rfl rfl ?_
  simp only [Tryz.f115]
  repeat' (first | refine boolP_dec (fun _ => ?_) (fun _ => ?_) | apply boolP_not | refine boolP_b (fun _ => ?_) (fun _ => ?_) | refine wps_draw (id := 4) [Fx, Fx, Fx, Fx, Fx, Fx, Fx, Fx, Fx, Fx, Fx, Fx, Fx, Fx, Fx, Fx, Fx] (by kernel_rfl) ?_ | refine wps_draw (id := 6) [Fx, Fx, Fx, Fx, Fx, Fx, Fx, Fx, Fx, Fx, Fx, Fx, Fx, Fx, Fx, Fx, Fx, Fx] (by kernel_rfl) ?_ | ((with_reducible show Qs _ _ _ _ _); first | refine hQe _ _ _ _ ?_ | refine hQr _ _ _ ?_) | simp (config := { maxSteps := 1000000 }) (disch := omega) only [↓sh, ↓sh2, ↓reduceIte, sx, sl, sb, st, nbeq_ne, dle, relo_eq, wrap_i64, Nat.reduceBEq, Nat.reduceLT, Nat.reduceLeDiff, Nat.reduceAdd, Nat.reduceMul, Nat.reduceEqDiff, Int.reduceEq, Int.reduceLT, Int.reduceLE, Int.reduceNeg, Int.reduceToNat, Bool.false_eq_true, eq_self, sa, *])
  refine wps_named2 (fun T1 H1 eT eH => ?_)
  have k1 : Ko H H1 := by rw [eH]; exact koW
  have n1 := congrArg Heap.next eH; have l1 := congrArg Heap.lo eH; have g1 := fun r => congrArg (fun h : Heap => h.objs.get r) eH
  try simp (disch := omega) only [sm, sl] at n1 l1 g1
  clear eH
  have u1_0 := congrArg (fun T : Tr Value => T.get 0) eT
  have u1_1 := congrArg (fun T : Tr Value => T.get 1) eT
  have u1_2 := congrArg (fun T : Tr Value => T.get 2) eT
  have u1_3 := congrArg (fun T : Tr Value => T.get 3) eT
  have u1_8 := congrArg (fun T : Tr Value => T.get 8) eT
  simp only [get_set, of_nil, of_1, of_2, of_3, of_4, of_5, Nat.reduceEqDiff, if_true, if_false, reduceIte] at u1_0 u1_1 u1_2 u1_3 u1_8
  clear eT
  refine wp_loopN (by kernel_rfl) (fun nn T X => ∃ i : Nat, nn = b - i ∧ (T.get 8 = some (.int .i64 i)) ∧ (T.get 0 = T1.get 0 ∧ T.get 1 = T1.get 1 ∧ T.get 2 = T1.get 2 ∧ T.get 3 = T1.get 3) ∧ True ∧ True ∧ (a < i ∧ i ≤ max b (a + 1) ∧ Ko H X ∧ X.lo = H.lo)) ?_ ?_
  · refine ⟨_, a + 1, rfl, ?_, ?_, trivial, trivial, ⟨by omega, by omega, by assumption, by assumption⟩⟩ <;> exact nextW
  rintro nn T1' X1 ⟨i, rfl, m1, w1, _, _, ⟨hi, hi2, kX1, lX1⟩⟩ Qs hQ hQr hQe
  have nX1 := kX1.nxt; have gX1 := kX1.objs
  by_cases hlt : i < b
  · repeat' (first | refine boolP_dec (fun _ => ?_) (fun _ => ?_) | apply boolP_not | refine boolP_b (fun _ => ?_) (fun _ => ?_) | refine wps_draw (id := 4) [Fx, Fx, Fx, Fx, Fx, Fx, Fx, Fx, Fx, Fx, Fx, Fx, Fx, Fx, Fx, Fx, Fx] (by kernel_rfl) ?_ | refine wps_draw (id := 6) [Fx, Fx, Fx, Fx, Fx, Fx, Fx, Fx, Fx, Fx, Fx, Fx, Fx, Fx, Fx, Fx, Fx, Fx] (by kernel_rfl) ?_ | ((with_reducible show Qs _ _ _ _ _); first | refine hQe _ _ _ _ ?_ | refine hQr _ _ _ ?_) | simp (config := { maxSteps := 1000000 }) (disch := omega) only [↓sh, ↓sh2, ↓reduceIte, sx, sl, sb, st, nbeq_ne, dle, relo_eq, wrap_i64, Nat.reduceBEq, Nat.reduceLT, Nat.reduceLeDiff, Nat.reduceAdd, Nat.reduceMul, Nat.reduceEqDiff, Int.reduceEq, Int.reduceLT, Int.reduceLE, Int.reduceNeg, Int.reduceToNat, Bool.false_eq_true, eq_self, sa, *])
    all_goals try omega
    have hQo := hQ
    refine wps_named2 (fun T2 H2 eT eH => ?_)
    have k2 : Ko H H2 := by rw [eH]; exact koW
    have n2 := congrArg Heap.next eH; have l2 := congrArg Heap.lo eH; have g2 := fun r => congrArg (fun h : Heap => h.objs.get r) eH
    try simp (disch := omega) only [sm, sl] at n2 l2 g2
    clear eH
    have u2_0 := congrArg (fun T : Tr Value => T.get 0) eT
    have u2_1 := congrArg (fun T : Tr Value => T.get 1) eT
    have u2_2 := congrArg (fun T : Tr Value => T.get 2) eT
    have u2_3 := congrArg (fun T : Tr Value => T.get 3) eT
    have u2_8 := congrArg (fun T : Tr Value => T.get 8) eT
    have u2_9 := congrArg (fun T : Tr Value => T.get 9) eT
    simp only [get_set, of_nil, of_1, of_2, of_3, of_4, of_5, Nat.reduceEqDiff, if_true, if_false, reduceIte] at u2_0 u2_1 u2_2 u2_3 u2_8 u2_9
    clear eT
    refine wp_loopN (by kernel_rfl) (fun nn T X => nn = 0 ∧ (T.get 9 = some (.int .i64 i)) ∧ (T.get 0 = T2.get 0 ∧ T.get 1 = T2.get 1 ∧ T.get 2 = T2.get 2 ∧ T.get 3 = T2.get 3 ∧ T.get 8 = T2.get 8) ∧ Ko H2 X ∧ X.lo = H2.lo ∧ (True)) ?_ ?_
    · refine ⟨_, rfl, ?_, ?_, Ko.refl _, rfl, trivial⟩ <;> exact nextW
    rintro nn T2' X2 ⟨rfl, m2, w2, kx2, lx2, _⟩ Qs hQ hQr hQe
    have kX2 := k2.trans kx2; have nx2 := kx2.nxt; have gx2 := kx2.objs
    obtain ⟨r, o, cells, gg, tt, part, rfl, hr1, hrow, hcut, rfl⟩ := hla i l[i] (by simp)
    obtain ⟨r', o', cells', gg', tt', part', e, hr2, hrow', hcut', rfl⟩ := hla (i - 1) l[i - 1] (by simp)
    cases e
    rw [hrow] at hrow'
    cases hrow'
    have hby := (byI_lt (hr (i - 1) i l[i - 1] l[i] (by omega) (by simp) (by simp))).1
    have a1 := at_nat (show i < l.length by omega)
    have a2 : at? ((i : Int) - 1) l.length = some (i - 1) := by rw [show (i : Int) - 1 = ((i - 1 : Nat) : Int) by omega]; exact at_nat (by omega)
    have e1 := kX2.objs r hr1
    have a3 : ((i : Int) - 1).toNat = i - 1 := by omega
    repeat' (first | refine boolP_dec (fun _ => ?_) (fun _ => ?_) | apply boolP_not | refine boolP_b (fun _ => ?_) (fun _ => ?_) | refine wps_draw (id := 4) [Fx, Fx, Fx, Fx, Fx, Fx, Fx, Fx, Fx, Fx, Fx, Fx, Fx, Fx, Fx, Fx, Fx] (by kernel_rfl) ?_ | refine wps_draw (id := 6) [Fx, Fx, Fx, Fx, Fx, Fx, Fx, Fx, Fx, Fx, Fx, Fx, Fx, Fx, Fx, Fx, Fx, Fx] (by kernel_rfl) ?_ | ((with_reducible show CallA _ _ _ _ _); refine call_ko (H0 := H) koW (by_ok _ loW _ _) ?_; intro H2 k2 l2 n2 g2 q2; try simp (disch := omega) only [sm, sl] at l2 n2 g2 q2) | ((with_reducible show Qs _ _ _ _ _); first | refine hQe _ _ _ _ ?_ | refine hQr _ _ _ ?_) | simp (config := { maxSteps := 1000000 }) (disch := omega) only [↓sh, ↓sh2, ↓reduceIte, sx, sl, sb, st, nbeq_ne, dle, relo_eq, wrap_i64, Nat.reduceBEq, Nat.reduceLT, Nat.reduceLeDiff, Nat.reduceAdd, Nat.reduceMul, Nat.reduceEqDiff, Int.reduceEq, Int.reduceLT, Int.reduceLE, Int.reduceNeg, Int.reduceToNat, Bool.false_eq_true, eq_self, sa, *])
    all_goals try omega
    have hQ := hQo
    refine hQ _ _ _ ?_ ⟨i + 1, rfl, ?_, ?_, trivial, trivial, ⟨by omega, by omega, ?_, ?_⟩⟩ <;> exact nextW
  · repeat' (first | refine boolP_dec (fun _ => ?_) (fun _ => ?_) | apply boolP_not | refine boolP_b (fun _ => ?_) (fun _ => ?_) | refine wps_draw (id := 4) [Fx, Fx, Fx, Fx, Fx, Fx, Fx, Fx, Fx, Fx, Fx, Fx, Fx, Fx, Fx, Fx, Fx] (by kernel_rfl) ?_ | refine wps_draw (id := 6) [Fx, Fx, Fx, Fx, Fx, Fx, Fx, Fx, Fx, Fx, Fx, Fx, Fx, Fx, Fx, Fx, Fx, Fx] (by kernel_rfl) ?_ | ((with_reducible show Qs _ _ _ _ _); first | refine hQe _ _ _ _ ?_ | refine hQr _ _ _ ?_) | simp (config := { maxSteps := 1000000 }) (disch := omega) only [↓sh, ↓sh2, ↓reduceIte, sx, sl, sb, st, nbeq_ne, dle, relo_eq, wrap_i64, Nat.reduceBEq, Nat.reduceLT, Nat.reduceLeDiff, Nat.reduceAdd, Nat.reduceMul, Nat.reduceEqDiff, Int.reduceEq, Int.reduceLT, Int.reduceLE, Int.reduceNeg, Int.reduceToNat, Bool.false_eq_true, eq_self, sa, *])
    · omega
    (first | (with_reducible exact sameW) | ((with_reducible show _ ∧ _); exact ⟨by first | rfl | (simp [*] <;> omega), sameW⟩))
end Go.AM
namespace Go.AM
attribute [local instance] fnMaps
open Go Go.Proofs
set_option maxRecDepth 100000
set_option maxHeartbeats 1000000
set_option linter.unusedSimpArgs false
theorem mid_eq (a b : Nat) : ((a : Int) + b).fdiv (2 ^ (min 1 (IntKind.bits .u64))) = ((a + b) / 2 : Nat) := by
  have : (min 1 (IntKind.bits .u64)) = 1 := rfl
  rw [this, Int.fdiv_eq_ediv_of_nonneg _ (by omega)]
  omega
theorem by_less {l : List Span} (hr : Rising l) {i j : Nat} (hij : i < j) (hj : j < l.length) : byI l[j] l[i] = 1 ∧ byI l[i] l[j] = -1 :=
  byI_lt (hr i j l[i] l[j] hij (List.getElem?_eq_getElem (by omega)) (List.getElem?_eq_getElem hj))
theorem fn116 : E.fn.get 116 = some Tryz.f116 := by kernel_rfl
theorem symm_ok (n : Nat) : ∀ (H : Heap) (_ : H.lo ≤ H.next) (v : Value) (l : List Span) (_ : SL RSpan 2 H v l) (_ : Rising l) (a m b : Nat) (_ : b - a ≤ n) (_ : a < m) (_ : m < b) (_ : b ≤ l.length) (_ : l.length ≤ 100000), CallA E (fnv 116) [v, .int .i64 a, .int .i64 m, .int .i64 b, fnv 110] H fun r H' => r = .tuple #[] ∧ Same H H' := by
  induction n
  · intros; omega
  rename_i n ih
  intro H hlo v l hv0 hr a m b hn ham hmb hb hl
  have hv := hv0
  obtain ⟨ad, ca, rfl, ⟨_, hma⟩, hla⟩ := hv
  obtain ⟨r, o, cells, gg, tt, part, rfl, hr1, hrow, -⟩ := hla a l[a] (by simp)
  have hcut : ∀ i (hi : i < l.length), cut cells (o + i * 2) 2 = some [.int .i64 l[i].at', .int .i64 l[i].size] := fun i hi => by
    obtain ⟨r', o', cells', gg', tt', part', e, hr2, hrow', hcut', e2⟩ := hla i l[i] (by simp)
    cases e
    rw [hrow] at hrow'
    cases hrow'
    rw [hcut', e2]
  have hmid := mid_eq a b
  refine callA_fn (by kernel_rfl) fn116 rfl rfl ?_
  simp only [Tryz.f116]
  repeat' (first | refine boolP_dec (fun _ => ?_) (fun _ => ?_) | apply boolP_not | refine boolP_b (fun _ => ?_) (fun _ => ?_) | refine wps_draw (id := 5) [Fx, Fx, Fx, Fx, Fx, Fx, Fx, Fx, Fx, Fx, Fx] (by kernel_rfl) ?_ | refine wps_draw (id := 11) [Fx, Fx, Fx, Fx, Fx, Fx, Fx, Fx, Fx, Fx, Fx, Fx, Fx, Fx, Fx, Fx, Fx, Fx] (by kernel_rfl) ?_ | refine wps_draw (id := 17) [Fx, Fx, Fx, Fx, Fx, Fx, Fx, Fx, Fx, Fx, Fx, Fx] (by kernel_rfl) ?_ | refine wps_draw (id := 23) [Fx, Fx, Fx, Fx, Fx, Fx, Fx, Fx, Fx, Fx, Fx, Fx, Fx, Fx, Fx, Fx, Fx, Fx] (by kernel_rfl) ?_ | refine wps_draw (id := 35) [Fx, Fx, Fx, Fx, Fx, Fx, Fx, Fx, Fx, Fx, Fx, Fx, Fx, Fx] (by kernel_rfl) ?_ | ((with_reducible show Qs _ _ _ _ _); first | refine hQe _ _ _ _ ?_ | refine hQr _ _ _ ?_) | simp (config := { maxSteps := 1000000 }) (disch := omega) only [↓sh, ↓sh2, ↓reduceIte, sx, sl, sb, st, nbeq_ne, dle, relo_eq, wrap_i64, Nat.reduceBEq, Nat.reduceLT, Nat.reduceLeDiff, Nat.reduceAdd, Nat.reduceMul, Nat.reduceEqDiff, Int.reduceEq, Int.reduceLT, Int.reduceLE, Int.reduceNeg, Int.reduceToNat, Bool.false_eq_true, eq_self, sa, wrap_u64, shift_shr, *])
  case succ.refine_1 =>
    refine wps_named2 (fun T1 H1 eT eH => ?_)
    have k1 : Ko H H1 := by rw [eH]; exact koW
    have n1 := congrArg Heap.next eH; have l1 := congrArg Heap.lo eH; have g1 := fun r => congrArg (fun h : Heap => h.objs.get r) eH
    try simp (disch := omega) only [sm, sl] at n1 l1 g1
    clear eH
    have u1_0 := congrArg (fun T : Tr Value => T.get 0) eT
    have u1_1 := congrArg (fun T : Tr Value => T.get 1) eT
    have u1_4 := congrArg (fun T : Tr Value => T.get 4) eT
    have u1_10 := congrArg (fun T : Tr Value => T.get 10) eT
    have u1_11 := congrArg (fun T : Tr Value => T.get 11) eT
    simp only [get_set, of_nil, of_1, of_2, of_3, of_4, of_5, Nat.reduceEqDiff, if_true, if_false, reduceIte] at u1_0 u1_1 u1_4 u1_10 u1_11
    clear eT
    refine wp_loopN (by kernel_rfl) (fun nn T X => ∃ j : Nat, nn = j - m ∧ (T.get 10 = some (.int .i64 m) ∧ T.get 11 = some (.int .i64 j)) ∧ (T.get 0 = T1.get 0 ∧ T.get 1 = T1.get 1 ∧ T.get 4 = T1.get 4) ∧ Ko H1 X ∧ X.lo = H1.lo ∧ (m ≤ j ∧ j ≤ b)) ?_ ?_
    · refine ⟨_, b, rfl, ?_, ?_, Ko.refl _, rfl, ⟨by omega, by omega⟩⟩ <;> exact nextW
    rintro nn T1' X1 ⟨j, rfl, m1, w1, kx1, lx1, ⟨hj, hj2⟩⟩ Qs hQ hQr hQe
    have kX1 := k1.trans kx1; have nx1 := kx1.nxt; have gx1 := kx1.objs
    have e1 := kX1.objs r hr1
    by_cases hlt : m < j
    · have hm : m ≤ (m + j) / 2 ∧ (m + j) / 2 < j := by omega
      have hme := mid_eq m j
      generalize (m + j) / 2 = h at hm hme
      have hc1 := hcut h (by omega)
      have hc2 := hcut a (by omega)
      have a1 := at_nat (show h < l.length by omega)
      have a2 := at_nat (show a < l.length by omega)
      have hb1 := (by_less hr (show a < h by omega) (by omega)).1
      repeat' (first | refine boolP_dec (fun _ => ?_) (fun _ => ?_) | apply boolP_not | refine boolP_b (fun _ => ?_) (fun _ => ?_) | refine wps_draw (id := 5) [Fx, Fx, Fx, Fx, Fx, Fx, Fx, Fx, Fx, Fx, Fx] (by kernel_rfl) ?_ | refine wps_draw (id := 11) [Fx, Fx, Fx, Fx, Fx, Fx, Fx, Fx, Fx, Fx, Fx, Fx, Fx, Fx, Fx, Fx, Fx, Fx] (by kernel_rfl) ?_ | refine wps_draw (id := 17) [Fx, Fx, Fx, Fx, Fx, Fx, Fx, Fx, Fx, Fx, Fx, Fx] (by kernel_rfl) ?_ | refine wps_draw (id := 23) [Fx, Fx, Fx, Fx, Fx, Fx, Fx, Fx, Fx, Fx, Fx, Fx, Fx, Fx, Fx, Fx, Fx, Fx] (by kernel_rfl) ?_ | refine wps_draw (id := 35) [Fx, Fx, Fx, Fx, Fx, Fx, Fx, Fx, Fx, Fx, Fx, Fx, Fx, Fx] (by kernel_rfl) ?_ | ((with_reducible show CallA _ _ _ _ _); refine call_ko (H0 := H1) koW (by_ok _ loW l[h] l[a]) ?_; intro H2 k2 l2 n2 g2 q2; try simp (disch := omega) only [sm, sl] at l2 n2 g2 q2) | ((with_reducible show Qs _ _ _ _ _); first | refine hQe _ _ _ _ ?_ | refine hQr _ _ _ ?_) | simp (config := { maxSteps := 1000000 }) (disch := omega) only [↓sh, ↓sh2, ↓reduceIte, sx, sl, sb, st, nbeq_ne, dle, relo_eq, wrap_i64, Nat.reduceBEq, Nat.reduceLT, Nat.reduceLeDiff, Nat.reduceAdd, Nat.reduceMul, Nat.reduceEqDiff, Int.reduceEq, Int.reduceLT, Int.reduceLE, Int.reduceNeg, Int.reduceToNat, Bool.false_eq_true, eq_self, sa, wrap_u64, shift_shr, *])
      all_goals try omega
      all_goals (refine hQ _ _ _ ?_ ⟨h, rfl, ?_, ?_, ?_, ?_, ⟨by omega, by omega⟩⟩ <;> exact nextW)
    · repeat' (first | refine boolP_dec (fun _ => ?_) (fun _ => ?_) | apply boolP_not | refine boolP_b (fun _ => ?_) (fun _ => ?_) | refine wps_draw (id := 5) [Fx, Fx, Fx, Fx, Fx, Fx, Fx, Fx, Fx, Fx, Fx] (by kernel_rfl) ?_ | refine wps_draw (id := 11) [Fx, Fx, Fx, Fx, Fx, Fx, Fx, Fx, Fx, Fx, Fx, Fx, Fx, Fx, Fx, Fx, Fx, Fx] (by kernel_rfl) ?_ | refine wps_draw (id := 17) [Fx, Fx, Fx, Fx, Fx, Fx, Fx, Fx, Fx, Fx, Fx, Fx] (by kernel_rfl) ?_ | refine wps_draw (id := 23) [Fx, Fx, Fx, Fx, Fx, Fx, Fx, Fx, Fx, Fx, Fx, Fx, Fx, Fx, Fx, Fx, Fx, Fx] (by kernel_rfl) ?_ | refine wps_draw (id := 35) [Fx, Fx, Fx, Fx, Fx, Fx, Fx, Fx, Fx, Fx, Fx, Fx, Fx, Fx] (by kernel_rfl) ?_ | ((with_reducible show Qs _ _ _ _ _); first | refine hQe _ _ _ _ ?_ | refine hQr _ _ _ ?_) | simp (config := { maxSteps := 1000000 }) (disch := omega) only [↓sh, ↓sh2, ↓reduceIte, sx, sl, sb, st, nbeq_ne, dle, relo_eq, wrap_i64, Nat.reduceBEq, Nat.reduceLT, Nat.reduceLeDiff, Nat.reduceAdd, Nat.reduceMul, Nat.reduceEqDiff, Int.reduceEq, Int.reduceLT, Int.reduceLE, Int.reduceNeg, Int.reduceToNat, Bool.false_eq_true, eq_self, sa, *])
      all_goals try omega
      refine wps_named2 (fun T2 H2 eT eH => ?_)
      have k2 : Ko H H2 := by rw [eH]; exact koW
      have n2 := congrArg Heap.next eH; have l2 := congrArg Heap.lo eH; have g2 := fun r => congrArg (fun h : Heap => h.objs.get r) eH
      try simp (disch := omega) only [sm, sl] at n2 l2 g2
      clear eH
      have u2_0 := congrArg (fun T : Tr Value => T.get 0) eT
      have u2_10 := congrArg (fun T : Tr Value => T.get 10) eT
      have u2_13 := congrArg (fun T : Tr Value => T.get 13) eT
      simp only [get_set, of_nil, of_1, of_2, of_3, of_4, of_5, Nat.reduceEqDiff, if_true, if_false, reduceIte] at u2_0 u2_10 u2_13
      clear eT
      refine wp_loopN (by kernel_rfl) (fun nn T X => nn = 0 ∧ (T.get 13 = some (.int .i64 a)) ∧ (T.get 0 = T2.get 0 ∧ T.get 10 = T2.get 10) ∧ Ko H2 X ∧ X.lo = H2.lo ∧ (True)) ?_ ?_
      · refine ⟨_, rfl, ?_, ?_, Ko.refl _, rfl, trivial⟩ <;> exact nextW
      rintro nn T2' X2 ⟨rfl, m2, w2, kx2, lx2, _⟩ Qs hQ hQr hQe
      have kX2 := k2.trans kx2; have nx2 := kx2.nxt; have gx2 := kx2.objs
      have a1 : ((m : Int) - 1) = a := by omega
      repeat' (first | refine boolP_dec (fun _ => ?_) (fun _ => ?_) | apply boolP_not | refine boolP_b (fun _ => ?_) (fun _ => ?_) | refine wps_draw (id := 5) [Fx, Fx, Fx, Fx, Fx, Fx, Fx, Fx, Fx, Fx, Fx] (by kernel_rfl) ?_ | refine wps_draw (id := 11) [Fx, Fx, Fx, Fx, Fx, Fx, Fx, Fx, Fx, Fx, Fx, Fx, Fx, Fx, Fx, Fx, Fx, Fx] (by kernel_rfl) ?_ | refine wps_draw (id := 17) [Fx, Fx, Fx, Fx, Fx, Fx, Fx, Fx, Fx, Fx, Fx, Fx] (by kernel_rfl) ?_ | refine wps_draw (id := 23) [Fx, Fx, Fx, Fx, Fx, Fx, Fx, Fx, Fx, Fx, Fx, Fx, Fx, Fx, Fx, Fx, Fx, Fx] (by kernel_rfl) ?_ | refine wps_draw (id := 35) [Fx, Fx, Fx, Fx, Fx, Fx, Fx, Fx, Fx, Fx, Fx, Fx, Fx, Fx] (by kernel_rfl) ?_ | ((with_reducible show Qs _ _ _ _ _); first | refine hQe _ _ _ _ ?_ | refine hQr _ _ _ ?_) | simp (config := { maxSteps := 1000000 }) (disch := omega) only [↓sh, ↓sh2, ↓reduceIte, sx, sl, sb, st, nbeq_ne, dle, relo_eq, wrap_i64, Nat.reduceBEq, Nat.reduceLT, Nat.reduceLeDiff, Nat.reduceAdd, Nat.reduceMul, Nat.reduceEqDiff, Int.reduceEq, Int.reduceLT, Int.reduceLE, Int.reduceNeg, Int.reduceToNat, Bool.false_eq_true, eq_self, sa, *])
      all_goals first
        | (first | (with_reducible exact sameW) | ((with_reducible show _ ∧ _); exact ⟨by first | rfl | (simp [*] <;> omega), sameW⟩))
        | omega
  case succ.refine_2.refine_1 =>
    refine wps_named2 (fun T1 H1 eT eH => ?_)
    have k1 : Ko H H1 := by rw [eH]; exact koW
    have n1 := congrArg Heap.next eH; have l1 := congrArg Heap.lo eH; have g1 := fun r => congrArg (fun h : Heap => h.objs.get r) eH
    try simp (disch := omega) only [sm, sl] at n1 l1 g1
    clear eH
    have u1_0 := congrArg (fun T : Tr Value => T.get 0) eT
    have u1_2 := congrArg (fun T : Tr Value => T.get 2) eT
    have u1_4 := congrArg (fun T : Tr Value => T.get 4) eT
    have u1_14 := congrArg (fun T : Tr Value => T.get 14) eT
    have u1_15 := congrArg (fun T : Tr Value => T.get 15) eT
    simp only [get_set, of_nil, of_1, of_2, of_3, of_4, of_5, Nat.reduceEqDiff, if_true, if_false, reduceIte] at u1_0 u1_2 u1_4 u1_14 u1_15
    clear eT
    refine wp_loopN (by kernel_rfl) (fun nn T X => ∃ i : Nat, nn = m - i ∧ (T.get 14 = some (.int .i64 i) ∧ T.get 15 = some (.int .i64 m)) ∧ (T.get 0 = T1.get 0 ∧ T.get 2 = T1.get 2 ∧ T.get 4 = T1.get 4) ∧ Ko H1 X ∧ X.lo = H1.lo ∧ (a ≤ i ∧ i ≤ m)) ?_ ?_
    · refine ⟨_, a, rfl, ?_, ?_, Ko.refl _, rfl, ⟨by omega, by omega⟩⟩ <;> exact nextW
    rintro nn T1' X1 ⟨i, rfl, m1, w1, kx1, lx1, ⟨hj, hj2⟩⟩ Qs hQ hQr hQe
    have kX1 := k1.trans kx1; have nx1 := kx1.nxt; have gx1 := kx1.objs
    have e1 := kX1.objs r hr1
    by_cases hlt : i < m
    · have hm : i ≤ (i + m) / 2 ∧ (i + m) / 2 < m := by omega
      have hme := mid_eq i m
      generalize (i + m) / 2 = h at hm hme
      have hc1 := hcut h (by omega)
      have hc2 := hcut m (by omega)
      have a1 := at_nat (show h < l.length by omega)
      have a2 := at_nat (show m < l.length by omega)
      have hb1 := (by_less hr (show h < m by omega) (by omega)).1
      repeat' (first | refine boolP_dec (fun _ => ?_) (fun _ => ?_) | apply boolP_not | refine boolP_b (fun _ => ?_) (fun _ => ?_) | refine wps_draw (id := 5) [Fx, Fx, Fx, Fx, Fx, Fx, Fx, Fx, Fx, Fx, Fx] (by kernel_rfl) ?_ | refine wps_draw (id := 11) [Fx, Fx, Fx, Fx, Fx, Fx, Fx, Fx, Fx, Fx, Fx, Fx, Fx, Fx, Fx, Fx, Fx, Fx] (by kernel_rfl) ?_ | refine wps_draw (id := 17) [Fx, Fx, Fx, Fx, Fx, Fx, Fx, Fx, Fx, Fx, Fx, Fx] (by kernel_rfl) ?_ | refine wps_draw (id := 23) [Fx, Fx, Fx, Fx, Fx, Fx, Fx, Fx, Fx, Fx, Fx, Fx, Fx, Fx, Fx, Fx, Fx, Fx] (by kernel_rfl) ?_ | refine wps_draw (id := 35) [Fx, Fx, Fx, Fx, Fx, Fx, Fx, Fx, Fx, Fx, Fx, Fx, Fx, Fx] (by kernel_rfl) ?_ | ((with_reducible show CallA _ _ _ _ _); refine call_ko (H0 := H1) koW (by_ok _ loW l[m] l[h]) ?_; intro H2 k2 l2 n2 g2 q2; try simp (disch := omega) only [sm, sl] at l2 n2 g2 q2) | ((with_reducible show Qs _ _ _ _ _); first | refine hQe _ _ _ _ ?_ | refine hQr _ _ _ ?_) | simp (config := { maxSteps := 1000000 }) (disch := omega) only [↓sh, ↓sh2, ↓reduceIte, sx, sl, sb, st, nbeq_ne, dle, relo_eq, wrap_i64, Nat.reduceBEq, Nat.reduceLT, Nat.reduceLeDiff, Nat.reduceAdd, Nat.reduceMul, Nat.reduceEqDiff, Int.reduceEq, Int.reduceLT, Int.reduceLE, Int.reduceNeg, Int.reduceToNat, Bool.false_eq_true, eq_self, sa, wrap_u64, shift_shr, *])
      all_goals try omega
      all_goals (refine hQ _ _ _ ?_ ⟨h + 1, rfl, ?_, ?_, ?_, ?_, ⟨by omega, by omega⟩⟩ <;> exact nextW)
    · repeat' (first | refine boolP_dec (fun _ => ?_) (fun _ => ?_) | apply boolP_not | refine boolP_b (fun _ => ?_) (fun _ => ?_) | refine wps_draw (id := 5) [Fx, Fx, Fx, Fx, Fx, Fx, Fx, Fx, Fx, Fx, Fx] (by kernel_rfl) ?_ | refine wps_draw (id := 11) [Fx, Fx, Fx, Fx, Fx, Fx, Fx, Fx, Fx, Fx, Fx, Fx, Fx, Fx, Fx, Fx, Fx, Fx] (by kernel_rfl) ?_ | refine wps_draw (id := 17) [Fx, Fx, Fx, Fx, Fx, Fx, Fx, Fx, Fx, Fx, Fx, Fx] (by kernel_rfl) ?_ | refine wps_draw (id := 23) [Fx, Fx, Fx, Fx, Fx, Fx, Fx, Fx, Fx, Fx, Fx, Fx, Fx, Fx, Fx, Fx, Fx, Fx] (by kernel_rfl) ?_ | refine wps_draw (id := 35) [Fx, Fx, Fx, Fx, Fx, Fx, Fx, Fx, Fx, Fx, Fx, Fx, Fx, Fx] (by kernel_rfl) ?_ | ((with_reducible show Qs _ _ _ _ _); first | refine hQe _ _ _ _ ?_ | refine hQr _ _ _ ?_) | simp (config := { maxSteps := 1000000 }) (disch := omega) only [↓sh, ↓sh2, ↓reduceIte, sx, sl, sb, st, nbeq_ne, dle, relo_eq, wrap_i64, Nat.reduceBEq, Nat.reduceLT, Nat.reduceLeDiff, Nat.reduceAdd, Nat.reduceMul, Nat.reduceEqDiff, Int.reduceEq, Int.reduceLT, Int.reduceLE, Int.reduceNeg, Int.reduceToNat, Bool.false_eq_true, eq_self, sa, *])
      all_goals try omega
      refine wps_named2 (fun T2 H2 eT eH => ?_)
      have k2 : Ko H H2 := by rw [eH]; exact koW
      have n2 := congrArg Heap.next eH; have l2 := congrArg Heap.lo eH; have g2 := fun r => congrArg (fun h : Heap => h.objs.get r) eH
      try simp (disch := omega) only [sm, sl] at n2 l2 g2
      clear eH
      have u2_0 := congrArg (fun T : Tr Value => T.get 0) eT
      have u2_14 := congrArg (fun T : Tr Value => T.get 14) eT
      have u2_17 := congrArg (fun T : Tr Value => T.get 17) eT
      simp only [get_set, of_nil, of_1, of_2, of_3, of_4, of_5, Nat.reduceEqDiff, if_true, if_false, reduceIte] at u2_0 u2_14 u2_17
      clear eT
      refine wp_loopN (by kernel_rfl) (fun nn T X => nn = 0 ∧ (T.get 17 = some (.int .i64 m)) ∧ (T.get 0 = T2.get 0 ∧ T.get 14 = T2.get 14) ∧ Ko H2 X ∧ X.lo = H2.lo ∧ (True)) ?_ ?_
      · refine ⟨_, rfl, ?_, ?_, Ko.refl _, rfl, trivial⟩ <;> exact nextW
      rintro nn T2' X2 ⟨rfl, m2, w2, kx2, lx2, _⟩ Qs hQ hQr hQe
      have kX2 := k2.trans kx2; have nx2 := kx2.nxt; have gx2 := kx2.objs
      repeat' (first | refine boolP_dec (fun _ => ?_) (fun _ => ?_) | apply boolP_not | refine boolP_b (fun _ => ?_) (fun _ => ?_) | refine wps_draw (id := 5) [Fx, Fx, Fx, Fx, Fx, Fx, Fx, Fx, Fx, Fx, Fx] (by kernel_rfl) ?_ | refine wps_draw (id := 11) [Fx, Fx, Fx, Fx, Fx, Fx, Fx, Fx, Fx, Fx, Fx, Fx, Fx, Fx, Fx, Fx, Fx, Fx] (by kernel_rfl) ?_ | refine wps_draw (id := 17) [Fx, Fx, Fx, Fx, Fx, Fx, Fx, Fx, Fx, Fx, Fx, Fx] (by kernel_rfl) ?_ | refine wps_draw (id := 23) [Fx, Fx, Fx, Fx, Fx, Fx, Fx, Fx, Fx, Fx, Fx, Fx, Fx, Fx, Fx, Fx, Fx, Fx] (by kernel_rfl) ?_ | refine wps_draw (id := 35) [Fx, Fx, Fx, Fx, Fx, Fx, Fx, Fx, Fx, Fx, Fx, Fx, Fx, Fx] (by kernel_rfl) ?_ | ((with_reducible show Qs _ _ _ _ _); first | refine hQe _ _ _ _ ?_ | refine hQr _ _ _ ?_) | simp (config := { maxSteps := 1000000 }) (disch := omega) only [↓sh, ↓sh2, ↓reduceIte, sx, sl, sb, st, nbeq_ne, dle, relo_eq, wrap_i64, Nat.reduceBEq, Nat.reduceLT, Nat.reduceLeDiff, Nat.reduceAdd, Nat.reduceMul, Nat.reduceEqDiff, Int.reduceEq, Int.reduceLT, Int.reduceLE, Int.reduceNeg, Int.reduceToNat, Bool.false_eq_true, eq_self, sa, *])
      all_goals first
        | (first | (with_reducible exact sameW) | ((with_reducible show _ ∧ _); exact ⟨by first | rfl | (simp [*] <;> omega), sameW⟩))
        | omega
  all_goals
    generalize hM : (a + b) / 2 = M at hmid ⊢
    have hM1 : a < M ∧ M < b := by omega
  case succ.refine_2.refine_2.refine_1 =>
    have z1 : (M : Int) + m - b = (M + m - b : Nat) := by omega
    refine wps_named2 (fun T1 H1 eT eH => ?_)
    have k1 : Ko H H1 := by rw [eH]; exact koW
    have n1 := congrArg Heap.next eH; have l1 := congrArg Heap.lo eH; have g1 := fun r => congrArg (fun h : Heap => h.objs.get r) eH
    try simp (disch := omega) only [sm, sl] at n1 l1 g1
    clear eH
    have u1_0 := congrArg (fun T : Tr Value => T.get 0) eT
    have u1_1 := congrArg (fun T : Tr Value => T.get 1) eT
    have u1_2 := congrArg (fun T : Tr Value => T.get 2) eT
    have u1_3 := congrArg (fun T : Tr Value => T.get 3) eT
    have u1_4 := congrArg (fun T : Tr Value => T.get 4) eT
    have u1_18 := congrArg (fun T : Tr Value => T.get 18) eT
    have u1_19 := congrArg (fun T : Tr Value => T.get 19) eT
    have u1_20 := congrArg (fun T : Tr Value => T.get 20) eT
    have u1_21 := congrArg (fun T : Tr Value => T.get 21) eT
    have u1_22 := congrArg (fun T : Tr Value => T.get 22) eT
    simp only [get_set, of_nil, of_1, of_2, of_3, of_4, of_5, Nat.reduceEqDiff, if_true, if_false, reduceIte] at u1_0 u1_1 u1_2 u1_3 u1_4 u1_18 u1_19 u1_20 u1_21 u1_22
    clear eT
    refine wp_loopN (by kernel_rfl) (fun nn T X => ∃ s : Nat, nn = M - s ∧ (T.get 20 = some (.int .i64 s) ∧ T.get 21 = some (.int .i64 M)) ∧ (T.get 0 = T1.get 0 ∧ T.get 1 = T1.get 1 ∧ T.get 2 = T1.get 2 ∧ T.get 3 = T1.get 3 ∧ T.get 4 = T1.get 4 ∧ T.get 18 = T1.get 18 ∧ T.get 19 = T1.get 19 ∧ T.get 22 = T1.get 22) ∧ Ko H1 X ∧ X.lo = H1.lo ∧ (M + m - b ≤ s ∧ s ≤ M)) ?_ ?_
    · refine ⟨_, M + m - b, rfl, ?_, ?_, Ko.refl _, rfl, ⟨by omega, by omega⟩⟩ <;> exact nextW
    rintro nn T1' X1 ⟨s, rfl, m1, w1, kx1, lx1, ⟨hj, hj2⟩⟩ Qs hQ hQr hQe
    have kX1 := k1.trans kx1; have nx1 := kx1.nxt; have gx1 := kx1.objs
    have e1 := kX1.objs r hr1
    by_cases hlt : s < M
    · have hm : s ≤ (s + M) / 2 ∧ (s + M) / 2 < M := by omega
      have hme := mid_eq s M
      generalize (s + M) / 2 = c at hm hme
      have z2 : (M : Int) + m - 1 - c = (M + m - 1 - c : Nat) := by omega
      have hz : c < M + m - 1 - c ∧ M + m - 1 - c < b := by omega
      generalize M + m - 1 - c = p at z2 hz
      have hc1 := hcut p (by omega)
      have hc2 := hcut c (by omega)
      have a1 := at_nat (show p < l.length by omega)
      have a2 := at_nat (show c < l.length by omega)
      have hb1 := (by_less hr (show c < p by omega) (by omega)).1
      repeat' (first | refine boolP_dec (fun _ => ?_) (fun _ => ?_) | apply boolP_not | refine boolP_b (fun _ => ?_) (fun _ => ?_) | refine wps_draw (id := 5) [Fx, Fx, Fx, Fx, Fx, Fx, Fx, Fx, Fx, Fx, Fx] (by kernel_rfl) ?_ | refine wps_draw (id := 11) [Fx, Fx, Fx, Fx, Fx, Fx, Fx, Fx, Fx, Fx, Fx, Fx, Fx, Fx, Fx, Fx, Fx, Fx] (by kernel_rfl) ?_ | refine wps_draw (id := 17) [Fx, Fx, Fx, Fx, Fx, Fx, Fx, Fx, Fx, Fx, Fx, Fx] (by kernel_rfl) ?_ | refine wps_draw (id := 23) [Fx, Fx, Fx, Fx, Fx, Fx, Fx, Fx, Fx, Fx, Fx, Fx, Fx, Fx, Fx, Fx, Fx, Fx] (by kernel_rfl) ?_ | refine wps_draw (id := 35) [Fx, Fx, Fx, Fx, Fx, Fx, Fx, Fx, Fx, Fx, Fx, Fx, Fx, Fx] (by kernel_rfl) ?_ | ((with_reducible show CallA _ _ _ _ _); refine call_ko (H0 := H1) koW (by_ok _ loW l[p] l[c]) ?_; intro H2 k2 l2 n2 g2 q2; try simp (disch := omega) only [sm, sl] at l2 n2 g2 q2) | ((with_reducible show Qs _ _ _ _ _); first | refine hQe _ _ _ _ ?_ | refine hQr _ _ _ ?_) | simp (config := { maxSteps := 1000000 }) (disch := omega) only [↓sh, ↓sh2, ↓reduceIte, sx, sl, sb, st, nbeq_ne, dle, relo_eq, wrap_i64, Nat.reduceBEq, Nat.reduceLT, Nat.reduceLeDiff, Nat.reduceAdd, Nat.reduceMul, Nat.reduceEqDiff, Int.reduceEq, Int.reduceLT, Int.reduceLE, Int.reduceNeg, Int.reduceToNat, Bool.false_eq_true, eq_self, sa, wrap_u64, shift_shr, *])
      all_goals try omega
      all_goals (refine hQ _ _ _ ?_ ⟨c + 1, rfl, ?_, ?_, ?_, ?_, ⟨by omega, by omega⟩⟩ <;> exact nextW)
    · obtain rfl : s = M := by omega
      have z3 : (s : Int) + m - s = m := by omega
      repeat' (first | refine boolP_dec (fun _ => ?_) (fun _ => ?_) | apply boolP_not | refine boolP_b (fun _ => ?_) (fun _ => ?_) | refine wps_draw (id := 5) [Fx, Fx, Fx, Fx, Fx, Fx, Fx, Fx, Fx, Fx, Fx] (by kernel_rfl) ?_ | refine wps_draw (id := 11) [Fx, Fx, Fx, Fx, Fx, Fx, Fx, Fx, Fx, Fx, Fx, Fx, Fx, Fx, Fx, Fx, Fx, Fx] (by kernel_rfl) ?_ | refine wps_draw (id := 17) [Fx, Fx, Fx, Fx, Fx, Fx, Fx, Fx, Fx, Fx, Fx, Fx] (by kernel_rfl) ?_ | refine wps_draw (id := 23) [Fx, Fx, Fx, Fx, Fx, Fx, Fx, Fx, Fx, Fx, Fx, Fx, Fx, Fx, Fx, Fx, Fx, Fx] (by kernel_rfl) ?_ | refine wps_draw (id := 35) [Fx, Fx, Fx, Fx, Fx, Fx, Fx, Fx, Fx, Fx, Fx, Fx, Fx, Fx] (by kernel_rfl) ?_ | ((with_reducible show CallA _ _ _ _ _); refine call_ko (H0 := H) koW (ih _ loW _ l (hv0.ext RSpan.mono (Ko.ext koW)) hr s m b (by omega) (by omega) hmb hb hl) ?_; intro H2 k2 l2 n2 g2 q2; try simp (disch := omega) only [sm, sl] at l2 n2 g2 q2) | ((with_reducible show Qs _ _ _ _ _); first | refine hQe _ _ _ _ ?_ | refine hQr _ _ _ ?_) | simp (config := { maxSteps := 1000000 }) (disch := omega) only [↓sh, ↓sh2, ↓reduceIte, sx, sl, sb, st, nbeq_ne, dle, relo_eq, wrap_i64, Nat.reduceBEq, Nat.reduceLT, Nat.reduceLeDiff, Nat.reduceAdd, Nat.reduceMul, Nat.reduceEqDiff, Int.reduceEq, Int.reduceLT, Int.reduceLE, Int.reduceNeg, Int.reduceToNat, Bool.false_eq_true, eq_self, sa, *])
      all_goals first
        | (first | (with_reducible exact sameW) | ((with_reducible show _ ∧ _); exact ⟨by first | rfl | (simp [*] <;> omega), sameW⟩))
        | omega
  case succ.refine_2.refine_2.refine_2 =>
    refine wps_named2 (fun T1 H1 eT eH => ?_)
    have k1 : Ko H H1 := by rw [eH]; exact koW
    have n1 := congrArg Heap.next eH; have l1 := congrArg Heap.lo eH; have g1 := fun r => congrArg (fun h : Heap => h.objs.get r) eH
    try simp (disch := omega) only [sm, sl] at n1 l1 g1
    clear eH
    have u1_0 := congrArg (fun T : Tr Value => T.get 0) eT
    have u1_1 := congrArg (fun T : Tr Value => T.get 1) eT
    have u1_2 := congrArg (fun T : Tr Value => T.get 2) eT
    have u1_3 := congrArg (fun T : Tr Value => T.get 3) eT
    have u1_4 := congrArg (fun T : Tr Value => T.get 4) eT
    have u1_18 := congrArg (fun T : Tr Value => T.get 18) eT
    have u1_19 := congrArg (fun T : Tr Value => T.get 19) eT
    have u1_20 := congrArg (fun T : Tr Value => T.get 20) eT
    have u1_21 := congrArg (fun T : Tr Value => T.get 21) eT
    have u1_22 := congrArg (fun T : Tr Value => T.get 22) eT
    simp only [get_set, of_nil, of_1, of_2, of_3, of_4, of_5, Nat.reduceEqDiff, if_true, if_false, reduceIte] at u1_0 u1_1 u1_2 u1_3 u1_4 u1_18 u1_19 u1_20 u1_21 u1_22
    clear eT
    refine wp_loopN (by kernel_rfl) (fun nn T X => ∃ s : Nat, nn = m - s ∧ (T.get 20 = some (.int .i64 s) ∧ T.get 21 = some (.int .i64 m)) ∧ (T.get 0 = T1.get 0 ∧ T.get 1 = T1.get 1 ∧ T.get 2 = T1.get 2 ∧ T.get 3 = T1.get 3 ∧ T.get 4 = T1.get 4 ∧ T.get 18 = T1.get 18 ∧ T.get 19 = T1.get 19 ∧ T.get 22 = T1.get 22) ∧ Ko H1 X ∧ X.lo = H1.lo ∧ (a ≤ s ∧ s ≤ m)) ?_ ?_
    · refine ⟨_, a, rfl, ?_, ?_, Ko.refl _, rfl, ⟨by omega, by omega⟩⟩ <;> exact nextW
    rintro nn T1' X1 ⟨s, rfl, m1, w1, kx1, lx1, ⟨hj, hj2⟩⟩ Qs hQ hQr hQe
    have kX1 := k1.trans kx1; have nx1 := kx1.nxt; have gx1 := kx1.objs
    have e1 := kX1.objs r hr1
    by_cases hlt : s < m
    · have hm : s ≤ (s + m) / 2 ∧ (s + m) / 2 < m := by omega
      have hme := mid_eq s m
      generalize (s + m) / 2 = c at hm hme
      have z2 : (M : Int) + m - 1 - c = (M + m - 1 - c : Nat) := by omega
      have hz : c < M + m - 1 - c ∧ M + m - 1 - c < b := by omega
      generalize M + m - 1 - c = p at z2 hz
      have hc1 := hcut p (by omega)
      have hc2 := hcut c (by omega)
      have a1 := at_nat (show p < l.length by omega)
      have a2 := at_nat (show c < l.length by omega)
      have hb1 := (by_less hr (show c < p by omega) (by omega)).1
      repeat' (first | refine boolP_dec (fun _ => ?_) (fun _ => ?_) | apply boolP_not | refine boolP_b (fun _ => ?_) (fun _ => ?_) | refine wps_draw (id := 5) [Fx, Fx, Fx, Fx, Fx, Fx, Fx, Fx, Fx, Fx, Fx] (by kernel_rfl) ?_ | refine wps_draw (id := 11) [Fx, Fx, Fx, Fx, Fx, Fx, Fx, Fx, Fx, Fx, Fx, Fx, Fx, Fx, Fx, Fx, Fx, Fx] (by kernel_rfl) ?_ | refine wps_draw (id := 17) [Fx, Fx, Fx, Fx, Fx, Fx, Fx, Fx, Fx, Fx, Fx, Fx] (by kernel_rfl) ?_ | refine wps_draw (id := 23) [Fx, Fx, Fx, Fx, Fx, Fx, Fx, Fx, Fx, Fx, Fx, Fx, Fx, Fx, Fx, Fx, Fx, Fx] (by kernel_rfl) ?_ | refine wps_draw (id := 35) [Fx, Fx, Fx, Fx, Fx, Fx, Fx, Fx, Fx, Fx, Fx, Fx, Fx, Fx] (by kernel_rfl) ?_ | ((with_reducible show CallA _ _ _ _ _); refine call_ko (H0 := H1) koW (by_ok _ loW l[p] l[c]) ?_; intro H2 k2 l2 n2 g2 q2; try simp (disch := omega) only [sm, sl] at l2 n2 g2 q2) | ((with_reducible show Qs _ _ _ _ _); first | refine hQe _ _ _ _ ?_ | refine hQr _ _ _ ?_) | simp (config := { maxSteps := 1000000 }) (disch := omega) only [↓sh, ↓sh2, ↓reduceIte, sx, sl, sb, st, nbeq_ne, dle, relo_eq, wrap_i64, Nat.reduceBEq, Nat.reduceLT, Nat.reduceLeDiff, Nat.reduceAdd, Nat.reduceMul, Nat.reduceEqDiff, Int.reduceEq, Int.reduceLT, Int.reduceLE, Int.reduceNeg, Int.reduceToNat, Bool.false_eq_true, eq_self, sa, wrap_u64, shift_shr, *])
      all_goals try omega
      all_goals (refine hQ _ _ _ ?_ ⟨c + 1, rfl, ?_, ?_, ?_, ?_, ⟨by omega, by omega⟩⟩ <;> exact nextW)
    · obtain rfl : s = m := by omega
      have z3 : (M : Int) + s - s = M := by omega
      repeat' (first | refine boolP_dec (fun _ => ?_) (fun _ => ?_) | apply boolP_not | refine boolP_b (fun _ => ?_) (fun _ => ?_) | refine wps_draw (id := 5) [Fx, Fx, Fx, Fx, Fx, Fx, Fx, Fx, Fx, Fx, Fx] (by kernel_rfl) ?_ | refine wps_draw (id := 11) [Fx, Fx, Fx, Fx, Fx, Fx, Fx, Fx, Fx, Fx, Fx, Fx, Fx, Fx, Fx, Fx, Fx, Fx] (by kernel_rfl) ?_ | refine wps_draw (id := 17) [Fx, Fx, Fx, Fx, Fx, Fx, Fx, Fx, Fx, Fx, Fx, Fx] (by kernel_rfl) ?_ | refine wps_draw (id := 23) [Fx, Fx, Fx, Fx, Fx, Fx, Fx, Fx, Fx, Fx, Fx, Fx, Fx, Fx, Fx, Fx, Fx, Fx] (by kernel_rfl) ?_ | refine wps_draw (id := 35) [Fx, Fx, Fx, Fx, Fx, Fx, Fx, Fx, Fx, Fx, Fx, Fx, Fx, Fx] (by kernel_rfl) ?_ | ((with_reducible show CallA _ _ _ _ _); refine call_ko (H0 := H) koW (ih _ loW _ l (hv0.ext RSpan.mono (Ko.ext koW)) hr a s M (by omega) ham (by omega) (by omega) hl) ?_; intro H2 k2 l2 n2 g2 q2; try simp (disch := omega) only [sm, sl] at l2 n2 g2 q2) | ((with_reducible show Qs _ _ _ _ _); first | refine hQe _ _ _ _ ?_ | refine hQr _ _ _ ?_) | simp (config := { maxSteps := 1000000 }) (disch := omega) only [↓sh, ↓sh2, ↓reduceIte, sx, sl, sb, st, nbeq_ne, dle, relo_eq, wrap_i64, Nat.reduceBEq, Nat.reduceLT, Nat.reduceLeDiff, Nat.reduceAdd, Nat.reduceMul, Nat.reduceEqDiff, Int.reduceEq, Int.reduceLT, Int.reduceLE, Int.reduceNeg, Int.reduceToNat, Bool.false_eq_true, eq_self, sa, *])
      all_goals first
        | (first | (with_reducible exact sameW) | ((with_reducible show _ ∧ _); exact ⟨by first | rfl | (simp [*] <;> omega), sameW⟩))
        | omega
end Go.AM
