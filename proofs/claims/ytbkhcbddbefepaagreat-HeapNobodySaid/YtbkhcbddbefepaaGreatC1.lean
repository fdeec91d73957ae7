/-
  Walks over letters of the functions that the law reaches.
-/
import Derived.Test.YtbkhcbddbefepaaGreatB1
namespace Go.AM
attribute [local instance] fnMaps
open Go Go.Proofs
set_option maxRecDepth 100000
set_option maxHeartbeats 1000000
set_option linter.unusedSimpArgs false
def cmpI (a b : Int) : Int := if a < b then -1 else if b < a then 1 else 0
theorem fn162 : E.fn.get 162 = some Tryz.f162 := by kernel_rfl
theorem nan_ok (H : Heap) (hlo : H.lo ≤ H.next) (a : Int) : CallA E (fnv 162) [.int .i64 a] H fun r H' => r = .bool false ∧ Same H H' := by
  refine callA_fn (by kernel_rfl) fn162 rfl rfl ?_
  simp only [Tryz.f162]
  repeat' (first | refine boolP_dec (fun _ => ?_) (fun _ => ?_) | apply boolP_not | refine boolP_b (fun _ => ?_) (fun _ => ?_) | ((with_reducible show Qs _ _ _ _ _); first | refine hQe _ _ _ _ ?_ | refine hQr _ _ _ ?_) | simp (config := { maxSteps := 1000000 }) (disch := omega) only [↓sh, ↓sh2, ↓reduceIte, sx, sl, sb, st, nbeq_ne, dle, relo_eq, wrap_i64, Nat.reduceBEq, Nat.reduceLT, Nat.reduceLeDiff, Nat.reduceAdd, Nat.reduceMul, Nat.reduceEqDiff, Int.reduceEq, Int.reduceLT, Int.reduceLE, Int.reduceNeg, Int.reduceToNat, Bool.false_eq_true, eq_self, sa, *])
  (first | (with_reducible exact sameW) | ((with_reducible show _ ∧ _); exact ⟨by first | rfl | (simp [*] <;> omega), sameW⟩))
theorem fn159 : E.fn.get 159 = some Tryz.f159 := by kernel_rfl
theorem compare_ok (H : Heap) (hlo : H.lo ≤ H.next) (a b : Int) : CallA E (fnv 159) [.int .i64 a, .int .i64 b] H fun r H' => r = .int .i64 (cmpI a b) ∧ Same H H' := by
  refine callA_fn (by kernel_rfl) fn159 rfl rfl ?_
  simp only [Tryz.f159]
  repeat' (first | refine boolP_dec (fun _ => ?_) (fun _ => ?_) | apply boolP_not | refine boolP_b (fun _ => ?_) (fun _ => ?_) | ((with_reducible show CallA _ _ _ _ _); refine call_ko (H0 := H) koW (nan_ok _ loW _) ?_; intro H2 k2 l2 n2 g2 q2; try simp (disch := omega) only [sm, sl] at l2 n2 g2 q2) | ((with_reducible show Qs _ _ _ _ _); first | refine hQe _ _ _ _ ?_ | refine hQr _ _ _ ?_) | simp (config := { maxSteps := 1000000 }) (disch := omega) only [↓sh, ↓sh2, ↓reduceIte, sx, sl, sb, st, nbeq_ne, dle, relo_eq, wrap_i64, Nat.reduceBEq, Nat.reduceLT, Nat.reduceLeDiff, Nat.reduceAdd, Nat.reduceMul, Nat.reduceEqDiff, Int.reduceEq, Int.reduceLT, Int.reduceLE, Int.reduceNeg, Int.reduceToNat, Bool.false_eq_true, eq_self, sa, *])
  all_goals (first | (with_reducible exact sameW) | ((with_reducible show _ ∧ _); exact ⟨by first | rfl | (simp [cmpI, *] <;> omega), sameW⟩))
def or2 (a b : Int) : Int := if a = 0 then b else a
theorem fn158 : E.fn.get 158 = some Tryz.f158 := by kernel_rfl
theorem or_ok (H : Heap) (hlo : H.lo ≤ H.next) (r0 : Nat) (a b : Int) (hr : r0 < H.next) (hrow : H.objs.get r0 = some (.row [.int .i64 a, .int .i64 b] none true)) : CallA E (fnv 158) [.slice (some ⟨r0, 0, none⟩) 2 2] H fun r H' => r = .int .i64 (or2 a b) ∧ Same H H' := by
  refine callA_fn (by kernel_rfl) fn158 rfl rfl ?_
  simp only [Tryz.f158]
  repeat' (first | refine boolP_dec (fun _ => ?_) (fun _ => ?_) | apply boolP_not | refine boolP_b (fun _ => ?_) (fun _ => ?_) | ((with_reducible show Qs _ _ _ _ _); first | refine hQe _ _ _ _ ?_ | refine hQr _ _ _ ?_) | simp (config := { maxSteps := 1000000 }) (disch := omega) only [↓sh, ↓sh2, ↓reduceIte, sx, sl, sb, st, nbeq_ne, dle, relo_eq, wrap_i64, Nat.reduceBEq, Nat.reduceLT, Nat.reduceLeDiff, Nat.reduceAdd, Nat.reduceMul, Nat.reduceEqDiff, Int.reduceEq, Int.reduceLT, Int.reduceLE, Int.reduceNeg, Int.reduceToNat, Bool.false_eq_true, eq_self, sa, *])
  refine wps_named2 (fun T1 H1 eT eH => ?_)
  have k1 : Ko H H1 := by rw [eH]; exact koW
  have n1 := congrArg Heap.next eH; have l1 := congrArg Heap.lo eH; have g1 := fun r => congrArg (fun h : Heap => h.objs.get r) eH
  try simp (disch := omega) only [sm, sl] at n1 l1 g1
  clear eH
  have u1_3 := congrArg (fun T : Tr Value => T.get 3) eT
  have u1_6 := congrArg (fun T : Tr Value => T.get 6) eT
  have u1_7 := congrArg (fun T : Tr Value => T.get 7) eT
  have u1_8 := congrArg (fun T : Tr Value => T.get 8) eT
  simp only [get_set, of_nil, of_1, of_2, of_3, of_4, of_5, Nat.reduceEqDiff, if_true, if_false, reduceIte] at u1_3 u1_6 u1_7 u1_8
  clear eT
  refine wp_loopN (by kernel_rfl) (fun nn T X => ∃ i : Nat, nn = 2 - i ∧ (T.get 8 = some (.int .i64 i)) ∧ (T.get 3 = T1.get 3 ∧ T.get 6 = T1.get 6 ∧ T.get 7 = T1.get 7) ∧ Ko H1 X ∧ X.lo = H1.lo ∧ (i ≤ 2 ∧ (0 < i → a = 0) ∧ (1 < i → b = 0))) ?_ ?_
  · refine ⟨_, 0, rfl, ?_, ?_, Ko.refl _, rfl, ⟨by omega, by omega, by omega⟩⟩ <;> exact nextW
  rintro nn T1' X1 ⟨i, rfl, m1, w1, kx1, lx1, ⟨hi, ha, hb⟩⟩ Qs hQ hQr hQe
  have kX1 := k1.trans kx1; have nx1 := kx1.nxt; have gx1 := kx1.objs
  have e1 := kX1.objs r0 hr
  match i, hi with
  | 0, _ =>
    have a1 : at? ((0 : Nat) : Int) 2 = some 0 := rfl
    repeat' (first | refine boolP_dec (fun _ => ?_) (fun _ => ?_) | apply boolP_not | refine boolP_b (fun _ => ?_) (fun _ => ?_) | ((with_reducible show Qs _ _ _ _ _); first | refine hQe _ _ _ _ ?_ | refine hQr _ _ _ ?_) | simp (config := { maxSteps := 1000000 }) (disch := omega) only [↓sh, ↓sh2, ↓reduceIte, sx, sl, sb, st, nbeq_ne, dle, relo_eq, wrap_i64, Nat.reduceBEq, Nat.reduceLT, Nat.reduceLeDiff, Nat.reduceAdd, Nat.reduceMul, Nat.reduceEqDiff, Int.reduceEq, Int.reduceLT, Int.reduceLE, Int.reduceNeg, Int.reduceToNat, Bool.false_eq_true, eq_self, sa, *, Int.natCast_zero])
    all_goals first
      | (refine hQ _ _ _ ?_ ⟨1, rfl, ?_, ?_, ?_, ?_, ⟨by omega, fun _ => by assumption, by omega⟩⟩ <;> exact nextW)
      | (first | (with_reducible exact sameW) | ((with_reducible show _ ∧ _); exact ⟨by first | rfl | (simp [or2, *] <;> omega), sameW⟩))
      | omega
  | 1, _ =>
    have a1 : at? ((1 : Nat) : Int) 2 = some 1 := rfl
    repeat' (first | refine boolP_dec (fun _ => ?_) (fun _ => ?_) | apply boolP_not | refine boolP_b (fun _ => ?_) (fun _ => ?_) | ((with_reducible show Qs _ _ _ _ _); first | refine hQe _ _ _ _ ?_ | refine hQr _ _ _ ?_) | simp (config := { maxSteps := 1000000 }) (disch := omega) only [↓sh, ↓sh2, ↓reduceIte, sx, sl, sb, st, nbeq_ne, dle, relo_eq, wrap_i64, Nat.reduceBEq, Nat.reduceLT, Nat.reduceLeDiff, Nat.reduceAdd, Nat.reduceMul, Nat.reduceEqDiff, Int.reduceEq, Int.reduceLT, Int.reduceLE, Int.reduceNeg, Int.reduceToNat, Bool.false_eq_true, eq_self, sa, *, Int.natCast_one])
    all_goals first
      | (refine hQ _ _ _ ?_ ⟨2, rfl, ?_, ?_, ?_, ?_, ⟨by omega, by omega, fun _ => by assumption⟩⟩ <;> exact nextW)
      | (first | (with_reducible exact sameW) | ((with_reducible show _ ∧ _); exact ⟨by first | rfl | (simp [or2, *] <;> omega), sameW⟩))
      | omega
  | 2, _ =>
    have ha := ha (by omega)
    have hb := hb (by omega)
    repeat' (first | refine boolP_dec (fun _ => ?_) (fun _ => ?_) | apply boolP_not | refine boolP_b (fun _ => ?_) (fun _ => ?_) | ((with_reducible show Qs _ _ _ _ _); first | refine hQe _ _ _ _ ?_ | refine hQr _ _ _ ?_) | simp (config := { maxSteps := 1000000 }) (disch := omega) only [↓sh, ↓sh2, ↓reduceIte, sx, sl, sb, st, nbeq_ne, dle, relo_eq, wrap_i64, Nat.reduceBEq, Nat.reduceLT, Nat.reduceLeDiff, Nat.reduceAdd, Nat.reduceMul, Nat.reduceEqDiff, Int.reduceEq, Int.reduceLT, Int.reduceLE, Int.reduceNeg, Int.reduceToNat, Bool.false_eq_true, eq_self, sa, *])
    all_goals first
      | (first | (with_reducible exact sameW) | ((with_reducible show _ ∧ _); exact ⟨by first | rfl | (simp [or2, *] <;> omega), sameW⟩))
      | omega
def byI (x y : Span) : Int := or2 (cmpI x.at' y.at') (cmpI x.size y.size)
theorem fn156 : E.fn.get 156 = some Tryz.f156 := by kernel_rfl
theorem by_ok (H : Heap) (hlo : H.lo ≤ H.next) (x y : Span) : CallA E (fnv 156) [spanV x, spanV y] H fun r H' => r = .int .i64 (byI x y) ∧ Same H H' := by
  refine callA_fn (by kernel_rfl) fn156 rfl rfl ?_
  simp only [Tryz.f156]
  simp only [spanV]
  repeat' (first | refine boolP_dec (fun _ => ?_) (fun _ => ?_) | apply boolP_not | refine boolP_b (fun _ => ?_) (fun _ => ?_) | refine wps_draw (id := 1) [Fx, Fx, Fx, Fx, Tx, Fx, Fx, Fx, Fx, Fx, Fx, Fx, Fx] (by kernel_rfl) ?_ | ((with_reducible show CallA _ _ _ _ _); (first | refine call_ko (H0 := H) koW (compare_ok _ loW _ _) ?_ | refine call_ko (H0 := H) koW (or_ok _ loW _ (cmpI x.at' y.at') (cmpI x.size y.size) loW (by simp (disch := omega) only [setRow_get, newRow_get, newRow_next, setRow_next, newRow_lo, setRow_lo, newRow_grps, setRow_grps, newRow_relo, setRow_relo, relo_objs, relo_next, relo_lo, nbeq_ne, sl])) ?_); intro H2 k2 l2 n2 g2 q2; try simp (disch := omega) only [sm, sl] at l2 n2 g2 q2) | ((with_reducible show Qs _ _ _ _ _); first | refine hQe _ _ _ _ ?_ | refine hQr _ _ _ ?_) | simp (config := { maxSteps := 1000000 }) (disch := omega) only [↓sh, ↓sh2, ↓reduceIte, sx, sl, sb, st, nbeq_ne, dle, relo_eq, wrap_i64, Nat.reduceBEq, Nat.reduceLT, Nat.reduceLeDiff, Nat.reduceAdd, Nat.reduceMul, Nat.reduceEqDiff, Int.reduceEq, Int.reduceLT, Int.reduceLE, Int.reduceNeg, Int.reduceToNat, Bool.false_eq_true, eq_self, sa, ble_dec, repeat_succ, repeat_zero, List.nil_append, List.cons_append, List.length_cons, List.length_nil, List.drop_succ_cons, List.drop_zero, *])
  all_goals (first | (with_reducible exact sameW) | ((with_reducible show _ ∧ _); exact ⟨by first | rfl | (simp [byI, *] <;> omega), sameW⟩))
def Rising (l : List Span) : Prop := ∀ (i j : Nat) (x y : Span), i < j → l[i]? = some x → l[j]? = some y → x.at' < y.at'
theorem byI_lt {x y : Span} (h : x.at' < y.at') : byI y x = 1 ∧ byI x y = -1 := by
  unfold byI or2 cmpI
  have h1 : ¬ y.at' < x.at' := by omega
  simp [h, h1]
def RSpan : Heap → List Value → Span → Prop := fun _ part x => part = [.int .i64 x.at', .int .i64 x.size]
theorem RSpan.mono : Mono RSpan := fun _ _ _ _ _ h => h
theorem fn160 : E.fn.get 160 = some Tryz.f160 := by kernel_rfl
theorem insort_ok (H : Heap) (hlo : H.lo ≤ H.next) (v : Value) (l : List Span) (hv : SL RSpan 2 H v l) (hr : Rising l) (a b : Nat) (hab : a ≤ b) (hb : b ≤ l.length) (hl : l.length ≤ 100000) : CallA E (fnv 160) [v, .int .i64 a, .int .i64 b, fnv 156] H fun r H' => r = .tuple #[] ∧ Same H H' := by
  obtain ⟨ad, ca, rfl, ⟨_, hma⟩, hla⟩ := hv
  refine callA_fn (by kernel_rfl) fn160 rfl rfl ?_
  simp only [Tryz.f160]
  repeat' (first | refine boolP_dec (fun _ => ?_) (fun _ => ?_) | apply boolP_not | refine boolP_b (fun _ => ?_) (fun _ => ?_) | refine wps_draw (id := 4) [Fx, Fx, Fx, Fx, Fx, Fx, Fx, Fx, Fx, Fx, Fx, Fx, Fx, Fx, Fx, Fx, Fx] (by kernel_rfl) ?_ | refine wps_draw (id := 6) [Fx, Fx, Fx, Fx, Fx, Fx, Fx, Fx, Fx, Fx, Fx, Fx, Fx, Fx, Fx, Fx, Fx, Fx] (by kernel_rfl) ?_ | ((with_reducible show Qs _ _ _ _ _); first | refine hQe _ _ _ _ ?_ | refine hQr _ _ _ ?_) | simp (config := { maxSteps := 1000000 }) (disch := omega) only [↓sh, ↓sh2, ↓reduceIte, sx, sl, sb, st, nbeq_ne, dle, relo_eq, wrap_i64, Nat.reduceBEq, Nat.reduceLT, Nat.reduceLeDiff, Nat.reduceAdd, Nat.reduceMul, Nat.reduceEqDiff, Int.reduceEq, Int.reduceLT, Int.reduceLE, Int.reduceNeg, Int.reduceToNat, Bool.false_eq_true, eq_self, sa, *])
  refine wps_named2 (fun T1 H1 eT eH => ?_)
  have k1 : Ko H H1 := by rw [eH]; exact koW
  have n1 := congrArg Heap.next eH; have l1 := congrArg Heap.lo eH; have g1 := fun r => congrArg (fun h : Heap => h.objs.get r) eH
  try simp (disch := omega) only [sm, sl] at n1 l1 g1
  clear eH
  have u1_0 := congrArg (fun T : Tr Value => T.get 0) eT
  have u1_1 := congrArg (fun T : Tr Value => T.get 1) eT
  have u1_2 := congrArg (fun T : Tr Value => T.get 2) eT
  have u1_3 := congrArg (fun T : Tr Value => T.get 3) eT
  have u1_8 := congrArg (fun T : Tr Value => T.get 8) eT
  simp only [get_set, of_nil, of_1, of_2, of_3, of_4, of_5, Nat.reduceEqDiff, if_true, if_false, reduceIte] at u1_0 u1_1 u1_2 u1_3 u1_8
  clear eT
  refine wp_loopN (by kernel_rfl) (fun nn T X => ∃ i : Nat, nn = b - i ∧ (T.get 8 = some (.int .i64 i)) ∧ (T.get 0 = T1.get 0 ∧ T.get 1 = T1.get 1 ∧ T.get 2 = T1.get 2 ∧ T.get 3 = T1.get 3) ∧ True ∧ True ∧ (a < i ∧ i ≤ max b (a + 1) ∧ Ko H X ∧ X.lo = H.lo)) ?_ ?_
  · refine ⟨_, a + 1, rfl, ?_, ?_, trivial, trivial, ⟨by omega, by omega, by assumption, by assumption⟩⟩ <;> exact nextW
  rintro nn T1' X1 ⟨i, rfl, m1, w1, _, _, ⟨hi, hi2, kX1, lX1⟩⟩ Qs hQ hQr hQe
  have nX1 := kX1.nxt; have gX1 := kX1.objs
  by_cases hlt : i < b
  · repeat' (first | refine boolP_dec (fun _ => ?_) (fun _ => ?_) | apply boolP_not | refine boolP_b (fun _ => ?_) (fun _ => ?_) | refine wps_draw (id := 4) [Fx, Fx, Fx, Fx, Fx, Fx, Fx, Fx, Fx, Fx, Fx, Fx, Fx, Fx, Fx, Fx, Fx] (by kernel_rfl) ?_ | refine wps_draw (id := 6) [Fx, Fx, Fx, Fx, Fx, Fx, Fx, Fx, Fx, Fx, Fx, Fx, Fx, Fx, Fx, Fx, Fx, Fx] (by kernel_rfl) ?_ | ((with_reducible show Qs _ _ _ _ _); first | refine hQe _ _ _ _ ?_ | refine hQr _ _ _ ?_) | simp (config := { maxSteps := 1000000 }) (disch := omega) only [↓sh, ↓sh2, ↓reduceIte, sx, sl, sb, st, nbeq_ne, dle, relo_eq, wrap_i64, Nat.reduceBEq, Nat.reduceLT, Nat.reduceLeDiff, Nat.reduceAdd, Nat.reduceMul, Nat.reduceEqDiff, Int.reduceEq, Int.reduceLT, Int.reduceLE, Int.reduceNeg, Int.reduceToNat, Bool.false_eq_true, eq_self, sa, *])
    all_goals try omega
    have hQo := hQ
    refine wps_named2 (fun T2 H2 eT eH => ?_)
    have k2 : Ko H H2 := by rw [eH]; exact koW
    have n2 := congrArg Heap.next eH; have l2 := congrArg Heap.lo eH; have g2 := fun r => congrArg (fun h : Heap => h.objs.get r) eH
    try simp (disch := omega) only [sm, sl] at n2 l2 g2
    clear eH
    have u2_0 := congrArg (fun T : Tr Value => T.get 0) eT
    have u2_1 := congrArg (fun T : Tr Value => T.get 1) eT
    have u2_2 := congrArg (fun T : Tr Value => T.get 2) eT
    have u2_3 := congrArg (fun T : Tr Value => T.get 3) eT
    have u2_8 := congrArg (fun T : Tr Value => T.get 8) eT
    have u2_9 := congrArg (fun T : Tr Value => T.get 9) eT
    simp only [get_set, of_nil, of_1, of_2, of_3, of_4, of_5, Nat.reduceEqDiff, if_true, if_false, reduceIte] at u2_0 u2_1 u2_2 u2_3 u2_8 u2_9
    clear eT
    refine wp_loopN (by kernel_rfl) (fun nn T X => nn = 0 ∧ (T.get 9 = some (.int .i64 i)) ∧ (T.get 0 = T2.get 0 ∧ T.get 1 = T2.get 1 ∧ T.get 2 = T2.get 2 ∧ T.get 3 = T2.get 3 ∧ T.get 8 = T2.get 8) ∧ Ko H2 X ∧ X.lo = H2.lo ∧ (True)) ?_ ?_
    · refine ⟨_, rfl, ?_, ?_, Ko.refl _, rfl, trivial⟩ <;> exact nextW
    rintro nn T2' X2 ⟨rfl, m2, w2, kx2, lx2, _⟩ Qs hQ hQr hQe
    have kX2 := k2.trans kx2; have nx2 := kx2.nxt; have gx2 := kx2.objs
    obtain ⟨r, o, cells, gg, tt, part, rfl, hr1, hrow, hcut, rfl⟩ := hla i l[i] (by simp)
    obtain ⟨r', o', cells', gg', tt', part', e, hr2, hrow', hcut', rfl⟩ := hla (i - 1) l[i - 1] (by simp)
    cases e
    rw [hrow] at hrow'
    cases hrow'
    have hby := (byI_lt (hr (i - 1) i l[i - 1] l[i] (by omega) (by simp) (by simp))).1
    have a1 := at_nat (show i < l.length by omega)
    have a2 : at? ((i : Int) - 1) l.length = some (i - 1) := by rw [show (i : Int) - 1 = ((i - 1 : Nat) : Int) by omega]; exact at_nat (by omega)
    have e1 := kX2.objs r hr1
    have a3 : ((i : Int) - 1).toNat = i - 1 := by omega
    repeat' (first | refine boolP_dec (fun _ => ?_) (fun _ => ?_) | apply boolP_not | refine boolP_b (fun _ => ?_) (fun _ => ?_) | refine wps_draw (id := 4) [Fx, Fx, Fx, Fx, Fx, Fx, Fx, Fx, Fx, Fx, Fx, Fx, Fx, Fx, Fx, Fx, Fx] (by kernel_rfl) ?_ | refine wps_draw (id := 6) [Fx, Fx, Fx, Fx, Fx, Fx, Fx, Fx, Fx, Fx, Fx, Fx, Fx, Fx, Fx, Fx, Fx, Fx] (by kernel_rfl) ?_ | ((with_reducible show CallA _ _ _ _ _); refine call_ko (H0 := H) koW (by_ok _ loW _ _) ?_; intro H2 k2 l2 n2 g2 q2; try simp (disch := omega) only [sm, sl] at l2 n2 g2 q2) | ((with_reducible show Qs _ _ _ _ _); first | refine hQe _ _ _ _ ?_ | refine hQr _ _ _ ?_) | simp (config := { maxSteps := 1000000 }) (disch := omega) only [↓sh, ↓sh2, ↓reduceIte, sx, sl, sb, st, nbeq_ne, dle, relo_eq, wrap_i64, Nat.reduceBEq, Nat.reduceLT, Nat.reduceLeDiff, Nat.reduceAdd, Nat.reduceMul, Nat.reduceEqDiff, Int.reduceEq, Int.reduceLT, Int.reduceLE, Int.reduceNeg, Int.reduceToNat, Bool.false_eq_true, eq_self, sa, *])
    all_goals try omega
    have hQ := hQo
    refine hQ _ _ _ ?_ ⟨i + 1, rfl, ?_, ?_, trivial, trivial, ⟨by omega, by omega, ?_, ?_⟩⟩ <;> exact nextW
  · repeat' (first | refine boolP_dec (fun _ => ?_) (fun _ => ?_) | apply boolP_not | refine boolP_b (fun _ => ?_) (fun _ => ?_) | refine wps_draw (id := 4) [Fx, Fx, Fx, Fx, Fx, Fx, Fx, Fx, Fx, Fx, Fx, Fx, Fx, Fx, Fx, Fx, Fx] (by kernel_rfl) ?_ | refine wps_draw (id := 6) [Fx, Fx, Fx, Fx, Fx, Fx, Fx, Fx, Fx, Fx, Fx, Fx, Fx, Fx, Fx, Fx, Fx, Fx] (by kernel_rfl) ?_ | ((with_reducible show Qs _ _ _ _ _); first | refine hQe _ _ _ _ ?_ | refine hQr _ _ _ ?_) | simp (config := { maxSteps := 1000000 }) (disch := omega) only [↓sh, ↓sh2, ↓reduceIte, sx, sl, sb, st, nbeq_ne, dle, relo_eq, wrap_i64, Nat.reduceBEq, Nat.reduceLT, Nat.reduceLeDiff, Nat.reduceAdd, Nat.reduceMul, Nat.reduceEqDiff, Int.reduceEq, Int.reduceLT, Int.reduceLE, Int.reduceNeg, Int.reduceToNat, Bool.false_eq_true, eq_self, sa, *])
    · omega
    (first | (with_reducible exact sameW) | ((with_reducible show _ ∧ _); exact ⟨by first | rfl | (simp [*] <;> omega), sameW⟩))
end Go.AM
