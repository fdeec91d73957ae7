/-
  Walks over letters of the functions that the law reaches.
-/
import Derived.Test.YtbkhcbddbefepaaGreatG2
namespace Go.AM
attribute [local instance] fnMaps
open Go Go.Proofs
set_option maxRecDepth 100000
set_option maxHeartbeats 1000000
set_option linter.unusedSimpArgs false
theorem awake_ok (H : Heap) : CallA E (fnv 5) [] H fun v H' => v = .bool true ∧ H' = H := ⟨0, .bool true, H, by kernel_rfl, rfl, rfl⟩
theorem fn26 : E.fn.get 26 = some Tryz.f26 := by kernel_rfl
theorem r02_nil (H : Heap) (hlo : H.lo ≤ H.next) : CallA E (fnv 26) [.slice none 0 0, .slice none 0 0] H fun r H' => r = .bool true ∧ Same H H' := by
  refine callA_fn (by kernel_rfl) fn26 rfl rfl ?_
  simp only [Tryz.f26]
  repeat' (first | refine boolP_dec (fun _ => ?_) (fun _ => ?_) | apply boolP_not | refine boolP_b (fun _ => ?_) (fun _ => ?_) | refine wps_draw (id := 6) [Fx, Fx, Fx, Fx, Fx, Fx, Fx, Fx, Fx] (by kernel_rfl) ?_ | ((with_reducible show Qs _ _ _ _ _); first | refine hQe _ _ _ _ ?_ | refine hQr _ _ _ ?_) | simp (config := { maxSteps := 1000000 }) (disch := omega) only [↓sh, ↓sh2, ↓reduceIte, sx, sl, sb, st, nbeq_ne, dle, relo_eq, wrap_i64, Nat.reduceBEq, Nat.reduceLT, Nat.reduceLeDiff, Nat.reduceAdd, Nat.reduceMul, Nat.reduceEqDiff, Int.reduceEq, Int.reduceLT, Int.reduceLE, Int.reduceNeg, Int.reduceToNat, Bool.false_eq_true, eq_self, sa, *])
  refine wps_named2 (fun T1 H1 eT eH => ?_)
  have k1 : Ko H H1 := by rw [eH]; exact koW
  have n1 := congrArg Heap.next eH; have l1 := congrArg Heap.lo eH; have g1 := fun r => congrArg (fun h : Heap => h.objs.get r) eH
  try simp (disch := omega) only [sm, sl] at n1 l1 g1
  clear eH
  have u1_0 := congrArg (fun T : Tr Value => T.get 0) eT
  have u1_1 := congrArg (fun T : Tr Value => T.get 1) eT
  have u1_5 := congrArg (fun T : Tr Value => T.get 5) eT
  simp only [get_set, of_nil, of_1, of_2, of_3, of_4, of_5, Nat.reduceEqDiff, if_true, if_false, reduceIte] at u1_0 u1_1 u1_5
  clear eT
  refine wp_loopN (by kernel_rfl) (fun nn T X => nn = 0 ∧ (T.get 5 = some (.int .i64 0)) ∧ (T.get 0 = T1.get 0 ∧ T.get 1 = T1.get 1) ∧ Ko H1 X ∧ X.lo = H1.lo ∧ (True)) ?_ ?_
  · refine ⟨_, rfl, ?_, ?_, Ko.refl _, rfl, trivial⟩ <;> exact nextW
  rintro nn T1' X1 ⟨rfl, m1, w1, kx1, lx1, _⟩ Qs hQ hQr hQe
  have kX1 := k1.trans kx1; have nx1 := kx1.nxt; have gx1 := kx1.objs
  repeat' (first | refine boolP_dec (fun _ => ?_) (fun _ => ?_) | apply boolP_not | refine boolP_b (fun _ => ?_) (fun _ => ?_) | refine wps_draw (id := 6) [Fx, Fx, Fx, Fx, Fx, Fx, Fx, Fx, Fx] (by kernel_rfl) ?_ | ((with_reducible show Qs _ _ _ _ _); first | refine hQe _ _ _ _ ?_ | refine hQr _ _ _ ?_) | simp (config := { maxSteps := 1000000 }) (disch := omega) only [↓sh, ↓sh2, ↓reduceIte, sx, sl, sb, st, nbeq_ne, dle, relo_eq, wrap_i64, Nat.reduceBEq, Nat.reduceLT, Nat.reduceLeDiff, Nat.reduceAdd, Nat.reduceMul, Nat.reduceEqDiff, Int.reduceEq, Int.reduceLT, Int.reduceLE, Int.reduceNeg, Int.reduceToNat, Bool.false_eq_true, eq_self, sa, Int.natCast_zero, *])
  all_goals (first | (with_reducible exact sameW) | ((with_reducible show _ ∧ _); exact ⟨by first | rfl | (simp [*] <;> omega), sameW⟩))
theorem fn27 : E.fn.get 27 = some Tryz.f27 := by kernel_rfl
theorem r03_nil (H : Heap) (hlo : H.lo ≤ H.next) : CallA E (fnv 27) [.slice none 0 0, .slice none 0 0] H fun r H' => r = .bool true ∧ Same H H' := by
  refine callA_fn (by kernel_rfl) fn27 rfl rfl ?_
  simp only [Tryz.f27]
  repeat' (first | refine boolP_dec (fun _ => ?_) (fun _ => ?_) | apply boolP_not | refine boolP_b (fun _ => ?_) (fun _ => ?_) | refine wps_draw (id := 6) [Fx, Fx, Fx, Fx, Fx, Fx, Fx, Fx, Fx] (by kernel_rfl) ?_ | ((with_reducible show Qs _ _ _ _ _); first | refine hQe _ _ _ _ ?_ | refine hQr _ _ _ ?_) | simp (config := { maxSteps := 1000000 }) (disch := omega) only [↓sh, ↓sh2, ↓reduceIte, sx, sl, sb, st, nbeq_ne, dle, relo_eq, wrap_i64, Nat.reduceBEq, Nat.reduceLT, Nat.reduceLeDiff, Nat.reduceAdd, Nat.reduceMul, Nat.reduceEqDiff, Int.reduceEq, Int.reduceLT, Int.reduceLE, Int.reduceNeg, Int.reduceToNat, Bool.false_eq_true, eq_self, sa, *])
  refine wps_named2 (fun T1 H1 eT eH => ?_)
  have k1 : Ko H H1 := by rw [eH]; exact koW
  have n1 := congrArg Heap.next eH; have l1 := congrArg Heap.lo eH; have g1 := fun r => congrArg (fun h : Heap => h.objs.get r) eH
  try simp (disch := omega) only [sm, sl] at n1 l1 g1
  clear eH
  have u1_0 := congrArg (fun T : Tr Value => T.get 0) eT
  have u1_1 := congrArg (fun T : Tr Value => T.get 1) eT
  have u1_5 := congrArg (fun T : Tr Value => T.get 5) eT
  simp only [get_set, of_nil, of_1, of_2, of_3, of_4, of_5, Nat.reduceEqDiff, if_true, if_false, reduceIte] at u1_0 u1_1 u1_5
  clear eT
  refine wp_loopN (by kernel_rfl) (fun nn T X => nn = 0 ∧ (T.get 5 = some (.int .i64 0)) ∧ (T.get 0 = T1.get 0 ∧ T.get 1 = T1.get 1) ∧ Ko H1 X ∧ X.lo = H1.lo ∧ (True)) ?_ ?_
  · refine ⟨_, rfl, ?_, ?_, Ko.refl _, rfl, trivial⟩ <;> exact nextW
  rintro nn T1' X1 ⟨rfl, m1, w1, kx1, lx1, _⟩ Qs hQ hQr hQe
  have kX1 := k1.trans kx1; have nx1 := kx1.nxt; have gx1 := kx1.objs
  repeat' (first | refine boolP_dec (fun _ => ?_) (fun _ => ?_) | apply boolP_not | refine boolP_b (fun _ => ?_) (fun _ => ?_) | refine wps_draw (id := 6) [Fx, Fx, Fx, Fx, Fx, Fx, Fx, Fx, Fx] (by kernel_rfl) ?_ | ((with_reducible show Qs _ _ _ _ _); first | refine hQe _ _ _ _ ?_ | refine hQr _ _ _ ?_) | simp (config := { maxSteps := 1000000 }) (disch := omega) only [↓sh, ↓sh2, ↓reduceIte, sx, sl, sb, st, nbeq_ne, dle, relo_eq, wrap_i64, Nat.reduceBEq, Nat.reduceLT, Nat.reduceLeDiff, Nat.reduceAdd, Nat.reduceMul, Nat.reduceEqDiff, Int.reduceEq, Int.reduceLT, Int.reduceLE, Int.reduceNeg, Int.reduceToNat, Bool.false_eq_true, eq_self, sa, Int.natCast_zero, *])
  all_goals (first | (with_reducible exact sameW) | ((with_reducible show _ ∧ _); exact ⟨by first | rfl | (simp [*] <;> omega), sameW⟩))
theorem fn28 : E.fn.get 28 = some Tryz.f28 := by kernel_rfl
theorem r14_nil (H : Heap) (hlo : H.lo ≤ H.next) : CallA E (fnv 28) [.slice none 0 0, .slice none 0 0] H fun r H' => r = .bool true ∧ Same H H' := by
  refine callA_fn (by kernel_rfl) fn28 rfl rfl ?_
  simp only [Tryz.f28]
  repeat' (first | refine boolP_dec (fun _ => ?_) (fun _ => ?_) | apply boolP_not | refine boolP_b (fun _ => ?_) (fun _ => ?_) | refine wps_draw (id := 6) [Fx, Fx, Fx, Fx, Fx, Fx, Fx, Fx, Fx] (by kernel_rfl) ?_ | ((with_reducible show Qs _ _ _ _ _); first | refine hQe _ _ _ _ ?_ | refine hQr _ _ _ ?_) | simp (config := { maxSteps := 1000000 }) (disch := omega) only [↓sh, ↓sh2, ↓reduceIte, sx, sl, sb, st, nbeq_ne, dle, relo_eq, wrap_i64, Nat.reduceBEq, Nat.reduceLT, Nat.reduceLeDiff, Nat.reduceAdd, Nat.reduceMul, Nat.reduceEqDiff, Int.reduceEq, Int.reduceLT, Int.reduceLE, Int.reduceNeg, Int.reduceToNat, Bool.false_eq_true, eq_self, sa, *])
  refine wps_named2 (fun T1 H1 eT eH => ?_)
  have k1 : Ko H H1 := by rw [eH]; exact koW
  have n1 := congrArg Heap.next eH; have l1 := congrArg Heap.lo eH; have g1 := fun r => congrArg (fun h : Heap => h.objs.get r) eH
  try simp (disch := omega) only [sm, sl] at n1 l1 g1
  clear eH
  have u1_0 := congrArg (fun T : Tr Value => T.get 0) eT
  have u1_1 := congrArg (fun T : Tr Value => T.get 1) eT
  have u1_5 := congrArg (fun T : Tr Value => T.get 5) eT
  simp only [get_set, of_nil, of_1, of_2, of_3, of_4, of_5, Nat.reduceEqDiff, if_true, if_false, reduceIte] at u1_0 u1_1 u1_5
  clear eT
  refine wp_loopN (by kernel_rfl) (fun nn T X => nn = 0 ∧ (T.get 5 = some (.int .i64 0)) ∧ (T.get 0 = T1.get 0 ∧ T.get 1 = T1.get 1) ∧ Ko H1 X ∧ X.lo = H1.lo ∧ (True)) ?_ ?_
  · refine ⟨_, rfl, ?_, ?_, Ko.refl _, rfl, trivial⟩ <;> exact nextW
  rintro nn T1' X1 ⟨rfl, m1, w1, kx1, lx1, _⟩ Qs hQ hQr hQe
  have kX1 := k1.trans kx1; have nx1 := kx1.nxt; have gx1 := kx1.objs
  repeat' (first | refine boolP_dec (fun _ => ?_) (fun _ => ?_) | apply boolP_not | refine boolP_b (fun _ => ?_) (fun _ => ?_) | refine wps_draw (id := 6) [Fx, Fx, Fx, Fx, Fx, Fx, Fx, Fx, Fx] (by kernel_rfl) ?_ | ((with_reducible show Qs _ _ _ _ _); first | refine hQe _ _ _ _ ?_ | refine hQr _ _ _ ?_) | simp (config := { maxSteps := 1000000 }) (disch := omega) only [↓sh, ↓sh2, ↓reduceIte, sx, sl, sb, st, nbeq_ne, dle, relo_eq, wrap_i64, Nat.reduceBEq, Nat.reduceLT, Nat.reduceLeDiff, Nat.reduceAdd, Nat.reduceMul, Nat.reduceEqDiff, Int.reduceEq, Int.reduceLT, Int.reduceLE, Int.reduceNeg, Int.reduceToNat, Bool.false_eq_true, eq_self, sa, Int.natCast_zero, *])
  all_goals (first | (with_reducible exact sameW) | ((with_reducible show _ ∧ _); exact ⟨by first | rfl | (simp [*] <;> omega), sameW⟩))
def zst : Value := .agg #[.int .i64 0, .int .i64 0, .int .i64 0, .int .i64 0, .bool false, .slice none 0 0, .int .i64 0, .slice none 0 0, .slice none 0 0, .slice none 0 0]
theorem fn10 : E.fn.get 10 = some Tryz.f10 := by kernel_rfl
theorem r15_nil (H : Heap) (hlo : H.lo ≤ H.next) : CallA E (fnv 10) [zst, zst] H fun r H' => r = .bool true ∧ Same H H' := by
  refine callA_fn (by kernel_rfl) fn10 rfl rfl ?_
  simp only [Tryz.f10]
  simp only [zst]
  repeat' (first | refine boolP_dec (fun _ => ?_) (fun _ => ?_) | apply boolP_not | refine boolP_b (fun _ => ?_) (fun _ => ?_) | ((with_reducible show CallA _ _ _ _ _); (first | refine call_ko (H0 := H) koW (r02_nil _ loW) ?_ | refine call_ko (H0 := H) koW (r03_nil _ loW) ?_ | refine call_ko (H0 := H) koW (r14_nil _ loW) ?_); intro H2 k2 l2 n2 g2 q2; try simp (disch := omega) only [sm, sl] at l2 n2 g2 q2) | ((with_reducible show Qs _ _ _ _ _); first | refine hQe _ _ _ _ ?_ | refine hQr _ _ _ ?_) | simp (config := { maxSteps := 1000000 }) (disch := omega) only [↓sh, ↓sh2, ↓reduceIte, sx, sl, sb, st, nbeq_ne, dle, relo_eq, wrap_i64, Nat.reduceBEq, Nat.reduceLT, Nat.reduceLeDiff, Nat.reduceAdd, Nat.reduceMul, Nat.reduceEqDiff, Int.reduceEq, Int.reduceLT, Int.reduceLE, Int.reduceNeg, Int.reduceToNat, Bool.false_eq_true, eq_self, sa, *])
  all_goals first | exact ⟨rfl, sameW⟩ | (with_reducible exact sameW) | (exfalso; simp_all)
theorem fn11 : E.fn.get 11 = some Tryz.f11 := by kernel_rfl
theorem hstate_d (H : Heap) (hlo : H.lo ≤ H.next) {x : Value} (hd : Dead H x) : CallA E (fnv 11) [x] H fun r H' => r = zst ∧ Same H H' := by
  refine callA_fn (by kernel_rfl) fn11 rfl rfl ?_
  simp only [Tryz.f11]
  repeat' (first | refine boolP_dec (fun _ => ?_) (fun _ => ?_) | apply boolP_not | refine boolP_b (fun _ => ?_) (fun _ => ?_) | ((with_reducible show CallA _ _ _ _ _); refine call_ko (H0 := H) koW (hdead_ok _ loW (hd.ko koW)) ?_; intro H2 k2 l2 n2 g2 q2; try simp (disch := omega) only [sm, sl] at l2 n2 g2 q2) | ((with_reducible show Qs _ _ _ _ _); first | refine hQe _ _ _ _ ?_ | refine hQr _ _ _ ?_) | simp (config := { maxSteps := 1000000 }) (disch := omega) only [↓sh, ↓sh2, ↓reduceIte, sx, sl, sb, st, nbeq_ne, dle, relo_eq, wrap_i64, Nat.reduceBEq, Nat.reduceLT, Nat.reduceLeDiff, Nat.reduceAdd, Nat.reduceMul, Nat.reduceEqDiff, Int.reduceEq, Int.reduceLT, Int.reduceLE, Int.reduceNeg, Int.reduceToNat, Bool.false_eq_true, eq_self, sa, *])
  all_goals (first | (with_reducible exact sameW) | ((with_reducible show _ ∧ _); exact ⟨by first | rfl | (simp [zst, *] <;> omega), sameW⟩))
theorem fn9 : E.fn.get 9 = some Tryz.f9 := by kernel_rfl
theorem hcount_d (H : Heap) (hlo : H.lo ≤ H.next) {x : Value} (hd : Dead H x) : CallA E (fnv 9) [x] H fun r H' => r = .int .i64 0 ∧ Same H H' := by
  refine callA_fn (by kernel_rfl) fn9 rfl rfl ?_
  simp only [Tryz.f9]
  repeat' (first | refine boolP_dec (fun _ => ?_) (fun _ => ?_) | apply boolP_not | refine boolP_b (fun _ => ?_) (fun _ => ?_) | ((with_reducible show CallA _ _ _ _ _); refine call_ko (H0 := H) koW (hdead_ok _ loW (hd.ko koW)) ?_; intro H2 k2 l2 n2 g2 q2; try simp (disch := omega) only [sm, sl] at l2 n2 g2 q2) | ((with_reducible show Qs _ _ _ _ _); first | refine hQe _ _ _ _ ?_ | refine hQr _ _ _ ?_) | simp (config := { maxSteps := 1000000 }) (disch := omega) only [↓sh, ↓sh2, ↓reduceIte, sx, sl, sb, st, nbeq_ne, dle, relo_eq, wrap_i64, Nat.reduceBEq, Nat.reduceLT, Nat.reduceLeDiff, Nat.reduceAdd, Nat.reduceMul, Nat.reduceEqDiff, Int.reduceEq, Int.reduceLT, Int.reduceLE, Int.reduceNeg, Int.reduceToNat, Bool.false_eq_true, eq_self, sa, *])
  all_goals (first | (with_reducible exact sameW) | ((with_reducible show _ ∧ _); exact ⟨by first | rfl | (simp [*] <;> omega), sameW⟩))
structure Opn where
  d : Int
  h : Int
  g : Int
  i : Int
  vk : Int
  vx : Int
  w : Int
  k : Int
  f : Int
  r : Int
  p : Int
def opV (o : Opn) : Value := .agg #[.int .i64 o.d, .int .i64 o.h, .int .i64 o.g, .int .i64 o.i, .int .i64 o.vk, .int .i64 o.vx, .int .u64 o.w, .int .i64 o.k, .int .i64 o.f, .int .i64 o.r, .int .u8 o.p]
def ansV (e : Int) : Value := .agg #[.int .i64 e, .int .i64 0, .int .i64 0, .int .i64 0, .int .u64 0, .bool false, .int .i64 0, .int .i64 0, .int .i64 0]
def wrkV : Value := .agg #[.int .i64 0, .int .i64 0, .int .i64 0, .int .i64 0, .int .i64 0]
def doE (d : Int) : Int := if 1 ≤ d ∧ d ≤ 10 then 10 else 1
theorem fn8 : E.fn.get 8 = some Tryz.f8 := by kernel_rfl
theorem do_d (H : Heap) (hlo : H.lo ≤ H.next) {x : Value} (hd : Dead H x) (o : Opn) : CallA E (fnv 8) [x, opV o] H fun r H' => r = .tuple #[ansV (doE o.d), wrkV] ∧ Same H H' := by
  refine callA_fn (by kernel_rfl) fn8 rfl rfl ?_
  simp only [Tryz.f8]
  simp only [opV]
  repeat' (first | refine boolP_dec (fun _ => ?_) (fun _ => ?_) | apply boolP_not | refine boolP_b (fun _ => ?_) (fun _ => ?_) | refine wps_draw (id := 25) [Fx, Fx, (false, [1], []), Fx] (by kernel_rfl) ?_ | ((with_reducible show CallA _ _ _ _ _); (first | refine call_ko (H0 := H) koW (halloc_d _ loW (hd.ko koW) _ _ _ _) ?_ | refine call_ko (H0 := H) koW (hload_d _ loW (hd.ko koW) _ _) ?_ | refine call_ko (H0 := H) koW (hstore_d _ loW (hd.ko koW) _ _ _ _) ?_ | refine call_ko (H0 := H) koW (hread_d _ loW (hd.ko koW) _ _) ?_ | refine call_ko (H0 := H) koW (hwrite_d _ loW (hd.ko koW) _ _ _) ?_ | refine call_ko (H0 := H) koW (hsame_d _ loW (hd.ko koW) _ _) ?_ | refine call_ko (H0 := H) koW (hdup_d _ loW (hd.ko koW) _) ?_ | refine call_ko (H0 := H) koW (hrelease_d _ loW (hd.ko koW) _) ?_ | refine call_ko (H0 := H) koW (hcollect_d _ loW (hd.ko koW) _) ?_ | refine call_ko (H0 := H) koW (hwhat_d _ loW (hd.ko koW) _) ?_); intro H2 k2 l2 n2 g2 q2; try simp (disch := omega) only [sm, sl] at l2 n2 g2 q2) | ((with_reducible show Qs _ _ _ _ _); first | refine hQe _ _ _ _ ?_ | refine hQr _ _ _ ?_) | simp (config := { maxSteps := 1000000 }) (disch := omega) only [↓sh, ↓sh2, ↓reduceIte, sx, sl, sb, st, nbeq_ne, dle, relo_eq, wrap_i64, Nat.reduceBEq, Nat.reduceLT, Nat.reduceLeDiff, Nat.reduceAdd, Nat.reduceMul, Nat.reduceEqDiff, Int.reduceEq, Int.reduceLT, Int.reduceLE, Int.reduceNeg, Int.reduceToNat, Bool.false_eq_true, eq_self, sa, *])
  all_goals first | exact ⟨rfl, sameW⟩ | (rw [show doE o.d = 1 by unfold doE; rw [if_neg (by omega)]]; exact ⟨rfl, sameW⟩)
def largeS (s : St) : Prop := 400 < s.words.length ∨ 60 < s.table.length ∨ 60 < s.free.length ∨ 100 < s.slots.length
instance (s : St) : Decidable (largeS s) := by unfold largeS; infer_instance
theorem fn4 : E.fn.get 4 = some Tryz.f4 := by kernel_rfl
theorem large_ok (H : Heap) (hlo : H.lo ≤ H.next) {s : St} {w t f zl : Value} (hS : StS H s w t f zl) : CallA E (fnv 4) [stV s w t f zl] H fun r H' => r = .bool (decide (largeS s)) ∧ Same H H' := by
  obtain ⟨⟨wa, wc, rfl, _⟩, _⟩ := hS.w
  obtain ⟨⟨ta, tc, rfl, _⟩, _⟩ := hS.t
  obtain ⟨⟨fa, fc, rfl, _⟩, _⟩ := hS.f
  obtain ⟨⟨sa', sc, rfl, _⟩, _⟩ := hS.sl
  refine callA_fn (by kernel_rfl) fn4 rfl rfl ?_
  simp only [Tryz.f4]
  simp only [stV]
  by_cases c1 : 400 < s.words.length
  · repeat' (first | refine boolP_dec (fun _ => ?_) (fun _ => ?_) | apply boolP_not | refine boolP_b (fun _ => ?_) (fun _ => ?_) | ((with_reducible show Qs _ _ _ _ _); first | refine hQe _ _ _ _ ?_ | refine hQr _ _ _ ?_) | simp (config := { maxSteps := 1000000 }) (disch := omega) only [↓sh, ↓sh2, ↓reduceIte, sx, sl, sb, st, nbeq_ne, dle, relo_eq, wrap_i64, Nat.reduceBEq, Nat.reduceLT, Nat.reduceLeDiff, Nat.reduceAdd, Nat.reduceMul, Nat.reduceEqDiff, Int.reduceEq, Int.reduceLT, Int.reduceLE, Int.reduceNeg, Int.reduceToNat, Bool.false_eq_true, eq_self, sa, *])
    all_goals ((with_reducible show _ ∧ _); exact ⟨bool_of (by simp only [decide_eq_true_eq, Bool.false_eq_true, true_iff, false_iff, largeS]; first | omega | (simp [*] <;> omega)), sameW⟩)
  · by_cases c2 : 60 < s.table.length
    · repeat' (first | refine boolP_dec (fun _ => ?_) (fun _ => ?_) | apply boolP_not | refine boolP_b (fun _ => ?_) (fun _ => ?_) | ((with_reducible show Qs _ _ _ _ _); first | refine hQe _ _ _ _ ?_ | refine hQr _ _ _ ?_) | simp (config := { maxSteps := 1000000 }) (disch := omega) only [↓sh, ↓sh2, ↓reduceIte, sx, sl, sb, st, nbeq_ne, dle, relo_eq, wrap_i64, Nat.reduceBEq, Nat.reduceLT, Nat.reduceLeDiff, Nat.reduceAdd, Nat.reduceMul, Nat.reduceEqDiff, Int.reduceEq, Int.reduceLT, Int.reduceLE, Int.reduceNeg, Int.reduceToNat, Bool.false_eq_true, eq_self, sa, *])
      all_goals ((with_reducible show _ ∧ _); exact ⟨bool_of (by simp only [decide_eq_true_eq, Bool.false_eq_true, true_iff, false_iff, largeS]; first | omega | (simp [*] <;> omega)), sameW⟩)
    · by_cases c3 : 60 < s.free.length
      · repeat' (first | refine boolP_dec (fun _ => ?_) (fun _ => ?_) | apply boolP_not | refine boolP_b (fun _ => ?_) (fun _ => ?_) | ((with_reducible show Qs _ _ _ _ _); first | refine hQe _ _ _ _ ?_ | refine hQr _ _ _ ?_) | simp (config := { maxSteps := 1000000 }) (disch := omega) only [↓sh, ↓sh2, ↓reduceIte, sx, sl, sb, st, nbeq_ne, dle, relo_eq, wrap_i64, Nat.reduceBEq, Nat.reduceLT, Nat.reduceLeDiff, Nat.reduceAdd, Nat.reduceMul, Nat.reduceEqDiff, Int.reduceEq, Int.reduceLT, Int.reduceLE, Int.reduceNeg, Int.reduceToNat, Bool.false_eq_true, eq_self, sa, *])
        all_goals ((with_reducible show _ ∧ _); exact ⟨bool_of (by simp only [decide_eq_true_eq, Bool.false_eq_true, true_iff, false_iff, largeS]; first | omega | (simp [*] <;> omega)), sameW⟩)
      · repeat' (first | refine boolP_dec (fun _ => ?_) (fun _ => ?_) | apply boolP_not | refine boolP_b (fun _ => ?_) (fun _ => ?_) | ((with_reducible show Qs _ _ _ _ _); first | refine hQe _ _ _ _ ?_ | refine hQr _ _ _ ?_) | simp (config := { maxSteps := 1000000 }) (disch := omega) only [↓sh, ↓sh2, ↓reduceIte, sx, sl, sb, st, nbeq_ne, dle, relo_eq, wrap_i64, Nat.reduceBEq, Nat.reduceLT, Nat.reduceLeDiff, Nat.reduceAdd, Nat.reduceMul, Nat.reduceEqDiff, Int.reduceEq, Int.reduceLT, Int.reduceLE, Int.reduceNeg, Int.reduceToNat, Bool.false_eq_true, eq_self, sa, *])
        all_goals ((with_reducible show _ ∧ _); exact ⟨bool_of (by simp only [decide_eq_true_eq, Bool.false_eq_true, true_iff, false_iff, largeS]; first | omega | (simp [*] <;> omega)), sameW⟩)
end Go.AM
