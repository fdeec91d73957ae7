/-
  Walks over letters of the functions that the law reaches.
-/
import Derived.Test.YtbkhcbddbefepaaGreatC19
namespace Go.AM
attribute [local instance] fnMaps
open Go Go.Proofs
set_option maxRecDepth 100000
set_option maxHeartbeats 1000000
set_option linter.unusedSimpArgs false
def stV (s : St) (w t f zl : Value) : Value := .agg #[.int .i64 s.cfg.semi, .int .i64 s.cfg.large, .int .i64 s.cfg.slots, .int .i64 s.cfg.limit, .bool s.second, w, .int .i64 s.top, t, f, zl]
theorem isCell_func (f : Fn) (a b : Array Value) : isCell (.func f a b) = true := Eq.trans rfl rfl
theorem cellsV_func (f : Fn) (a b : Array Value) : cellsV (.func f a b) = [.func f a b] := Eq.trans rfl rfl
theorem fn48 : E.fn.get 48 = some Tryz.f48 := by kernel_rfl
theorem rules_ok (H : Heap) (hlo : H.lo ≤ H.next) : CallA E (fnv 48) [] H fun r H' => r = .slice (some ⟨H.next, 0, none⟩) 9 9 ∧ H' = H.newRow kRules := by
  refine callA_fn (by kernel_rfl) fn48 rfl rfl ?_
  simp only [Tryz.f48]
  repeat' (first | refine boolP_dec (fun _ => ?_) (fun _ => ?_) | apply boolP_not | refine boolP_b (fun _ => ?_) (fun _ => ?_) | ((with_reducible show Qs _ _ _ _ _); first | refine hQe _ _ _ _ ?_ | refine hQr _ _ _ ?_) | simp (config := { maxSteps := 1000000 }) (disch := omega) only [↓sh, ↓sh2, ↓reduceIte, sx, sl, sb, st, nbeq_ne, dle, relo_eq, wrap_i64, Nat.reduceBEq, Nat.reduceLT, Nat.reduceLeDiff, Nat.reduceAdd, Nat.reduceMul, Nat.reduceEqDiff, Int.reduceEq, Int.reduceLT, Int.reduceLE, Int.reduceNeg, Int.reduceToNat, Bool.false_eq_true, eq_self, sa, ble_dec, repeat_succ, repeat_zero, List.nil_append, List.cons_append, List.length_cons, List.length_nil, List.drop_succ_cons, List.drop_zero, cellsV_func, isCell_func, *])
  rfl
theorem checkFrom_stop (s : St) {i : Nat} (hi : i < 9) (h : ∀ k, k < i → ruleB s k = true) (hb : ruleB s i = false) : checkN s = (i : Int) + 1 := by
  have key : ∀ n k, k + n = 9 → k ≤ i → checkFrom s k n = (i : Int) + 1 := by
    intro n
    induction n with
    | zero => intro k h1 h2; omega
    | succ n ih =>
      intro k h1 h2
      by_cases e : k = i
      · subst e; unfold checkFrom; rw [hb]; rfl
      · unfold checkFrom; rw [if_pos (h k (by omega))]; exact ih (k + 1) (by omega) (by omega)
  exact key 9 0 rfl (Nat.zero_le _)
theorem checkFrom_all (s : St) (h : ∀ k, k < 9 → ruleB s k = true) : checkN s = 0 := by
  have key : ∀ n k, k + n = 9 → checkFrom s k n = 0 := by
    intro n
    induction n with
    | zero => intro k _; rfl
    | succ n ih => intro k h1; unfold checkFrom; rw [if_pos (h k (by omega))]; exact ih (k + 1) (by omega)
  exact key 9 0 rfl
theorem kRules_get {i : Nat} (h : i < 9) : kRules[i]? = some (kRules.getD i .nilFunc) := by
  rw [List.getD_eq_getElem?_getD, List.getElem?_eq_getElem (show i < kRules.length from h)]; rfl
theorem fn24 : E.fn.get 24 = some Tryz.f24 := by kernel_rfl
theorem judge_ok (H : Heap) (hlo : H.lo ≤ H.next) {s : St} {w t f zl : Value} (hS : StS H s w t f zl) (hok : StOk s) : CallA E (fnv 24) [stV s w t f zl] H fun r H' => ∃ lp, r = .tuple #[ptr lp 0, .int .i64 (checkN s)] ∧ H.next ≤ lp ∧ lp < H'.next ∧ Same H H' ∧ (checkN s = 0 → ∃ a rw m smv, Lk H' lp s w t f zl a rw m smv (smallR s).1 (keysL s)) := by
  have hS0 := hS
  obtain ⟨⟨wa, wc, rfl, _⟩, _⟩ := hS.w
  obtain ⟨⟨ta, tc, rfl, _⟩, _⟩ := hS.t
  obtain ⟨⟨fa, fc, rfl, _⟩, _⟩ := hS.f
  obtain ⟨⟨sa', sc, rfl, _⟩, _⟩ := hS.sl
  refine callA_fn (by kernel_rfl) fn24 rfl rfl ?_
  simp only [Tryz.f24]
  simp only [stV]
  repeat' (first | refine boolP_dec (fun _ => ?_) (fun _ => ?_) | apply boolP_not | refine boolP_b (fun _ => ?_) (fun _ => ?_) | ((with_reducible show Qs _ _ _ _ _); first | refine hQe _ _ _ _ ?_ | refine hQr _ _ _ ?_) | simp (config := { maxSteps := 1000000 }) (disch := omega) only [↓sh, ↓sh2, ↓reduceIte, sx, sl, sb, st, nbeq_ne, dle, relo_eq, wrap_i64, Nat.reduceBEq, Nat.reduceLT, Nat.reduceLeDiff, Nat.reduceAdd, Nat.reduceMul, Nat.reduceEqDiff, Int.reduceEq, Int.reduceLT, Int.reduceLE, Int.reduceNeg, Int.reduceToNat, Bool.false_eq_true, eq_self, sa, *])
  refine (rules_ok _ loW).mono ?_
  rintro v H2 ⟨rfl, rfl⟩
  repeat' (first | refine boolP_dec (fun _ => ?_) (fun _ => ?_) | apply boolP_not | refine boolP_b (fun _ => ?_) (fun _ => ?_) | ((with_reducible show Qs _ _ _ _ _); first | refine hQe _ _ _ _ ?_ | refine hQr _ _ _ ?_) | simp (config := { maxSteps := 1000000 }) (disch := omega) only [↓sh, ↓sh2, ↓reduceIte, sx, sl, sb, st, nbeq_ne, dle, relo_eq, wrap_i64, Nat.reduceBEq, Nat.reduceLT, Nat.reduceLeDiff, Nat.reduceAdd, Nat.reduceMul, Nat.reduceEqDiff, Int.reduceEq, Int.reduceLT, Int.reduceLE, Int.reduceNeg, Int.reduceToNat, Bool.false_eq_true, eq_self, sa, *])
  refine wps_named2 (fun T1 H1 eT eH => ?_)
  have b1 : Bas H H1 (H.next + 1) (H.next + 1 + 1) := by
    refine ⟨by rw [eH]; exact koW, by rw [eH]; simp (disch := omega) only [setRow_get, newRow_get, newRow_next, setRow_next, newRow_lo, setRow_lo, newRow_grps, setRow_grps, newRow_relo, setRow_relo, relo_objs, relo_next, relo_lo, nbeq_ne, sl], by omega, by rw [eH]; simp (disch := omega) only [setRow_get, newRow_get, newRow_next, setRow_next, newRow_lo, setRow_lo, newRow_grps, setRow_grps, newRow_relo, setRow_relo, relo_objs, relo_next, relo_lo, nbeq_ne, sl]; omega, by omega, by rw [eH]; simp (disch := omega) only [setRow_get, newRow_get, newRow_next, setRow_next, newRow_lo, setRow_lo, newRow_grps, setRow_grps, newRow_relo, setRow_relo, relo_objs, relo_next, relo_lo, nbeq_ne, sl]; omega, by rw [eH]; simp (disch := omega) only [setRow_get, newRow_get, newRow_next, setRow_next, newRow_lo, setRow_lo, newRow_grps, setRow_grps, newRow_relo, setRow_relo, relo_objs, relo_next, relo_lo, nbeq_ne, sl], by omega⟩
  have g1 : Stg H (H.next + 1) s (.slice wa s.words.length wc) (.slice ta s.table.length tc) (.slice fa s.free.length fc) (.slice sa' s.slots.length sc) 0 H1 := by
    unfold Stg
    rw [if_pos (by omega), eH]
    simp (disch := omega) only [setRow_get, newRow_get, newRow_next, setRow_next, newRow_lo, setRow_lo, newRow_grps, setRow_grps, newRow_relo, setRow_relo, relo_objs, relo_next, relo_lo, nbeq_ne, sl, lkC]
  have t10 : T1.get 10 = some (.slice (some ⟨H.next + 1 + 1, 0, none⟩) 9 9) := by rw [eT]; simp (config := { maxSteps := 1000000 }) (disch := omega) only [↓sh, ↓sh2, ↓reduceIte, sx, sl, sb, st, nbeq_ne, dle, relo_eq, wrap_i64, Nat.reduceBEq, Nat.reduceLT, Nat.reduceLeDiff, Nat.reduceAdd, Nat.reduceMul, Nat.reduceEqDiff, Int.reduceEq, Int.reduceLT, Int.reduceLE, Int.reduceNeg, Int.reduceToNat, Bool.false_eq_true, eq_self]
  have t11 : T1.get 11 = some (.int .i64 9) := by rw [eT]; simp (config := { maxSteps := 1000000 }) (disch := omega) only [↓sh, ↓sh2, ↓reduceIte, sx, sl, sb, st, nbeq_ne, dle, relo_eq, wrap_i64, Nat.reduceBEq, Nat.reduceLT, Nat.reduceLeDiff, Nat.reduceAdd, Nat.reduceMul, Nat.reduceEqDiff, Int.reduceEq, Int.reduceLT, Int.reduceLE, Int.reduceNeg, Int.reduceToNat, Bool.false_eq_true, eq_self]; rfl
  have t12 : T1.get 12 = some (.int .i64 0) := by rw [eT]; simp (config := { maxSteps := 1000000 }) (disch := omega) only [↓sh, ↓sh2, ↓reduceIte, sx, sl, sb, st, nbeq_ne, dle, relo_eq, wrap_i64, Nat.reduceBEq, Nat.reduceLT, Nat.reduceLeDiff, Nat.reduceAdd, Nat.reduceMul, Nat.reduceEqDiff, Int.reduceEq, Int.reduceLT, Int.reduceLE, Int.reduceNeg, Int.reduceToNat, Bool.false_eq_true, eq_self]
  have t4 : T1.get 4 = some (ptr (H.next + 1) 0) := by rw [eT]; simp (config := { maxSteps := 1000000 }) (disch := omega) only [↓sh, ↓sh2, ↓reduceIte, sx, sl, sb, st, nbeq_ne, dle, relo_eq, wrap_i64, Nat.reduceBEq, Nat.reduceLT, Nat.reduceLeDiff, Nat.reduceAdd, Nat.reduceMul, Nat.reduceEqDiff, Int.reduceEq, Int.reduceLT, Int.reduceLE, Int.reduceNeg, Int.reduceToNat, Bool.false_eq_true, eq_self]
  clear eT eH
  refine wp_loopN (by kernel_rfl) (fun nn T X => ∃ i : Nat, nn = 9 - i ∧ i ≤ 9 ∧ T.get 12 = some (.int .i64 i) ∧ T.get 10 = some (.slice (some ⟨H.next + 1 + 1, 0, none⟩) 9 9) ∧ T.get 11 = some (.int .i64 9) ∧ T.get 4 = some (ptr (H.next + 1) 0) ∧ Bas H X (H.next + 1) (H.next + 1 + 1) ∧
    Stg H (H.next + 1) s (.slice wa s.words.length wc) (.slice ta s.table.length tc) (.slice fa s.free.length fc) (.slice sa' s.slots.length sc) i X ∧ ∀ k, k < i → ruleB s k = true) ⟨_, 0, rfl, Nat.zero_le _, t12, t10, t11, t4, b1, g1, fun k h => absurd h (by omega)⟩ ?_
  rintro nn T X ⟨i, rfl, hi, u12, u10, u11, u4, bX, gX, hall⟩ Qs hQ hQr hQe
  have rX := bX.row
  have lX := bX.lo
  have lrX := bX.r2
  by_cases hlt : i < 9
  · have a1 : at? (i : Int) 9 = some i := at_nat hlt
    have hk := kRules_get hlt
    repeat' (first | refine boolP_dec (fun _ => ?_) (fun _ => ?_) | apply boolP_not | refine boolP_b (fun _ => ?_) (fun _ => ?_) | ((with_reducible show Qs _ _ _ _ _); first | refine hQe _ _ _ _ ?_ | refine hQr _ _ _ ?_) | simp (config := { maxSteps := 1000000 }) (disch := omega) only [↓sh, ↓sh2, ↓reduceIte, sx, sl, sb, st, nbeq_ne, dle, relo_eq, wrap_i64, Nat.reduceBEq, Nat.reduceLT, Nat.reduceLeDiff, Nat.reduceAdd, Nat.reduceMul, Nat.reduceEqDiff, Int.reduceEq, Int.reduceLT, Int.reduceLE, Int.reduceNeg, Int.reduceToNat, Bool.false_eq_true, eq_self, sa, *])
    all_goals try omega
    refine (stage_step hlo hS0 hok i hlt gX bX hall).mono ?_
    rintro r X2 ⟨rfl, bY, gY⟩
    have lY := bY.lo
    cases hb : ruleB s i with
    | true =>
      repeat' (first | refine boolP_dec (fun _ => ?_) (fun _ => ?_) | apply boolP_not | refine boolP_b (fun _ => ?_) (fun _ => ?_) | ((with_reducible show Qs _ _ _ _ _); first | refine hQe _ _ _ _ ?_ | refine hQr _ _ _ ?_) | simp (config := { maxSteps := 1000000 }) (disch := omega) only [↓sh, ↓sh2, ↓reduceIte, sx, sl, sb, st, nbeq_ne, dle, relo_eq, wrap_i64, Nat.reduceBEq, Nat.reduceLT, Nat.reduceLeDiff, Nat.reduceAdd, Nat.reduceMul, Nat.reduceEqDiff, Int.reduceEq, Int.reduceLT, Int.reduceLE, Int.reduceNeg, Int.reduceToNat, Bool.false_eq_true, eq_self, sa, *])
      refine hQ _ _ _ ?_ ⟨i + 1, rfl, by omega, ?_, ?_, ?_, ?_, bY, gY hb, fun k hk => ?_⟩
      · omega
      iterate 4 exact nextW
      · by_cases e : k = i
        · rw [e]; exact hb
        · exact hall k (by omega)
    | false =>
      have hc := checkFrom_stop s hlt hall hb
      repeat' (first | refine boolP_dec (fun _ => ?_) (fun _ => ?_) | apply boolP_not | refine boolP_b (fun _ => ?_) (fun _ => ?_) | ((with_reducible show Qs _ _ _ _ _); first | refine hQe _ _ _ _ ?_ | refine hQr _ _ _ ?_) | simp (config := { maxSteps := 1000000 }) (disch := omega) only [↓sh, ↓sh2, ↓reduceIte, sx, sl, sb, st, nbeq_ne, dle, relo_eq, wrap_i64, Nat.reduceBEq, Nat.reduceLT, Nat.reduceLeDiff, Nat.reduceAdd, Nat.reduceMul, Nat.reduceEqDiff, Int.reduceEq, Int.reduceLT, Int.reduceLE, Int.reduceNeg, Int.reduceToNat, Bool.false_eq_true, eq_self, sa, *])
      exact ⟨H.next + 1, rfl, by omega, bY.l2, Ko.same bY.ko lY, fun h => by omega⟩
  · have e9 : i = 9 := by omega
    subst e9
    have hc := checkFrom_all s hall
    repeat' (first | refine boolP_dec (fun _ => ?_) (fun _ => ?_) | apply boolP_not | refine boolP_b (fun _ => ?_) (fun _ => ?_) | ((with_reducible show Qs _ _ _ _ _); first | refine hQe _ _ _ _ ?_ | refine hQr _ _ _ ?_) | simp (config := { maxSteps := 1000000 }) (disch := omega) only [↓sh, ↓sh2, ↓reduceIte, sx, sl, sb, st, nbeq_ne, dle, relo_eq, wrap_i64, Nat.reduceBEq, Nat.reduceLT, Nat.reduceLeDiff, Nat.reduceAdd, Nat.reduceMul, Nat.reduceEqDiff, Int.reduceEq, Int.reduceLT, Int.reduceLE, Int.reduceNeg, Int.reduceToNat, Bool.false_eq_true, eq_self, sa, *])
    all_goals try omega
    refine ⟨H.next + 1, rfl, by omega, bX.l2, Ko.same bX.ko lX, fun _ => ?_⟩
    unfold Stg at gX
    rw [if_neg (by omega)] at gX
    obtain ⟨a, rw, m, smv, hk, _⟩ := gX
    exact ⟨a, rw, m, smv, hk⟩
theorem fn7 : E.fn.get 7 = some Tryz.f7 := by kernel_rfl
theorem check_ok (H : Heap) (hlo : H.lo ≤ H.next) {s : St} {w t f zl : Value} (hS : StS H s w t f zl) (hok : StOk s) : CallA E (fnv 7) [stV s w t f zl] H fun r H' => r = .int .i64 (checkN s) ∧ Same H H' := by
  have hS0 := hS
  obtain ⟨⟨wa, wc, rfl, _⟩, _⟩ := hS.w
  obtain ⟨⟨ta, tc, rfl, _⟩, _⟩ := hS.t
  obtain ⟨⟨fa, fc, rfl, _⟩, _⟩ := hS.f
  obtain ⟨⟨sa', sc, rfl, _⟩, _⟩ := hS.sl
  refine callA_fn (by kernel_rfl) fn7 rfl rfl ?_
  simp only [Tryz.f7]
  simp only [stV]
  repeat' (first | refine boolP_dec (fun _ => ?_) (fun _ => ?_) | apply boolP_not | refine boolP_b (fun _ => ?_) (fun _ => ?_) | ((with_reducible show Qs _ _ _ _ _); first | refine hQe _ _ _ _ ?_ | refine hQr _ _ _ ?_) | simp (config := { maxSteps := 1000000 }) (disch := omega) only [↓sh, ↓sh2, ↓reduceIte, sx, sl, sb, st, nbeq_ne, dle, relo_eq, wrap_i64, Nat.reduceBEq, Nat.reduceLT, Nat.reduceLeDiff, Nat.reduceAdd, Nat.reduceMul, Nat.reduceEqDiff, Int.reduceEq, Int.reduceLT, Int.reduceLE, Int.reduceNeg, Int.reduceToNat, Bool.false_eq_true, eq_self, sa, *])
  refine (judge_ok _ loW (hS0.ko koW) hok).mono ?_
  rintro r H2 ⟨lp, rfl, h1, h2, s2, _⟩
  repeat' (first | refine boolP_dec (fun _ => ?_) (fun _ => ?_) | apply boolP_not | refine boolP_b (fun _ => ?_) (fun _ => ?_) | ((with_reducible show Qs _ _ _ _ _); first | refine hQe _ _ _ _ ?_ | refine hQr _ _ _ ?_) | simp (config := { maxSteps := 1000000 }) (disch := omega) only [↓sh, ↓sh2, ↓reduceIte, sx, sl, sb, st, nbeq_ne, dle, relo_eq, wrap_i64, Nat.reduceBEq, Nat.reduceLT, Nat.reduceLeDiff, Nat.reduceAdd, Nat.reduceMul, Nat.reduceEqDiff, Int.reduceEq, Int.reduceLT, Int.reduceLE, Int.reduceNeg, Int.reduceToNat, Bool.false_eq_true, eq_self, sa, *])
  exact (same_newRow _).trans s2
end Go.AM
