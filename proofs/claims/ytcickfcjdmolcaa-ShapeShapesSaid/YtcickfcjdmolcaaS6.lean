/-
  Walks over letters of the functions that the law reaches.
-/
import Derived.Test.YtcickfcjdmolcaaS5
namespace Go.AM
attribute [local instance] fnMaps
open Go Go.Proofs
set_option maxRecDepth 100000
set_option maxHeartbeats 1000000
set_option linter.unusedSimpArgs false
theorem fn21 : E.fn.get 21 = some Try.f21 := by kernel_rfl
theorem fn7 : E.fn.get 7 = some Try.f7 := by kernel_rfl
theorem fn9 : E.fn.get 9 = some Try.f9 := by kernel_rfl
theorem fn10 : E.fn.get 10 = some Try.f10 := by kernel_rfl
theorem fn12 : E.fn.get 12 = some Try.f12 := by kernel_rfl
theorem fn22 : E.fn.get 22 = some Try.f22 := by kernel_rfl
theorem fn26 : E.fn.get 26 = some Try.f26 := by kernel_rfl
theorem fn27 : E.fn.get 27 = some Try.f27 := by kernel_rfl
theorem fn28 : E.fn.get 28 = some Try.f28 := by kernel_rfl

def withinv (n most : Int) : Int := if n < 1 ∨ most < n then 0 else n
theorem within_ok (H : Heap) (n most : Int) : CallA E (fnv 21) [.int .i64 n, .int .i64 most] H fun v H' => v = .int .i64 (withinv n most) ∧ H' = H := by
  refine callA_fn (by kernel_rfl) fn21 rfl rfl ?_
  simp only [Try.f21]
  by_cases c1 : n < 1
  · have d1 : decide (n < 1) = true := by simpa using c1
    simp (config := { maxSteps := 1000000 }) (disch := omega) only [↓sh, ↓reduceIte, sx, nbeq_ne, dle, relo_eq, wrap_i64, cond_true, cond_false, Option.bind_some, Option.bind_none, Option.map_some, Nat.add_zero, Nat.zero_add, List.getElem?_cons_zero, List.getElem?_cons_succ, List.getElem?_nil, List.getElem?_toArray, List.length_cons, List.length_nil, List.drop_zero, List.drop_succ_cons, List.drop_nil, List.take_zero, List.take_succ_cons, List.take_nil, List.append_nil, List.nil_append, List.cons_append, List.all_cons, List.all_nil, true_and, and_true, Bool.not_true, Bool.not_false, Bool.true_and, Bool.and_true, Bool.false_and, Bool.and_false, Bool.true_or, Bool.or_true, Bool.false_or, Bool.or_false, decide_true, decide_false, beq_self_eq_true, if_true, if_false, Nat.reduceBEq, Nat.reduceLT, Nat.reduceLeDiff, Nat.reduceAdd, Nat.reduceMul, Nat.reduceEqDiff, Int.reduceEq, Int.reduceLT, Int.reduceLE, eq_self, Int.reduceNeg, Option.isSome_some, d1]
    simp only [withinv, c1, true_or, if_true]
  · have d1 : decide (n < 1) = false := by simpa using c1
    by_cases c2 : most < n
    · have d2 : decide (most < n) = true := by simpa using c2
      simp (config := { maxSteps := 1000000 }) (disch := omega) only [↓sh, ↓reduceIte, sx, nbeq_ne, dle, relo_eq, wrap_i64, cond_true, cond_false, Option.bind_some, Option.bind_none, Option.map_some, Nat.add_zero, Nat.zero_add, List.getElem?_cons_zero, List.getElem?_cons_succ, List.getElem?_nil, List.getElem?_toArray, List.length_cons, List.length_nil, List.drop_zero, List.drop_succ_cons, List.drop_nil, List.take_zero, List.take_succ_cons, List.take_nil, List.append_nil, List.nil_append, List.cons_append, List.all_cons, List.all_nil, true_and, and_true, Bool.not_true, Bool.not_false, Bool.true_and, Bool.and_true, Bool.false_and, Bool.and_false, Bool.true_or, Bool.or_true, Bool.false_or, Bool.or_false, decide_true, decide_false, beq_self_eq_true, if_true, if_false, Nat.reduceBEq, Nat.reduceLT, Nat.reduceLeDiff, Nat.reduceAdd, Nat.reduceMul, Nat.reduceEqDiff, Int.reduceEq, Int.reduceLT, Int.reduceLE, eq_self, Int.reduceNeg, Option.isSome_some, d1, d2]
      simp only [withinv, c2, or_true, if_true]
    · have d2 : decide (most < n) = false := by simpa using c2
      simp (config := { maxSteps := 1000000 }) (disch := omega) only [↓sh, ↓reduceIte, sx, nbeq_ne, dle, relo_eq, wrap_i64, cond_true, cond_false, Option.bind_some, Option.bind_none, Option.map_some, Nat.add_zero, Nat.zero_add, List.getElem?_cons_zero, List.getElem?_cons_succ, List.getElem?_nil, List.getElem?_toArray, List.length_cons, List.length_nil, List.drop_zero, List.drop_succ_cons, List.drop_nil, List.take_zero, List.take_succ_cons, List.take_nil, List.append_nil, List.nil_append, List.cons_append, List.all_cons, List.all_nil, true_and, and_true, Bool.not_true, Bool.not_false, Bool.true_and, Bool.and_true, Bool.false_and, Bool.and_false, Bool.true_or, Bool.or_true, Bool.false_or, Bool.or_false, decide_true, decide_false, beq_self_eq_true, if_true, if_false, Nat.reduceBEq, Nat.reduceLT, Nat.reduceLeDiff, Nat.reduceAdd, Nat.reduceMul, Nat.reduceEqDiff, Int.reduceEq, Int.reduceLT, Int.reduceLE, eq_self, Int.reduceNeg, Option.isSome_some, d1, d2]
      simp only [withinv, c1, c2, or_self, if_false]

theorem slf_one (H : Heap) (x : Int) : SLf (RInt .i64) H.next 1 (H.newRow [.int .i64 x]) (.slice (some ⟨H.next, 0, none⟩) 1 1) [x] :=
  ⟨SL.alone (l := [x]) (cells := [.int .i64 x]) (Elems.one rfl rfl) (by simp (disch := omega) only [setRow_get, newRow_get, newRow_next, setRow_next, newRow_lo, setRow_lo, newRow_grps, setRow_grps, newRow_relo, setRow_relo, relo_objs, relo_next, relo_lo, nbeq_ne, cond_false, cond_true, beq_self_eq_true]; omega) (by simp (disch := omega) only [setRow_get, newRow_get, newRow_next, setRow_next, newRow_lo, setRow_lo, newRow_grps, setRow_grps, newRow_relo, setRow_relo, relo_objs, relo_next, relo_lo, nbeq_ne, cond_false, cond_true, beq_self_eq_true]) (by simp) (by simp), fun r o n c h => by simp only [Value.slice.injEq, Option.some.injEq, Addr.mk.injEq] at h; omega⟩
theorem slf_two (H : Heap) (x y : Int) : SLf (RInt .i64) H.next 1 (H.newRow [.int .i64 x, .int .i64 y]) (.slice (some ⟨H.next, 0, none⟩) 2 2) [x, y] :=
  ⟨SL.alone (l := [x, y]) (cells := [.int .i64 x, .int .i64 y]) (Elems.snoc (part := [.int .i64 y]) (cs := [.int .i64 x]) (l := [x]) (Elems.one rfl rfl) rfl rfl) (by simp (disch := omega) only [setRow_get, newRow_get, newRow_next, setRow_next, newRow_lo, setRow_lo, newRow_grps, setRow_grps, newRow_relo, setRow_relo, relo_objs, relo_next, relo_lo, nbeq_ne, cond_false, cond_true, beq_self_eq_true]; omega) (by simp (disch := omega) only [setRow_get, newRow_get, newRow_next, setRow_next, newRow_lo, setRow_lo, newRow_grps, setRow_grps, newRow_relo, setRow_relo, relo_objs, relo_next, relo_lo, nbeq_ne, cond_false, cond_true, beq_self_eq_true]) (by simp) (by simp), fun r o n c h => by simp only [Value.slice.injEq, Option.some.injEq, Addr.mk.injEq] at h; omega⟩

theorem leads_list (H0 : Heap) (N : Nat) (hN : N ≤ 4096) : LeadsOk (fnv 22) N (fun i => [(i : Int) + 1]) H0 := by
  intro H i hs hlo hi
  refine callA_fn (by kernel_rfl) fn22 rfl rfl ?_
  simp only [Try.f22]
  simp (config := { maxSteps := 1000000 }) (disch := omega) only [↓sh, ↓reduceIte, sx, nbeq_ne, dle, relo_eq, wrap_i64, cond_true, cond_false, Option.bind_some, Option.bind_none, Option.map_some, Nat.add_zero, Nat.zero_add, List.getElem?_cons_zero, List.getElem?_cons_succ, List.getElem?_nil, List.getElem?_toArray, List.length_cons, List.length_nil, List.drop_zero, List.drop_succ_cons, List.drop_nil, List.take_zero, List.take_succ_cons, List.take_nil, List.append_nil, List.nil_append, List.cons_append, List.all_cons, List.all_nil, true_and, and_true, Bool.not_true, Bool.not_false, Bool.true_and, Bool.and_true, Bool.false_and, Bool.and_false, Bool.true_or, Bool.or_true, Bool.false_or, Bool.or_false, decide_true, decide_false, beq_self_eq_true, if_true, if_false, Nat.reduceBEq, Nat.reduceLT, Nat.reduceLeDiff, Nat.reduceAdd, Nat.reduceMul, Nat.reduceEqDiff, Int.reduceEq, Int.reduceLT, Int.reduceLE, eq_self, Int.reduceNeg, Option.isSome_some, bs_51, ble_dec, repeat_succ, repeat_zero]
  exact ⟨same_newRow _, slf_one H _⟩

theorem leads_tree (H0 : Heap) (N : Nat) (hN : N ≤ 4096) : LeadsOk (fnv 27) N (fun i => [2 * (i : Int) + 1, 2 * (i : Int) + 2]) H0 := by
  intro H i hs hlo hi
  refine callA_fn (by kernel_rfl) fn27 rfl rfl ?_
  simp only [Try.f27]
  simp (config := { maxSteps := 1000000 }) (disch := omega) only [↓sh, ↓reduceIte, sx, nbeq_ne, dle, relo_eq, wrap_i64, cond_true, cond_false, Option.bind_some, Option.bind_none, Option.map_some, Nat.add_zero, Nat.zero_add, List.getElem?_cons_zero, List.getElem?_cons_succ, List.getElem?_nil, List.getElem?_toArray, List.length_cons, List.length_nil, List.drop_zero, List.drop_succ_cons, List.drop_nil, List.take_zero, List.take_succ_cons, List.take_nil, List.append_nil, List.nil_append, List.cons_append, List.all_cons, List.all_nil, true_and, and_true, Bool.not_true, Bool.not_false, Bool.true_and, Bool.and_true, Bool.false_and, Bool.and_false, Bool.true_or, Bool.or_true, Bool.false_or, Bool.or_false, decide_true, decide_false, beq_self_eq_true, if_true, if_false, Nat.reduceBEq, Nat.reduceLT, Nat.reduceLeDiff, Nat.reduceAdd, Nat.reduceMul, Nat.reduceEqDiff, Int.reduceEq, Int.reduceLT, Int.reduceLE, eq_self, Int.reduceNeg, Option.isSome_some, bs_51, ble_dec, repeat_succ, repeat_zero]
  exact ⟨same_newRow _, slf_two H _ _⟩

theorem leads_ring (H0 : Heap) (r : Nat) (hr : r < H0.next) (N : Nat) (hN : N ≤ 4096) (n : Int) (hg : H0.objs.get r = some (.row [.int .i64 n] none true)) (hn : 0 < N → n = N) : LeadsOk (.func (.func 26) #[] #[ptr r 0]) N (fun i => [((i : Int) + 1).tmod n]) H0 := by
  intro H i hs hlo hi
  have hg' := hs.keeps hr hg
  have hn' := hn (by omega)
  refine callA_clo (by kernel_rfl) fn26 rfl rfl ?_
  simp only [Try.f26]
  have hw1 := Int.tmod_lt_of_pos ((i : Int) + 1) (show 0 < n by omega)
  have hw2 := Int.tmod_nonneg n (show (0 : Int) ≤ i + 1 by omega)
  simp (config := { maxSteps := 1000000 }) (disch := omega) only [↓sh, ↓reduceIte, sx, nbeq_ne, dle, relo_eq, wrap_i64, cond_true, cond_false, Option.bind_some, Option.bind_none, Option.map_some, Nat.add_zero, Nat.zero_add, List.getElem?_cons_zero, List.getElem?_cons_succ, List.getElem?_nil, List.getElem?_toArray, List.length_cons, List.length_nil, List.drop_zero, List.drop_succ_cons, List.drop_nil, List.take_zero, List.take_succ_cons, List.take_nil, List.append_nil, List.nil_append, List.cons_append, List.all_cons, List.all_nil, true_and, and_true, Bool.not_true, Bool.not_false, Bool.true_and, Bool.and_true, Bool.false_and, Bool.and_false, Bool.true_or, Bool.or_true, Bool.false_or, Bool.or_false, decide_true, decide_false, beq_self_eq_true, if_true, if_false, Nat.reduceBEq, Nat.reduceLT, Nat.reduceLeDiff, Nat.reduceAdd, Nat.reduceMul, Nat.reduceEqDiff, Int.reduceEq, Int.reduceLT, Int.reduceLE, eq_self, Int.reduceNeg, Option.isSome_some, bs_51, ble_dec, repeat_succ, repeat_zero, hg', agg_3, int_rem]
  exact ⟨same_newRow _, slf_one H _⟩

theorem leads_grid (H0 : Heap) (r : Nat) (hr : r < H0.next) (N : Nat) (hN : N ≤ 4096) (n : Int) (hg : H0.objs.get r = some (.row [.int .i64 n] none true)) (hn : 0 < N → 0 < n ∧ n ≤ 64) : LeadsOk (.func (.func 28) #[] #[ptr r 0]) N (fun i => [if ((i : Int) + 1).tmod n = 0 then -1 else (i : Int) + 1, (i : Int) + n]) H0 := by
  intro H i hs hlo hi
  have hg' := hs.keeps hr hg
  have hn' := hn (by omega)
  refine callA_clo (by kernel_rfl) fn28 rfl rfl ?_
  simp only [Try.f28]
  by_cases c : ((i : Int) + 1).tmod n = 0
  · have d : decide (((i : Int) + 1).tmod n = 0) = true := by simpa using c
    simp (config := { maxSteps := 1000000 }) (disch := omega) only [↓sh, ↓reduceIte, sx, nbeq_ne, dle, relo_eq, wrap_i64, cond_true, cond_false, Option.bind_some, Option.bind_none, Option.map_some, Nat.add_zero, Nat.zero_add, List.getElem?_cons_zero, List.getElem?_cons_succ, List.getElem?_nil, List.getElem?_toArray, List.length_cons, List.length_nil, List.drop_zero, List.drop_succ_cons, List.drop_nil, List.take_zero, List.take_succ_cons, List.take_nil, List.append_nil, List.nil_append, List.cons_append, List.all_cons, List.all_nil, true_and, and_true, Bool.not_true, Bool.not_false, Bool.true_and, Bool.and_true, Bool.false_and, Bool.and_false, Bool.true_or, Bool.or_true, Bool.false_or, Bool.or_false, decide_true, decide_false, beq_self_eq_true, if_true, if_false, Nat.reduceBEq, Nat.reduceLT, Nat.reduceLeDiff, Nat.reduceAdd, Nat.reduceMul, Nat.reduceEqDiff, Int.reduceEq, Int.reduceLT, Int.reduceLE, eq_self, Int.reduceNeg, Option.isSome_some, bs_51, ble_dec, repeat_succ, repeat_zero, hg', agg_3, int_rem, d]
    simp only [if_pos c]
    exact ⟨same_newRow _, slf_two H _ _⟩
  · have d : decide (((i : Int) + 1).tmod n = 0) = false := by simpa using c
    simp (config := { maxSteps := 1000000 }) (disch := omega) only [↓sh, ↓reduceIte, sx, nbeq_ne, dle, relo_eq, wrap_i64, cond_true, cond_false, Option.bind_some, Option.bind_none, Option.map_some, Nat.add_zero, Nat.zero_add, List.getElem?_cons_zero, List.getElem?_cons_succ, List.getElem?_nil, List.getElem?_toArray, List.length_cons, List.length_nil, List.drop_zero, List.drop_succ_cons, List.drop_nil, List.take_zero, List.take_succ_cons, List.take_nil, List.append_nil, List.nil_append, List.cons_append, List.all_cons, List.all_nil, true_and, and_true, Bool.not_true, Bool.not_false, Bool.true_and, Bool.and_true, Bool.false_and, Bool.and_false, Bool.true_or, Bool.or_true, Bool.false_or, Bool.or_false, decide_true, decide_false, beq_self_eq_true, if_true, if_false, Nat.reduceBEq, Nat.reduceLT, Nat.reduceLeDiff, Nat.reduceAdd, Nat.reduceMul, Nat.reduceEqDiff, Int.reduceEq, Int.reduceLT, Int.reduceLE, eq_self, Int.reduceNeg, Option.isSome_some, bs_51, ble_dec, repeat_succ, repeat_zero, hg', agg_3, int_rem, d]
    simp only [if_neg c]
    exact ⟨same_newRow _, slf_two H _ _⟩

theorem withinv_nat (n : Int) (m : Nat) : ∃ N : Nat, withinv n m = N ∧ N ≤ m ∧ (0 < N → n = N) := by
  unfold withinv
  by_cases h : n < 1 ∨ (m : Int) < n
  · exact ⟨0, by rw [if_pos h]; rfl, by omega, by omega⟩
  · exact ⟨n.toNat, by rw [if_neg h]; omega, by omega, by omega⟩

theorem list_ok (H : Heap) (hlo : H.lo ≤ H.next) (n : Int) : CallA E (fnv 7) [.int .i64 n] H fun v' H' => Same H H' ∧ GraphV H' v' (shapeG 1 (withinv n 4096).toNat fun i => [(i : Int) + 1]) := by
  obtain ⟨N, hw, hN, _⟩ := withinv_nat n 4096
  have hT : (withinv n 4096).toNat = N := by rw [show withinv n 4096 = N from hw]; simp
  rw [hT]
  refine callA_fn (by kernel_rfl) fn7 rfl rfl ?_
  simp only [Try.f7]
  simp (config := { maxSteps := 1000000 }) (disch := omega) only [↓sh, ↓reduceIte, sx, nbeq_ne, dle, relo_eq, wrap_i64, cond_true, cond_false, Option.bind_some, Option.bind_none, Option.map_some, Nat.add_zero, Nat.zero_add, List.getElem?_cons_zero, List.getElem?_cons_succ, List.getElem?_nil, List.getElem?_toArray, List.length_cons, List.length_nil, List.drop_zero, List.drop_succ_cons, List.drop_nil, List.take_zero, List.take_succ_cons, List.take_nil, List.append_nil, List.nil_append, List.cons_append, List.all_cons, List.all_nil, true_and, and_true, Bool.not_true, Bool.not_false, Bool.true_and, Bool.and_true, Bool.false_and, Bool.and_false, Bool.true_or, Bool.or_true, Bool.false_or, Bool.or_false, decide_true, decide_false, beq_self_eq_true, if_true, if_false, Nat.reduceBEq, Nat.reduceLT, Nat.reduceLeDiff, Nat.reduceAdd, Nat.reduceMul, Nat.reduceEqDiff, Int.reduceEq, Int.reduceLT, Int.reduceLE, eq_self, Int.reduceNeg, Option.isSome_some, zero_27]
  refine (within_ok _ _ _).mono ?_
  rintro v H1 ⟨rfl, rfl⟩
  rw [show withinv n 4096 = N from hw]
  refine (shape_ok _ (by simp (disch := omega) only [setRow_get, newRow_get, newRow_next, setRow_next, newRow_lo, setRow_lo, newRow_grps, setRow_grps, newRow_relo, setRow_relo, relo_objs, relo_next, relo_lo, nbeq_ne, cond_false, cond_true, beq_self_eq_true]; omega) 1 N hN _ _ (fun i => by simp) (leads_list _ N hN)).mono ?_
  rintro v H2 ⟨s2, a, b, rfl, ha, hb⟩
  have g2 := s2.keeps (r := H.next) (by simp (disch := omega) only [setRow_get, newRow_get, newRow_next, setRow_next, newRow_lo, setRow_lo, newRow_grps, setRow_grps, newRow_relo, setRow_relo, relo_objs, relo_next, relo_lo, nbeq_ne, cond_false, cond_true, beq_self_eq_true]; omega) (by simp (disch := omega) only [setRow_get, newRow_get, newRow_next, setRow_next, newRow_lo, setRow_lo, newRow_grps, setRow_grps, newRow_relo, setRow_relo, relo_objs, relo_next, relo_lo, nbeq_ne, cond_false, cond_true, beq_self_eq_true]; rfl)
  have l2 := s2.lo
  have n2 := s2.nxt
  simp only [newRow_lo, newRow_next] at l2 n2
  simp (config := { maxSteps := 1000000 }) (disch := omega) only [↓sh, ↓reduceIte, sx, nbeq_ne, dle, relo_eq, wrap_i64, cond_true, cond_false, Option.bind_some, Option.bind_none, Option.map_some, Nat.add_zero, Nat.zero_add, List.getElem?_cons_zero, List.getElem?_cons_succ, List.getElem?_nil, List.getElem?_toArray, List.length_cons, List.length_nil, List.drop_zero, List.drop_succ_cons, List.drop_nil, List.take_zero, List.take_succ_cons, List.take_nil, List.append_nil, List.nil_append, List.cons_append, List.all_cons, List.all_nil, true_and, and_true, Bool.not_true, Bool.not_false, Bool.true_and, Bool.and_true, Bool.false_and, Bool.and_false, Bool.true_or, Bool.or_true, Bool.false_or, Bool.or_false, decide_true, decide_false, beq_self_eq_true, if_true, if_false, Nat.reduceBEq, Nat.reduceLT, Nat.reduceLeDiff, Nat.reduceAdd, Nat.reduceMul, Nat.reduceEqDiff, Int.reduceEq, Int.reduceLT, Int.reduceLE, eq_self, Int.reduceNeg, Option.isSome_some, size_27, g2, ha.cell, hb.cell, agg_27, cut_eq]
  exact ⟨((same_newRow _).trans s2).setRow (Nat.le_refl _) _, a, b, rfl, graph_box g2 ha hb⟩

theorem ring_ok (H : Heap) (hlo : H.lo ≤ H.next) (n : Int) : CallA E (fnv 9) [.int .i64 n] H fun v' H' => Same H H' ∧ GraphV H' v' (shapeG 2 (withinv n 4096).toNat fun i => [((i : Int) + 1).tmod n]) := by
  obtain ⟨N, hw, hN, hNn⟩ := withinv_nat n 4096
  have hT : (withinv n 4096).toNat = N := by rw [show withinv n 4096 = N from hw]; simp
  rw [hT]
  refine callA_fn (by kernel_rfl) fn9 rfl rfl ?_
  simp only [Try.f9]
  simp (config := { maxSteps := 1000000 }) (disch := omega) only [↓sh, ↓reduceIte, sx, nbeq_ne, dle, relo_eq, wrap_i64, cond_true, cond_false, Option.bind_some, Option.bind_none, Option.map_some, Nat.add_zero, Nat.zero_add, List.getElem?_cons_zero, List.getElem?_cons_succ, List.getElem?_nil, List.getElem?_toArray, List.length_cons, List.length_nil, List.drop_zero, List.drop_succ_cons, List.drop_nil, List.take_zero, List.take_succ_cons, List.take_nil, List.append_nil, List.nil_append, List.cons_append, List.all_cons, List.all_nil, true_and, and_true, Bool.not_true, Bool.not_false, Bool.true_and, Bool.and_true, Bool.false_and, Bool.and_false, Bool.true_or, Bool.or_true, Bool.false_or, Bool.or_false, decide_true, decide_false, beq_self_eq_true, if_true, if_false, Nat.reduceBEq, Nat.reduceLT, Nat.reduceLeDiff, Nat.reduceAdd, Nat.reduceMul, Nat.reduceEqDiff, Int.reduceEq, Int.reduceLT, Int.reduceLE, eq_self, Int.reduceNeg, Option.isSome_some, zero_27, agg_3]
  refine (within_ok _ _ _).mono ?_
  rintro v H1 ⟨rfl, rfl⟩
  rw [show withinv n 4096 = N from hw]
  refine (shape_ok _ (by simp (disch := omega) only [setRow_get, newRow_get, newRow_next, setRow_next, newRow_lo, setRow_lo, newRow_grps, setRow_grps, newRow_relo, setRow_relo, relo_objs, relo_next, relo_lo, nbeq_ne, cond_false, cond_true, beq_self_eq_true]; omega) 2 N hN _ _ (fun i => by simp) (leads_ring _ H.next (by simp (disch := omega) only [setRow_get, newRow_get, newRow_next, setRow_next, newRow_lo, setRow_lo, newRow_grps, setRow_grps, newRow_relo, setRow_relo, relo_objs, relo_next, relo_lo, nbeq_ne, cond_false, cond_true, beq_self_eq_true]; omega) N hN n (by simp (disch := omega) only [setRow_get, newRow_get, newRow_next, setRow_next, newRow_lo, setRow_lo, newRow_grps, setRow_grps, newRow_relo, setRow_relo, relo_objs, relo_next, relo_lo, nbeq_ne, cond_false, cond_true, beq_self_eq_true]) hNn)).mono ?_
  rintro v H2 ⟨s2, a, b, rfl, ha, hb⟩
  have g2 := s2.keeps (r := H.next + 1) (by simp (disch := omega) only [setRow_get, newRow_get, newRow_next, setRow_next, newRow_lo, setRow_lo, newRow_grps, setRow_grps, newRow_relo, setRow_relo, relo_objs, relo_next, relo_lo, nbeq_ne, cond_false, cond_true, beq_self_eq_true]; omega) (by simp (disch := omega) only [setRow_get, newRow_get, newRow_next, setRow_next, newRow_lo, setRow_lo, newRow_grps, setRow_grps, newRow_relo, setRow_relo, relo_objs, relo_next, relo_lo, nbeq_ne, cond_false, cond_true, beq_self_eq_true]; rfl)
  have l2 := s2.lo
  have n2 := s2.nxt
  simp only [newRow_lo, newRow_next] at l2 n2
  simp (config := { maxSteps := 1000000 }) (disch := omega) only [↓sh, ↓reduceIte, sx, nbeq_ne, dle, relo_eq, wrap_i64, cond_true, cond_false, Option.bind_some, Option.bind_none, Option.map_some, Nat.add_zero, Nat.zero_add, List.getElem?_cons_zero, List.getElem?_cons_succ, List.getElem?_nil, List.getElem?_toArray, List.length_cons, List.length_nil, List.drop_zero, List.drop_succ_cons, List.drop_nil, List.take_zero, List.take_succ_cons, List.take_nil, List.append_nil, List.nil_append, List.cons_append, List.all_cons, List.all_nil, true_and, and_true, Bool.not_true, Bool.not_false, Bool.true_and, Bool.and_true, Bool.false_and, Bool.and_false, Bool.true_or, Bool.or_true, Bool.false_or, Bool.or_false, decide_true, decide_false, beq_self_eq_true, if_true, if_false, Nat.reduceBEq, Nat.reduceLT, Nat.reduceLeDiff, Nat.reduceAdd, Nat.reduceMul, Nat.reduceEqDiff, Int.reduceEq, Int.reduceLT, Int.reduceLE, eq_self, Int.reduceNeg, Option.isSome_some, size_27, g2, ha.cell, hb.cell, agg_27, cut_eq]
  exact ⟨(((same_newRow _).newRow _).trans s2).setRow (by omega) _, a, b, rfl, graph_box g2 ha hb⟩

theorem tree_ok (H : Heap) (hlo : H.lo ≤ H.next) (d : Int) : CallA E (fnv 10) [.int .i64 d] H fun v' H' => Same H H' ∧ GraphV H' v' (shapeG 3 (2 ^ (withinv d 12).toNat - 1) fun i => [2 * (i : Int) + 1, 2 * (i : Int) + 2]) := by
  obtain ⟨D, hw, hD, _⟩ := withinv_nat d 12
  have hT : (withinv d 12).toNat = D := by rw [show withinv d 12 = D from hw]; simp
  rw [hT]
  refine named (2 ^ D - 1 : Nat) (fun M eM => ?_)
  rw [← eM]
  have hp : (2 : Nat) ^ D ≤ 4096 := Nat.pow_le_pow_right (n := 2) (by omega) (show D ≤ 12 by omega)
  have hp0 : (0 : Nat) < 2 ^ D := Nat.pow_pos (by omega)
  have hM : M ≤ 4096 := by omega
  have hM1 : (2 : Nat) ^ D = M + 1 := by omega
  have hsh : shiftOp .shl .i64 1 (D : Int) = some (.int .i64 (M + 1)) := by
    rw [shift_shl _ _ _ (by omega)]
    have : min (D : Int).toNat IntKind.i64.bits = D := by simp [IntKind.bits]; omega
    rw [this]
    have e : (1 : Int) * 2 ^ D = M + 1 := by rw [Int.one_mul]; exact_mod_cast hM1
    rw [e, wrap_i64 (by omega) (by omega)]
  clear hp hp0 hM1 eM
  have eM : ((M : Int) + 1 - 1) = M := by omega
  refine callA_fn (by kernel_rfl) fn10 rfl rfl ?_
  simp only [Try.f10]
  simp (config := { maxSteps := 1000000 }) (disch := omega) only [↓sh, ↓reduceIte, sx, nbeq_ne, dle, relo_eq, wrap_i64, cond_true, cond_false, Option.bind_some, Option.bind_none, Option.map_some, Nat.add_zero, Nat.zero_add, List.getElem?_cons_zero, List.getElem?_cons_succ, List.getElem?_nil, List.getElem?_toArray, List.length_cons, List.length_nil, List.drop_zero, List.drop_succ_cons, List.drop_nil, List.take_zero, List.take_succ_cons, List.take_nil, List.append_nil, List.nil_append, List.cons_append, List.all_cons, List.all_nil, true_and, and_true, Bool.not_true, Bool.not_false, Bool.true_and, Bool.and_true, Bool.false_and, Bool.and_false, Bool.true_or, Bool.or_true, Bool.false_or, Bool.or_false, decide_true, decide_false, beq_self_eq_true, if_true, if_false, Nat.reduceBEq, Nat.reduceLT, Nat.reduceLeDiff, Nat.reduceAdd, Nat.reduceMul, Nat.reduceEqDiff, Int.reduceEq, Int.reduceLT, Int.reduceLE, eq_self, Int.reduceNeg, Option.isSome_some, zero_27]
  refine (within_ok _ _ _).mono ?_
  rintro v H1 ⟨rfl, rfl⟩
  rw [show withinv d 12 = D from hw]
  simp (config := { maxSteps := 1000000 }) (disch := omega) only [↓sh, ↓reduceIte, sx, nbeq_ne, dle, relo_eq, wrap_i64, cond_true, cond_false, Option.bind_some, Option.bind_none, Option.map_some, Nat.add_zero, Nat.zero_add, List.getElem?_cons_zero, List.getElem?_cons_succ, List.getElem?_nil, List.getElem?_toArray, List.length_cons, List.length_nil, List.drop_zero, List.drop_succ_cons, List.drop_nil, List.take_zero, List.take_succ_cons, List.take_nil, List.append_nil, List.nil_append, List.cons_append, List.all_cons, List.all_nil, true_and, and_true, Bool.not_true, Bool.not_false, Bool.true_and, Bool.and_true, Bool.false_and, Bool.and_false, Bool.true_or, Bool.or_true, Bool.false_or, Bool.or_false, decide_true, decide_false, beq_self_eq_true, if_true, if_false, Nat.reduceBEq, Nat.reduceLT, Nat.reduceLeDiff, Nat.reduceAdd, Nat.reduceMul, Nat.reduceEqDiff, Int.reduceEq, Int.reduceLT, Int.reduceLE, eq_self, Int.reduceNeg, Option.isSome_some, bin_shl, hsh, eM]
  refine (shape_ok _ (by simp (disch := omega) only [setRow_get, newRow_get, newRow_next, setRow_next, newRow_lo, setRow_lo, newRow_grps, setRow_grps, newRow_relo, setRow_relo, relo_objs, relo_next, relo_lo, nbeq_ne, cond_false, cond_true, beq_self_eq_true]; omega) 3 M hM _ _ (fun i => by simp) (leads_tree _ M hM)).mono ?_
  rintro v H2 ⟨s2, a, b, rfl, ha, hb⟩
  have g2 := s2.keeps (r := H.next) (by simp (disch := omega) only [setRow_get, newRow_get, newRow_next, setRow_next, newRow_lo, setRow_lo, newRow_grps, setRow_grps, newRow_relo, setRow_relo, relo_objs, relo_next, relo_lo, nbeq_ne, cond_false, cond_true, beq_self_eq_true]; omega) (by simp (disch := omega) only [setRow_get, newRow_get, newRow_next, setRow_next, newRow_lo, setRow_lo, newRow_grps, setRow_grps, newRow_relo, setRow_relo, relo_objs, relo_next, relo_lo, nbeq_ne, cond_false, cond_true, beq_self_eq_true]; rfl)
  have l2 := s2.lo
  have n2 := s2.nxt
  simp only [newRow_lo, newRow_next] at l2 n2
  simp (config := { maxSteps := 1000000 }) (disch := omega) only [↓sh, ↓reduceIte, sx, nbeq_ne, dle, relo_eq, wrap_i64, cond_true, cond_false, Option.bind_some, Option.bind_none, Option.map_some, Nat.add_zero, Nat.zero_add, List.getElem?_cons_zero, List.getElem?_cons_succ, List.getElem?_nil, List.getElem?_toArray, List.length_cons, List.length_nil, List.drop_zero, List.drop_succ_cons, List.drop_nil, List.take_zero, List.take_succ_cons, List.take_nil, List.append_nil, List.nil_append, List.cons_append, List.all_cons, List.all_nil, true_and, and_true, Bool.not_true, Bool.not_false, Bool.true_and, Bool.and_true, Bool.false_and, Bool.and_false, Bool.true_or, Bool.or_true, Bool.false_or, Bool.or_false, decide_true, decide_false, beq_self_eq_true, if_true, if_false, Nat.reduceBEq, Nat.reduceLT, Nat.reduceLeDiff, Nat.reduceAdd, Nat.reduceMul, Nat.reduceEqDiff, Int.reduceEq, Int.reduceLT, Int.reduceLE, eq_self, Int.reduceNeg, Option.isSome_some, size_27, g2, ha.cell, hb.cell, agg_27, cut_eq]
  exact ⟨((same_newRow _).trans s2).setRow (Nat.le_refl _) _, a, b, rfl, graph_box g2 ha hb⟩

theorem grid_ok (H : Heap) (hlo : H.lo ≤ H.next) (w h : Int) : CallA E (fnv 12) [.int .i64 w, .int .i64 h] H fun v' H' => Same H H' ∧ GraphV H' v' (shapeG 4 ((withinv w 64).toNat * (withinv h 64).toNat) fun i => [if ((i : Int) + 1).tmod w = 0 then -1 else (i : Int) + 1, (i : Int) + w]) := by
  obtain ⟨A, hwA, hA, hAw⟩ := withinv_nat w 64
  obtain ⟨B, hwB, hB, hBh⟩ := withinv_nat h 64
  have hT : (withinv w 64).toNat = A := by rw [show withinv w 64 = A from hwA]; simp
  have hT2 : (withinv h 64).toNat = B := by rw [show withinv h 64 = B from hwB]; simp
  rw [hT, hT2]
  have hAB : A * B ≤ 4096 := Nat.mul_le_mul hA hB
  refine named (A * B) (fun N eN => ?_)
  rw [← eN]
  have hN : N ≤ 4096 := by omega
  have hNA : 0 < N → 0 < w ∧ w ≤ 64 := fun h0 => by
    have : 0 < A := by
      rcases Nat.eq_zero_or_pos A with h | h
      · rw [h, Nat.zero_mul] at eN; omega
      · exact h
    have := hAw this
    omega
  have eNi : (A : Int) * (B : Int) = N := by rw [eN]; simp
  clear eN hAB
  refine callA_fn (by kernel_rfl) fn12 rfl rfl ?_
  simp only [Try.f12]
  simp (config := { maxSteps := 1000000 }) (disch := omega) only [↓sh, ↓reduceIte, sx, nbeq_ne, dle, relo_eq, wrap_i64, cond_true, cond_false, Option.bind_some, Option.bind_none, Option.map_some, Nat.add_zero, Nat.zero_add, List.getElem?_cons_zero, List.getElem?_cons_succ, List.getElem?_nil, List.getElem?_toArray, List.length_cons, List.length_nil, List.drop_zero, List.drop_succ_cons, List.drop_nil, List.take_zero, List.take_succ_cons, List.take_nil, List.append_nil, List.nil_append, List.cons_append, List.all_cons, List.all_nil, true_and, and_true, Bool.not_true, Bool.not_false, Bool.true_and, Bool.and_true, Bool.false_and, Bool.and_false, Bool.true_or, Bool.or_true, Bool.false_or, Bool.or_false, decide_true, decide_false, beq_self_eq_true, if_true, if_false, Nat.reduceBEq, Nat.reduceLT, Nat.reduceLeDiff, Nat.reduceAdd, Nat.reduceMul, Nat.reduceEqDiff, Int.reduceEq, Int.reduceLT, Int.reduceLE, eq_self, Int.reduceNeg, Option.isSome_some, zero_27, agg_3]
  refine (within_ok _ _ _).mono ?_
  rintro v H1 ⟨rfl, rfl⟩
  rw [show withinv w 64 = A from hwA]
  refine (within_ok _ _ _).mono ?_
  rintro v H1 ⟨rfl, rfl⟩
  rw [show withinv h 64 = B from hwB]
  simp (config := { maxSteps := 1000000 }) (disch := omega) only [↓sh, ↓reduceIte, sx, nbeq_ne, dle, relo_eq, wrap_i64, cond_true, cond_false, Option.bind_some, Option.bind_none, Option.map_some, Nat.add_zero, Nat.zero_add, List.getElem?_cons_zero, List.getElem?_cons_succ, List.getElem?_nil, List.getElem?_toArray, List.length_cons, List.length_nil, List.drop_zero, List.drop_succ_cons, List.drop_nil, List.take_zero, List.take_succ_cons, List.take_nil, List.append_nil, List.nil_append, List.cons_append, List.all_cons, List.all_nil, true_and, and_true, Bool.not_true, Bool.not_false, Bool.true_and, Bool.and_true, Bool.false_and, Bool.and_false, Bool.true_or, Bool.or_true, Bool.false_or, Bool.or_false, decide_true, decide_false, beq_self_eq_true, if_true, if_false, Nat.reduceBEq, Nat.reduceLT, Nat.reduceLeDiff, Nat.reduceAdd, Nat.reduceMul, Nat.reduceEqDiff, Int.reduceEq, Int.reduceLT, Int.reduceLE, eq_self, Int.reduceNeg, Option.isSome_some, eNi]
  refine (shape_ok _ (by simp (disch := omega) only [setRow_get, newRow_get, newRow_next, setRow_next, newRow_lo, setRow_lo, newRow_grps, setRow_grps, newRow_relo, setRow_relo, relo_objs, relo_next, relo_lo, nbeq_ne, cond_false, cond_true, beq_self_eq_true]; omega) 4 N hN _ _ (fun i => by simp) (leads_grid _ H.next (by simp (disch := omega) only [setRow_get, newRow_get, newRow_next, setRow_next, newRow_lo, setRow_lo, newRow_grps, setRow_grps, newRow_relo, setRow_relo, relo_objs, relo_next, relo_lo, nbeq_ne, cond_false, cond_true, beq_self_eq_true]; omega) N hN w (by simp (disch := omega) only [setRow_get, newRow_get, newRow_next, setRow_next, newRow_lo, setRow_lo, newRow_grps, setRow_grps, newRow_relo, setRow_relo, relo_objs, relo_next, relo_lo, nbeq_ne, cond_false, cond_true, beq_self_eq_true]) hNA)).mono ?_
  rintro v H2 ⟨s2, a, b, rfl, ha, hb⟩
  have g2 := s2.keeps (r := H.next + 1) (by simp (disch := omega) only [setRow_get, newRow_get, newRow_next, setRow_next, newRow_lo, setRow_lo, newRow_grps, setRow_grps, newRow_relo, setRow_relo, relo_objs, relo_next, relo_lo, nbeq_ne, cond_false, cond_true, beq_self_eq_true]; omega) (by simp (disch := omega) only [setRow_get, newRow_get, newRow_next, setRow_next, newRow_lo, setRow_lo, newRow_grps, setRow_grps, newRow_relo, setRow_relo, relo_objs, relo_next, relo_lo, nbeq_ne, cond_false, cond_true, beq_self_eq_true]; rfl)
  have l2 := s2.lo
  have n2 := s2.nxt
  simp only [newRow_lo, newRow_next] at l2 n2
  simp (config := { maxSteps := 1000000 }) (disch := omega) only [↓sh, ↓reduceIte, sx, nbeq_ne, dle, relo_eq, wrap_i64, cond_true, cond_false, Option.bind_some, Option.bind_none, Option.map_some, Nat.add_zero, Nat.zero_add, List.getElem?_cons_zero, List.getElem?_cons_succ, List.getElem?_nil, List.getElem?_toArray, List.length_cons, List.length_nil, List.drop_zero, List.drop_succ_cons, List.drop_nil, List.take_zero, List.take_succ_cons, List.take_nil, List.append_nil, List.nil_append, List.cons_append, List.all_cons, List.all_nil, true_and, and_true, Bool.not_true, Bool.not_false, Bool.true_and, Bool.and_true, Bool.false_and, Bool.and_false, Bool.true_or, Bool.or_true, Bool.false_or, Bool.or_false, decide_true, decide_false, beq_self_eq_true, if_true, if_false, Nat.reduceBEq, Nat.reduceLT, Nat.reduceLeDiff, Nat.reduceAdd, Nat.reduceMul, Nat.reduceEqDiff, Int.reduceEq, Int.reduceLT, Int.reduceLE, eq_self, Int.reduceNeg, Option.isSome_some, size_27, g2, ha.cell, hb.cell, agg_27, cut_eq]
  exact ⟨(((same_newRow _).newRow _).trans s2).setRow (by omega) _, a, b, rfl, graph_box g2 ha hb⟩
end Go.AM
