/-
  Walks over letters of the functions that the law reaches.
-/
import Derived.Test.YtcickfcjdmolcaaS2
namespace Go.AM
attribute [local instance] fnMaps
open Go Go.Proofs
set_option maxRecDepth 100000
set_option maxHeartbeats 1000000
set_option linter.unusedSimpArgs false
theorem fn11 : E.fn.get 11 = some Try.f11 := by kernel_rfl
theorem fn13 : E.fn.get 13 = some Try.f13 := by kernel_rfl

def nodesOf (f : Nat → Node) (k : Nat) : List Node := (List.range k).map f
theorem nodesOf_succ (f : Nat → Node) (k : Nat) : nodesOf f (k + 1) = nodesOf f k ++ [f k] := by simp [nodesOf, List.range_succ]
theorem nodesOf_len (f : Nat → Node) (k : Nat) : (nodesOf f k).length = k := by simp [nodesOf]
def treeNode (n : Int) (i : Nat) : Node := ⟨3, [refv (2 * i + 1) n, refv (2 * i + 2) n], [(i : Int)]⟩
def emptyGraph : Graph := ⟨[], []⟩
def treeG (d : Int) : Graph := if d < 1 ∨ 12 < d then emptyGraph else mkGraph (nodesOf (treeNode (2 ^ d.toNat - 1)) (2 ^ d.toNat - 1))

theorem graph_empty (H : Heap) : GraphV H (.agg #[.slice none 0 0, .slice none 0 0]) emptyGraph := ⟨_, _, rfl, SL.nil _ _ _, SL.nil _ _ _⟩

theorem reftree_ok (H : Heap) (hlo : H.lo ≤ H.next) (d : Int) : CallA E (fnv 11) [.int .i64 d] H fun v' H' => Same H H' ∧ GraphV H' v' (treeG d) := by
  refine callA_fn (by kernel_rfl) fn11 rfl rfl ?_
  simp only [Try.f11]
  by_cases c1 : d < 1
  · have d1 : decide (d < 1) = true := by simpa using c1
    simp (config := { maxSteps := 1000000 }) (disch := omega) only [↓sh, ↓reduceIte, sx, nbeq_ne, dle, relo_eq, wrap_i64, cond_true, cond_false, Option.bind_some, Option.bind_none, Option.map_some, Nat.add_zero, Nat.zero_add, List.getElem?_cons_zero, List.getElem?_cons_succ, List.getElem?_nil, List.getElem?_toArray, List.length_cons, List.length_nil, List.drop_zero, List.drop_succ_cons, List.drop_nil, List.take_zero, List.take_succ_cons, List.take_nil, List.append_nil, List.nil_append, List.cons_append, List.all_cons, List.all_nil, true_and, and_true, Bool.not_true, Bool.not_false, Bool.true_and, Bool.and_true, Bool.false_and, Bool.and_false, Bool.true_or, Bool.or_true, Bool.false_or, Bool.or_false, decide_true, decide_false, beq_self_eq_true, if_true, if_false, Nat.reduceBEq, Nat.reduceLT, Nat.reduceLeDiff, Nat.reduceAdd, Nat.reduceMul, Nat.reduceEqDiff, Int.reduceEq, Int.reduceLT, Int.reduceLE, eq_self, Int.reduceNeg, Option.isSome_some, zero_27, d1, lit_27, size_27, agg_27, cut_eq]
    refine ⟨(same_newRow _).setRow (Nat.le_refl _) _, ?_⟩
    simp only [treeG, c1, true_or, if_true]
    exact graph_empty _
  have d1 : decide (d < 1) = false := by simpa using c1
  by_cases c2 : 12 < d
  · have d2 : decide (12 < d) = true := by simpa using c2
    simp (config := { maxSteps := 1000000 }) (disch := omega) only [↓sh, ↓reduceIte, sx, nbeq_ne, dle, relo_eq, wrap_i64, cond_true, cond_false, Option.bind_some, Option.bind_none, Option.map_some, Nat.add_zero, Nat.zero_add, List.getElem?_cons_zero, List.getElem?_cons_succ, List.getElem?_nil, List.getElem?_toArray, List.length_cons, List.length_nil, List.drop_zero, List.drop_succ_cons, List.drop_nil, List.take_zero, List.take_succ_cons, List.take_nil, List.append_nil, List.nil_append, List.cons_append, List.all_cons, List.all_nil, true_and, and_true, Bool.not_true, Bool.not_false, Bool.true_and, Bool.and_true, Bool.false_and, Bool.and_false, Bool.true_or, Bool.or_true, Bool.false_or, Bool.or_false, decide_true, decide_false, beq_self_eq_true, if_true, if_false, Nat.reduceBEq, Nat.reduceLT, Nat.reduceLeDiff, Nat.reduceAdd, Nat.reduceMul, Nat.reduceEqDiff, Int.reduceEq, Int.reduceLT, Int.reduceLE, eq_self, Int.reduceNeg, Option.isSome_some, zero_27, d1, d2, lit_27, size_27, agg_27, cut_eq]
    refine ⟨(same_newRow _).setRow (Nat.le_refl _) _, ?_⟩
    simp only [treeG, c2, or_true, if_true]
    exact graph_empty _
  have d2 : decide (12 < d) = false := by simpa using c2
  simp (config := { maxSteps := 1000000 }) (disch := omega) only [↓sh, ↓reduceIte, sx, nbeq_ne, dle, relo_eq, wrap_i64, cond_true, cond_false, Option.bind_some, Option.bind_none, Option.map_some, Nat.add_zero, Nat.zero_add, List.getElem?_cons_zero, List.getElem?_cons_succ, List.getElem?_nil, List.getElem?_toArray, List.length_cons, List.length_nil, List.drop_zero, List.drop_succ_cons, List.drop_nil, List.take_zero, List.take_succ_cons, List.take_nil, List.append_nil, List.nil_append, List.cons_append, List.all_cons, List.all_nil, true_and, and_true, Bool.not_true, Bool.not_false, Bool.true_and, Bool.and_true, Bool.false_and, Bool.and_false, Bool.true_or, Bool.or_true, Bool.false_or, Bool.or_false, decide_true, decide_false, beq_self_eq_true, if_true, if_false, Nat.reduceBEq, Nat.reduceLT, Nat.reduceLeDiff, Nat.reduceAdd, Nat.reduceMul, Nat.reduceEqDiff, Int.reduceEq, Int.reduceLT, Int.reduceLE, eq_self, Int.reduceNeg, Option.isSome_some, zero_27, d1, d2]
  refine named (H.newRow [Value.slice none 0 0, Value.slice none 0 0]) (fun H1 e1 => ?_)
  have n1 : H1.next = H.next + 1 := by rw [e1]; simp (disch := omega) only [setRow_get, newRow_get, newRow_next, setRow_next, newRow_lo, setRow_lo, newRow_grps, setRow_grps, newRow_relo, setRow_relo, relo_objs, relo_next, relo_lo, nbeq_ne, cond_false, cond_true, beq_self_eq_true]
  have l1 : H1.lo = H.lo := by rw [e1]; simp (disch := omega) only [setRow_get, newRow_get, newRow_next, setRow_next, newRow_lo, setRow_lo, newRow_grps, setRow_grps, newRow_relo, setRow_relo, relo_objs, relo_next, relo_lo, nbeq_ne, cond_false, cond_true, beq_self_eq_true]
  have g1 : H1.objs.get H.next = some (.row [Value.slice none 0 0, Value.slice none 0 0] none true) := by rw [e1]; simp (disch := omega) only [setRow_get, newRow_get, newRow_next, setRow_next, newRow_lo, setRow_lo, newRow_grps, setRow_grps, newRow_relo, setRow_relo, relo_objs, relo_next, relo_lo, nbeq_ne, cond_false, cond_true, beq_self_eq_true]
  have s1 : Same H H1 := by rw [e1]; exact same_newRow _
  rw [← e1]
  refine wp_loop (by kernel_rfl) (fun m T H' => ∃ (i : Nat) (p : Int), m = d.toNat - i ∧ i ≤ d.toNat ∧ Hid (p = 2 ^ i) ∧ T.get 4 = some (.int .i64 i) ∧ T.get 3 = some (.int .i64 p) ∧ T.get 0 = some (.int .i64 d) ∧ T.get 2 = some (ptr H.next 0) ∧ H1 = H') d.toNat ?_ ?_
  · exact ⟨0, 1, by omega, by omega, rfl, rfl, rfl, rfl, rfl, rfl⟩
  rintro m T H' ⟨i, p, rfl, hi, hpe, h4, h3, h0, h2, hH⟩
  subst hH
  by_cases hlt : i < d.toNat
  · have hd : decide ((i : Int) < d) = true := by simp; omega
    have hp : p ≤ 4096 := by
      have := Nat.pow_le_pow_right (n := 2) (by omega) (show i ≤ 12 by omega)
      rw [show p = 2 ^ i from hpe]
      exact_mod_cast this
    have hp0 : 0 < p := by
      rw [show p = 2 ^ i from hpe]
      exact Int.pow_pos (by omega)
    simp (config := { maxSteps := 1000000 }) (disch := omega) only [↓sh, ↓reduceIte, sx, nbeq_ne, dle, relo_eq, wrap_i64, cond_true, cond_false, Option.bind_some, Option.bind_none, Option.map_some, Nat.add_zero, Nat.zero_add, List.getElem?_cons_zero, List.getElem?_cons_succ, List.getElem?_nil, List.getElem?_toArray, List.length_cons, List.length_nil, List.drop_zero, List.drop_succ_cons, List.drop_nil, List.take_zero, List.take_succ_cons, List.take_nil, List.append_nil, List.nil_append, List.cons_append, List.all_cons, List.all_nil, true_and, and_true, Bool.not_true, Bool.not_false, Bool.true_and, Bool.and_true, Bool.false_and, Bool.and_false, Bool.true_or, Bool.or_true, Bool.false_or, Bool.or_false, decide_true, decide_false, beq_self_eq_true, if_true, if_false, Nat.reduceBEq, Nat.reduceLT, Nat.reduceLeDiff, Nat.reduceAdd, Nat.reduceMul, Nat.reduceEqDiff, Int.reduceEq, Int.reduceLT, Int.reduceLE, eq_self, Int.reduceNeg, Option.isSome_some, h4, h3, h0, hd]
    exact ⟨_, by omega, i + 1, 2 * p, rfl, by omega, by rw [show p = 2 ^ i from hpe]; exact (by rw [Int.pow_succ, Int.mul_comm] : (2 : Int) * 2 ^ i = 2 ^ (i + 1)), by simp, rfl, h2⟩
  have hd : decide ((i : Int) < d) = false := by simp; omega
  have hi' : i = d.toNat := by omega
  subst hi'
  have hpn : (2 : Nat) ^ d.toNat ≤ 4096 := Nat.pow_le_pow_right (n := 2) (by omega) (show d.toNat ≤ 12 by omega)
  have hpn0 : (0 : Nat) < 2 ^ d.toNat := Nat.pow_pos (by omega)
  refine named (2 ^ d.toNat - 1 : Nat) (fun N hN => ?_)
  have hp : (2 : Int) ^ d.toNat = N + 1 := by
    have : ((2 ^ d.toNat : Nat) : Int) = N + 1 := by omega
    rw [← this]; simp
  have hpe : p = N + 1 := by rw [show p = 2 ^ d.toNat from hpe, hp]
  subst hpe
  have hNl : N ≤ 4095 := by omega
  have hG : treeG d = mkGraph (nodesOf (treeNode N) N) := by
    simp only [treeG, c1, c2, or_self, if_false]
    rw [hp, ← hN]
    simp
  clear hpn hpn0 hN hp
  have hN1 : ((N : Int) + 1 - 1) = N := by omega
  simp (config := { maxSteps := 1000000 }) (disch := omega) only [↓sh, ↓reduceIte, sx, nbeq_ne, dle, relo_eq, wrap_i64, cond_true, cond_false, Option.bind_some, Option.bind_none, Option.map_some, Nat.add_zero, Nat.zero_add, List.getElem?_cons_zero, List.getElem?_cons_succ, List.getElem?_nil, List.getElem?_toArray, List.length_cons, List.length_nil, List.drop_zero, List.drop_succ_cons, List.drop_nil, List.take_zero, List.take_succ_cons, List.take_nil, List.append_nil, List.nil_append, List.cons_append, List.all_cons, List.all_nil, true_and, and_true, Bool.not_true, Bool.not_false, Bool.true_and, Bool.and_true, Bool.false_and, Bool.and_false, Bool.true_or, Bool.or_true, Bool.false_or, Bool.or_false, decide_true, decide_false, beq_self_eq_true, if_true, if_false, Nat.reduceBEq, Nat.reduceLT, Nat.reduceLeDiff, Nat.reduceAdd, Nat.reduceMul, Nat.reduceEqDiff, Int.reduceEq, Int.reduceLT, Int.reduceLE, eq_self, Int.reduceNeg, Option.isSome_some, h4, h3, h0, hd, hN1]
  refine wp_loop (by kernel_rfl) (fun m T H' => ∃ (i : Nat) (v : Value) (cs : List Value), m = N - i ∧ i ≤ N ∧ T.get 6 = some (.int .i64 i) ∧ T.get 5 = some v ∧ T.get 3 = some (.int .i64 N) ∧ T.get 2 = some (ptr H.next 0) ∧ Same H1 H' ∧ Own H1.next 3 H' v i cs ∧ Elems RNode 3 H' cs (nodesOf (treeNode N) i)) N ?_ ?_
  · exact ⟨0, _, [], by omega, by omega, rfl, rfl, rfl, h2, Same.refl _, Own.nil _ _ _, Elems.nil _ _ _⟩
  clear h4 h3 h0 h2
  rintro m T H' ⟨i, v, cs, rfl, hi, h6, h5, h3, h2, s, ho, he⟩
  have hsn := s.nxt
  have hsl := s.lo
  by_cases hlt : i < N
  · have hd : decide ((i : Int) < N) = true := by simp; omega
    simp (config := { maxSteps := 1000000 }) (disch := omega) only [↓sh, ↓reduceIte, sx, nbeq_ne, dle, relo_eq, wrap_i64, cond_true, cond_false, Option.bind_some, Option.bind_none, Option.map_some, Nat.add_zero, Nat.zero_add, List.getElem?_cons_zero, List.getElem?_cons_succ, List.getElem?_nil, List.getElem?_toArray, List.length_cons, List.length_nil, List.drop_zero, List.drop_succ_cons, List.drop_nil, List.take_zero, List.take_succ_cons, List.take_nil, List.append_nil, List.nil_append, List.cons_append, List.all_cons, List.all_nil, true_and, and_true, Bool.not_true, Bool.not_false, Bool.true_and, Bool.and_true, Bool.false_and, Bool.and_false, Bool.true_or, Bool.or_true, Bool.false_or, Bool.or_false, decide_true, decide_false, beq_self_eq_true, if_true, if_false, Nat.reduceBEq, Nat.reduceLT, Nat.reduceLeDiff, Nat.reduceAdd, Nat.reduceMul, Nat.reduceEqDiff, Int.reduceEq, Int.reduceLT, Int.reduceLE, eq_self, Int.reduceNeg, Option.isSome_some, h6, h5, h3, h2, hd, ho.cell]
    refine (ref_ok H' (by omega) _ N).mono ?_
    rintro v2 H2 ⟨rfl, s2⟩
    have n2 := s2.nxt
    have l2 := s2.lo
    simp (config := { maxSteps := 1000000 }) (disch := omega) only [↓sh, ↓reduceIte, sx, nbeq_ne, dle, relo_eq, wrap_i64, cond_true, cond_false, Option.bind_some, Option.bind_none, Option.map_some, Nat.add_zero, Nat.zero_add, List.getElem?_cons_zero, List.getElem?_cons_succ, List.getElem?_nil, List.getElem?_toArray, List.length_cons, List.length_nil, List.drop_zero, List.drop_succ_cons, List.drop_nil, List.take_zero, List.take_succ_cons, List.take_nil, List.append_nil, List.nil_append, List.cons_append, List.all_cons, List.all_nil, true_and, and_true, Bool.not_true, Bool.not_false, Bool.true_and, Bool.and_true, Bool.false_and, Bool.and_false, Bool.true_or, Bool.or_true, Bool.false_or, Bool.or_false, decide_true, decide_false, beq_self_eq_true, if_true, if_false, Nat.reduceBEq, Nat.reduceLT, Nat.reduceLeDiff, Nat.reduceAdd, Nat.reduceMul, Nat.reduceEqDiff, Int.reduceEq, Int.reduceLT, Int.reduceLE, eq_self, Int.reduceNeg, Option.isSome_some, h6, h5, h3, h2, valV]
    refine (ref_ok H2 (by omega) _ N).mono ?_
    rintro v3 H3 ⟨rfl, s3⟩
    have n3 := s3.nxt
    have l3 := s3.lo
    simp (config := { maxSteps := 1000000 }) (disch := omega) only [↓sh, ↓reduceIte, sx, nbeq_ne, dle, relo_eq, wrap_i64, cond_true, cond_false, Option.bind_some, Option.bind_none, Option.map_some, Nat.add_zero, Nat.zero_add, List.getElem?_cons_zero, List.getElem?_cons_succ, List.getElem?_nil, List.getElem?_toArray, List.length_cons, List.length_nil, List.drop_zero, List.drop_succ_cons, List.drop_nil, List.take_zero, List.take_succ_cons, List.take_nil, List.append_nil, List.nil_append, List.cons_append, List.all_cons, List.all_nil, true_and, and_true, Bool.not_true, Bool.not_false, Bool.true_and, Bool.and_true, Bool.false_and, Bool.and_false, Bool.true_or, Bool.or_true, Bool.false_or, Bool.or_false, decide_true, decide_false, beq_self_eq_true, if_true, if_false, Nat.reduceBEq, Nat.reduceLT, Nat.reduceLeDiff, Nat.reduceAdd, Nat.reduceMul, Nat.reduceEqDiff, Int.reduceEq, Int.reduceLT, Int.reduceLE, eq_self, Int.reduceNeg, Option.isSome_some, h6, h5, h3, h2, valV, bs_25, ble_dec, repeat_succ, repeat_zero]
    refine (node_ok _ (by simp (disch := omega) only [setRow_get, newRow_get, newRow_next, setRow_next, newRow_lo, setRow_lo, newRow_grps, setRow_grps, newRow_relo, setRow_relo, relo_objs, relo_next, relo_lo, nbeq_ne, cond_false, cond_true, beq_self_eq_true]; omega) _ _ (by omega) (by omega) _ [refv (2 * i + 1) N, refv (2 * i + 2) N] (SL.alone (l := [refv (2 * i + 1) N, refv (2 * i + 2) N]) (vals2 _ _ _) (by simp (disch := omega) only [setRow_get, newRow_get, newRow_next, setRow_next, newRow_lo, setRow_lo, newRow_grps, setRow_grps, newRow_relo, setRow_relo, relo_objs, relo_next, relo_lo, nbeq_ne, cond_false, cond_true, beq_self_eq_true]; omega) (by simp (disch := omega) only [setRow_get, newRow_get, newRow_next, setRow_next, newRow_lo, setRow_lo, newRow_grps, setRow_grps, newRow_relo, setRow_relo, relo_objs, relo_next, relo_lo, nbeq_ne, cond_false, cond_true, beq_self_eq_true]) (by simp) (by simp))).mono ?_
    rintro v4 H4 ⟨s4, w, rfl, hwc, hnode⟩
    have n4 := s4.nxt
    have l4 := s4.lo
    simp only [newRow_next, newRow_lo] at n4 l4
    simp (config := { maxSteps := 1000000 }) (disch := omega) only [↓sh, ↓reduceIte, sx, nbeq_ne, dle, relo_eq, wrap_i64, cond_true, cond_false, Option.bind_some, Option.bind_none, Option.map_some, Nat.add_zero, Nat.zero_add, List.getElem?_cons_zero, List.getElem?_cons_succ, List.getElem?_nil, List.getElem?_toArray, List.length_cons, List.length_nil, List.drop_zero, List.drop_succ_cons, List.drop_nil, List.take_zero, List.take_succ_cons, List.take_nil, List.append_nil, List.nil_append, List.cons_append, List.all_cons, List.all_nil, true_and, and_true, Bool.not_true, Bool.not_false, Bool.true_and, Bool.and_true, Bool.false_and, Bool.and_false, Bool.true_or, Bool.or_true, Bool.false_or, Bool.or_false, decide_true, decide_false, beq_self_eq_true, if_true, if_false, Nat.reduceBEq, Nat.reduceLT, Nat.reduceLeDiff, Nat.reduceAdd, Nat.reduceMul, Nat.reduceEqDiff, Int.reduceEq, Int.reduceLT, Int.reduceLE, eq_self, Int.reduceNeg, Option.isSome_some, h6, h5, h3, h2, bs_24, ble_dec, repeat_succ, repeat_zero, app_24, appT_24, cut_eq]
    have sc := (((s2.trans s3).newRow _).trans s4).newRow [Value.int .i64 3, Value.slice (some ⟨H3.next, 0, none⟩) 2 2, w]
    have scn := sc.nxt
    have scl := sc.lo
    obtain ⟨H5, hap, ho5, hg5, hx5⟩ := append_own (bytes := 56) (k := 1) (new := [Value.int .i64 3, Value.slice (some ⟨H3.next, 0, none⟩) 2 2, w]) (ho.same sc) (by omega) (by omega) (by omega) rfl (by simp only [List.all_cons, List.all_nil, isCell_int, isCell_slice, hwc, Bool.and_self]) (by simp [growOk, beq_dec, ble_dec]; omega)
    simp (config := { maxSteps := 1000000 }) (disch := omega) only [↓sh, ↓reduceIte, sx, nbeq_ne, dle, relo_eq, wrap_i64, cond_true, cond_false, Option.bind_some, Option.bind_none, Option.map_some, Nat.add_zero, Nat.zero_add, List.getElem?_cons_zero, List.getElem?_cons_succ, List.getElem?_nil, List.getElem?_toArray, List.length_cons, List.length_nil, List.drop_zero, List.drop_succ_cons, List.drop_nil, List.take_zero, List.take_succ_cons, List.take_nil, List.append_nil, List.nil_append, List.cons_append, List.all_cons, List.all_nil, true_and, and_true, Bool.not_true, Bool.not_false, Bool.true_and, Bool.and_true, Bool.false_and, Bool.and_false, Bool.true_or, Bool.or_true, Bool.false_or, Bool.or_false, decide_true, decide_false, beq_self_eq_true, if_true, if_false, Nat.reduceBEq, Nat.reduceLT, Nat.reduceLeDiff, Nat.reduceAdd, Nat.reduceMul, Nat.reduceEqDiff, Int.reduceEq, Int.reduceLT, Int.reduceLE, eq_self, Int.reduceNeg, Option.isSome_some, hap, h6]
    refine ⟨_, by omega, i + 1, _, _, rfl, by omega, by simp, rfl, h3, h2, hg5.same (s.trans sc) (Nat.le_refl _), (by rw [newRow_next] at ho5; exact ho5), ?_⟩
    rw [nodesOf_succ]
    exact (he.ext RNode.mono (sc.ext.trans hg5.ext)).snoc rfl (RNode.mono _ _ _ _ ((same_newRow _).ext.trans hg5.ext) hnode)
  · have hd : decide ((i : Int) < N) = false := by simp; omega
    simp (config := { maxSteps := 1000000 }) (disch := omega) only [↓sh, ↓reduceIte, sx, nbeq_ne, dle, relo_eq, wrap_i64, cond_true, cond_false, Option.bind_some, Option.bind_none, Option.map_some, Nat.add_zero, Nat.zero_add, List.getElem?_cons_zero, List.getElem?_cons_succ, List.getElem?_nil, List.getElem?_toArray, List.length_cons, List.length_nil, List.drop_zero, List.drop_succ_cons, List.drop_nil, List.take_zero, List.take_succ_cons, List.take_nil, List.append_nil, List.nil_append, List.cons_append, List.all_cons, List.all_nil, true_and, and_true, Bool.not_true, Bool.not_false, Bool.true_and, Bool.and_true, Bool.false_and, Bool.and_false, Bool.true_or, Bool.or_true, Bool.false_or, Bool.or_false, decide_true, decide_false, beq_self_eq_true, if_true, if_false, Nat.reduceBEq, Nat.reduceLT, Nat.reduceLeDiff, Nat.reduceAdd, Nat.reduceMul, Nat.reduceEqDiff, Int.reduceEq, Int.reduceLT, Int.reduceLE, eq_self, Int.reduceNeg, Option.isSome_some, h6, h5, h3, h2, hd]
    have hi' : i = N := by omega
    subst hi'
    refine (rooted_ok H' (by omega) v _ (ho.reads (nodesOf_len _ _) (by rw [nodesOf_len]; omega) he)).mono ?_
    rintro v2 H2 ⟨s2, a, b, rfl, ha, hb⟩
    have g2 := s2.keeps (by omega) (s.keeps (by omega) g1)
    have l2 := s2.lo
    have n2 := s2.nxt
    simp (config := { maxSteps := 1000000 }) (disch := omega) only [↓sh, ↓reduceIte, sx, nbeq_ne, dle, relo_eq, wrap_i64, cond_true, cond_false, Option.bind_some, Option.bind_none, Option.map_some, Nat.add_zero, Nat.zero_add, List.getElem?_cons_zero, List.getElem?_cons_succ, List.getElem?_nil, List.getElem?_toArray, List.length_cons, List.length_nil, List.drop_zero, List.drop_succ_cons, List.drop_nil, List.take_zero, List.take_succ_cons, List.take_nil, List.append_nil, List.nil_append, List.cons_append, List.all_cons, List.all_nil, true_and, and_true, Bool.not_true, Bool.not_false, Bool.true_and, Bool.and_true, Bool.false_and, Bool.and_false, Bool.true_or, Bool.or_true, Bool.false_or, Bool.or_false, decide_true, decide_false, beq_self_eq_true, if_true, if_false, Nat.reduceBEq, Nat.reduceLT, Nat.reduceLeDiff, Nat.reduceAdd, Nat.reduceMul, Nat.reduceEqDiff, Int.reduceEq, Int.reduceLT, Int.reduceLE, eq_self, Int.reduceNeg, Option.isSome_some, h2, size_27, g2, ha.cell, hb.cell, agg_27, cut_eq]
    rw [hG]
    exact ⟨((s1.trans s).trans s2).setRow (Nat.le_refl _) _, a, b, rfl, graph_box g2 ha hb⟩
end Go.AM
