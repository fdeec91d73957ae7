/-
  Walks over letters of the functions that the law reaches.
-/
import Derived.Test.YtcickfcjdmolcaaS3
namespace Go.AM
attribute [local instance] fnMaps
open Go Go.Proofs
set_option maxRecDepth 100000
set_option maxHeartbeats 1000000
set_option linter.unusedSimpArgs false

def gridNode (W Hh : Nat) (i : Nat) : Node := ⟨4, [if i % W + 1 < W then refv (i + 1) (W * Hh) else ⟨0, 0⟩, refv (i + W) (W * Hh)], [(i : Int)]⟩
def gridG (w h : Int) : Graph := if w < 1 ∨ 64 < w ∨ h < 1 ∨ 64 < h then emptyGraph else mkGraph (nodesOf (gridNode w.toNat h.toNat) (w.toNat * h.toNat))

theorem gridNode_at {W Hh x y : Nat} (hx : x < W) : gridNode W Hh (y * W + x) = ⟨4, [if x + 1 < W then refv ((y : Int) * W + x + 1) ((W : Int) * Hh) else ⟨0, 0⟩, refv ((y : Int) * W + W + x) ((W : Int) * Hh)], [(y : Int) * W + x]⟩ := by
  have h1 : (y * W + x) % W = x := by rw [Nat.mul_comm, Nat.mul_add_mod, Nat.mod_eq_of_lt hx]
  have h2 : (((y * W + x : Nat) : Int)) = (y : Int) * W + x := by simp
  simp only [gridNode, h1, h2]
  rw [show (y : Int) * W + x + W = (y : Int) * W + W + x by omega]

theorem refgrid_ok (H : Heap) (hlo : H.lo ≤ H.next) (w h : Int) : CallA E (fnv 13) [.int .i64 w, .int .i64 h] H fun v' H' => Same H H' ∧ GraphV H' v' (gridG w h) := by
  refine callA_fn (by kernel_rfl) fn13 rfl rfl ?_
  simp only [Try.f13]
  by_cases c1 : w < 1
  · have d1 : decide (w < 1) = true := by simpa using c1
    simp (config := { maxSteps := 1000000 }) (disch := omega) only [↓sh, ↓reduceIte, sx, nbeq_ne, dle, relo_eq, wrap_i64, cond_true, cond_false, Option.bind_some, Option.bind_none, Option.map_some, Nat.add_zero, Nat.zero_add, List.getElem?_cons_zero, List.getElem?_cons_succ, List.getElem?_nil, List.getElem?_toArray, List.length_cons, List.length_nil, List.drop_zero, List.drop_succ_cons, List.drop_nil, List.take_zero, List.take_succ_cons, List.take_nil, List.append_nil, List.nil_append, List.cons_append, List.all_cons, List.all_nil, true_and, and_true, Bool.not_true, Bool.not_false, Bool.true_and, Bool.and_true, Bool.false_and, Bool.and_false, Bool.true_or, Bool.or_true, Bool.false_or, Bool.or_false, decide_true, decide_false, beq_self_eq_true, if_true, if_false, Nat.reduceBEq, Nat.reduceLT, Nat.reduceLeDiff, Nat.reduceAdd, Nat.reduceMul, Nat.reduceEqDiff, Int.reduceEq, Int.reduceLT, Int.reduceLE, eq_self, Int.reduceNeg, Option.isSome_some, zero_27, d1, lit_27, size_27, agg_27, cut_eq]
    refine ⟨(same_newRow _).setRow (Nat.le_refl _) _, ?_⟩
    simp only [gridG, c1, true_or, if_true]
    exact graph_empty _
  have d1 : decide (w < 1) = false := by simpa using c1
  by_cases c2 : 64 < w
  · have d2 : decide (64 < w) = true := by simpa using c2
    simp (config := { maxSteps := 1000000 }) (disch := omega) only [↓sh, ↓reduceIte, sx, nbeq_ne, dle, relo_eq, wrap_i64, cond_true, cond_false, Option.bind_some, Option.bind_none, Option.map_some, Nat.add_zero, Nat.zero_add, List.getElem?_cons_zero, List.getElem?_cons_succ, List.getElem?_nil, List.getElem?_toArray, List.length_cons, List.length_nil, List.drop_zero, List.drop_succ_cons, List.drop_nil, List.take_zero, List.take_succ_cons, List.take_nil, List.append_nil, List.nil_append, List.cons_append, List.all_cons, List.all_nil, true_and, and_true, Bool.not_true, Bool.not_false, Bool.true_and, Bool.and_true, Bool.false_and, Bool.and_false, Bool.true_or, Bool.or_true, Bool.false_or, Bool.or_false, decide_true, decide_false, beq_self_eq_true, if_true, if_false, Nat.reduceBEq, Nat.reduceLT, Nat.reduceLeDiff, Nat.reduceAdd, Nat.reduceMul, Nat.reduceEqDiff, Int.reduceEq, Int.reduceLT, Int.reduceLE, eq_self, Int.reduceNeg, Option.isSome_some, zero_27, d1, d2, lit_27, size_27, agg_27, cut_eq]
    refine ⟨(same_newRow _).setRow (Nat.le_refl _) _, ?_⟩
    simp only [gridG, c2, true_or, or_true, if_true]
    exact graph_empty _
  have d2 : decide (64 < w) = false := by simpa using c2
  by_cases c3 : h < 1
  · have d3 : decide (h < 1) = true := by simpa using c3
    simp (config := { maxSteps := 1000000 }) (disch := omega) only [↓sh, ↓reduceIte, sx, nbeq_ne, dle, relo_eq, wrap_i64, cond_true, cond_false, Option.bind_some, Option.bind_none, Option.map_some, Nat.add_zero, Nat.zero_add, List.getElem?_cons_zero, List.getElem?_cons_succ, List.getElem?_nil, List.getElem?_toArray, List.length_cons, List.length_nil, List.drop_zero, List.drop_succ_cons, List.drop_nil, List.take_zero, List.take_succ_cons, List.take_nil, List.append_nil, List.nil_append, List.cons_append, List.all_cons, List.all_nil, true_and, and_true, Bool.not_true, Bool.not_false, Bool.true_and, Bool.and_true, Bool.false_and, Bool.and_false, Bool.true_or, Bool.or_true, Bool.false_or, Bool.or_false, decide_true, decide_false, beq_self_eq_true, if_true, if_false, Nat.reduceBEq, Nat.reduceLT, Nat.reduceLeDiff, Nat.reduceAdd, Nat.reduceMul, Nat.reduceEqDiff, Int.reduceEq, Int.reduceLT, Int.reduceLE, eq_self, Int.reduceNeg, Option.isSome_some, zero_27, d1, d2, d3, lit_27, size_27, agg_27, cut_eq]
    refine ⟨(same_newRow _).setRow (Nat.le_refl _) _, ?_⟩
    simp only [gridG, c3, true_or, or_true, if_true]
    exact graph_empty _
  have d3 : decide (h < 1) = false := by simpa using c3
  by_cases c4 : 64 < h
  · have d4 : decide (64 < h) = true := by simpa using c4
    simp (config := { maxSteps := 1000000 }) (disch := omega) only [↓sh, ↓reduceIte, sx, nbeq_ne, dle, relo_eq, wrap_i64, cond_true, cond_false, Option.bind_some, Option.bind_none, Option.map_some, Nat.add_zero, Nat.zero_add, List.getElem?_cons_zero, List.getElem?_cons_succ, List.getElem?_nil, List.getElem?_toArray, List.length_cons, List.length_nil, List.drop_zero, List.drop_succ_cons, List.drop_nil, List.take_zero, List.take_succ_cons, List.take_nil, List.append_nil, List.nil_append, List.cons_append, List.all_cons, List.all_nil, true_and, and_true, Bool.not_true, Bool.not_false, Bool.true_and, Bool.and_true, Bool.false_and, Bool.and_false, Bool.true_or, Bool.or_true, Bool.false_or, Bool.or_false, decide_true, decide_false, beq_self_eq_true, if_true, if_false, Nat.reduceBEq, Nat.reduceLT, Nat.reduceLeDiff, Nat.reduceAdd, Nat.reduceMul, Nat.reduceEqDiff, Int.reduceEq, Int.reduceLT, Int.reduceLE, eq_self, Int.reduceNeg, Option.isSome_some, zero_27, d1, d2, d3, d4, lit_27, size_27, agg_27, cut_eq]
    refine ⟨(same_newRow _).setRow (Nat.le_refl _) _, ?_⟩
    simp only [gridG, c4, or_true, if_true]
    exact graph_empty _
  have d4 : decide (64 < h) = false := by simpa using c4
  have hG : gridG w h = mkGraph (nodesOf (gridNode w.toNat h.toNat) (w.toNat * h.toNat)) := by simp only [gridG, c1, c2, c3, c4, or_self, if_false]
  rw [hG]
  obtain ⟨W, rfl⟩ : ∃ W : Nat, w = W := ⟨w.toNat, by omega⟩
  obtain ⟨Hh, rfl⟩ : ∃ Hh : Nat, h = Hh := ⟨h.toNat, by omega⟩
  simp only [Int.toNat_natCast]
  have hW : W * Hh ≤ 4096 := Nat.mul_le_mul (show W ≤ 64 by omega) (show Hh ≤ 64 by omega)
  have hWi : (W : Int) * (Hh : Int) ≤ 4096 := by exact_mod_cast hW
  have hWn : (0 : Int) ≤ (W : Int) * (Hh : Int) := Int.mul_nonneg (by omega) (by omega)
  simp (config := { maxSteps := 1000000 }) (disch := omega) only [↓sh, ↓reduceIte, sx, nbeq_ne, dle, relo_eq, wrap_i64, cond_true, cond_false, Option.bind_some, Option.bind_none, Option.map_some, Nat.add_zero, Nat.zero_add, List.getElem?_cons_zero, List.getElem?_cons_succ, List.getElem?_nil, List.getElem?_toArray, List.length_cons, List.length_nil, List.drop_zero, List.drop_succ_cons, List.drop_nil, List.take_zero, List.take_succ_cons, List.take_nil, List.append_nil, List.nil_append, List.cons_append, List.all_cons, List.all_nil, true_and, and_true, Bool.not_true, Bool.not_false, Bool.true_and, Bool.and_true, Bool.false_and, Bool.and_false, Bool.true_or, Bool.or_true, Bool.false_or, Bool.or_false, decide_true, decide_false, beq_self_eq_true, if_true, if_false, Nat.reduceBEq, Nat.reduceLT, Nat.reduceLeDiff, Nat.reduceAdd, Nat.reduceMul, Nat.reduceEqDiff, Int.reduceEq, Int.reduceLT, Int.reduceLE, eq_self, Int.reduceNeg, Option.isSome_some, zero_27, d1, d2, d3, d4]
  refine named (H.newRow [Value.slice none 0 0, Value.slice none 0 0]) (fun H1 e1 => ?_)
  have n1 : H1.next = H.next + 1 := by rw [e1]; simp (disch := omega) only [setRow_get, newRow_get, newRow_next, setRow_next, newRow_lo, setRow_lo, newRow_grps, setRow_grps, newRow_relo, setRow_relo, relo_objs, relo_next, relo_lo, nbeq_ne, cond_false, cond_true, beq_self_eq_true]
  have l1 : H1.lo = H.lo := by rw [e1]; simp (disch := omega) only [setRow_get, newRow_get, newRow_next, setRow_next, newRow_lo, setRow_lo, newRow_grps, setRow_grps, newRow_relo, setRow_relo, relo_objs, relo_next, relo_lo, nbeq_ne, cond_false, cond_true, beq_self_eq_true]
  have g1 : H1.objs.get H.next = some (.row [Value.slice none 0 0, Value.slice none 0 0] none true) := by rw [e1]; simp (disch := omega) only [setRow_get, newRow_get, newRow_next, setRow_next, newRow_lo, setRow_lo, newRow_grps, setRow_grps, newRow_relo, setRow_relo, relo_objs, relo_next, relo_lo, nbeq_ne, cond_false, cond_true, beq_self_eq_true]
  have s1 : Same H H1 := by rw [e1]; exact same_newRow _
  rw [← e1]
  clear d1 d2 d3 d4 hG
  refine wp_loop (by kernel_rfl) (fun m T H' => ∃ (y : Nat) (v : Value) (cs : List Value), m = Hh - y ∧ y ≤ Hh ∧ T.get 6 = some (.int .i64 y) ∧ T.get 5 = some v ∧ T.get 0 = some (.int .i64 W) ∧ T.get 1 = some (.int .i64 Hh) ∧ T.get 4 = some (ptr H.next 0) ∧ Same H1 H' ∧ Own H1.next 3 H' v (y * W) cs ∧ Elems RNode 3 H' cs (nodesOf (gridNode W Hh) (y * W))) Hh ?_ ?_
  · exact ⟨0, _, [], by omega, by omega, rfl, rfl, rfl, rfl, rfl, Same.refl _, by rw [Nat.zero_mul]; exact Own.nil _ _ _, by rw [Nat.zero_mul]; exact Elems.nil _ _ _⟩
  rintro m T H' ⟨y, v, cs, rfl, hy, h6, h5, h0, h1, h4, s, ho, he⟩
  by_cases hlt : y < Hh
  · have hd : decide ((y : Int) < (Hh : Int)) = true := by simpa using hlt
    have hyW : (y + 1) * W ≤ 4096 := Nat.mul_le_mul (show y + 1 ≤ 64 by omega) (show W ≤ 64 by omega)
    have hyW' : y * W + W ≤ 4096 := by rw [Nat.add_mul, Nat.one_mul] at hyW; exact hyW
    have hyn : (0 : Int) ≤ (y : Int) * (W : Int) := Int.mul_nonneg (by omega) (by omega)
    have hyi : (y : Int) * (W : Int) + W ≤ 4096 := by exact_mod_cast hyW'
    have hyj : ((y : Int) + 1) * (W : Int) = (y : Int) * (W : Int) + W := by rw [Int.add_mul, Int.one_mul]
    simp (config := { maxSteps := 1000000 }) (disch := omega) only [↓sh, ↓reduceIte, sx, nbeq_ne, dle, relo_eq, wrap_i64, cond_true, cond_false, Option.bind_some, Option.bind_none, Option.map_some, Nat.add_zero, Nat.zero_add, List.getElem?_cons_zero, List.getElem?_cons_succ, List.getElem?_nil, List.getElem?_toArray, List.length_cons, List.length_nil, List.drop_zero, List.drop_succ_cons, List.drop_nil, List.take_zero, List.take_succ_cons, List.take_nil, List.append_nil, List.nil_append, List.cons_append, List.all_cons, List.all_nil, true_and, and_true, Bool.not_true, Bool.not_false, Bool.true_and, Bool.and_true, Bool.false_and, Bool.and_false, Bool.true_or, Bool.or_true, Bool.false_or, Bool.or_false, decide_true, decide_false, beq_self_eq_true, if_true, if_false, Nat.reduceBEq, Nat.reduceLT, Nat.reduceLeDiff, Nat.reduceAdd, Nat.reduceMul, Nat.reduceEqDiff, Int.reduceEq, Int.reduceLT, Int.reduceLE, eq_self, Int.reduceNeg, Option.isSome_some, h6, h5, h0, h1, h4, hd]
    refine wp_loop (by kernel_rfl) (fun m T H' => ∃ (x : Nat) (v : Value) (cs : List Value), m = W - x ∧ x ≤ W ∧ T.get 7 = some (.int .i64 x) ∧ T.get 6 = some (.int .i64 y) ∧ T.get 5 = some v ∧ T.get 0 = some (.int .i64 W) ∧ T.get 1 = some (.int .i64 Hh) ∧ T.get 4 = some (ptr H.next 0) ∧ Same H1 H' ∧ Own H1.next 3 H' v (y * W + x) cs ∧ Elems RNode 3 H' cs (nodesOf (gridNode W Hh) (y * W + x))) W ?_ ?_
    · exact ⟨0, _, cs, by omega, by omega, rfl, h6, h5, h0, h1, h4, s, ho, he⟩
    clear h6 h5 h0 h1 h4 s ho he hd
    rintro m T H' ⟨x, v, cs, rfl, hx, h7, h6, h5, h0, h1, h4, s, ho, he⟩
    have hsn := s.nxt
    have hsl := s.lo
    by_cases hxl : x < W
    · have hd : decide ((x : Int) < (W : Int)) = true := by simpa using hxl
      by_cases hr : x + 1 < W
      · have hd2 : decide ((x : Int) + 1 < (W : Int)) = true := by simp; omega
        simp (config := { maxSteps := 1000000 }) (disch := omega) only [↓sh, ↓reduceIte, sx, nbeq_ne, dle, relo_eq, wrap_i64, cond_true, cond_false, Option.bind_some, Option.bind_none, Option.map_some, Nat.add_zero, Nat.zero_add, List.getElem?_cons_zero, List.getElem?_cons_succ, List.getElem?_nil, List.getElem?_toArray, List.length_cons, List.length_nil, List.drop_zero, List.drop_succ_cons, List.drop_nil, List.take_zero, List.take_succ_cons, List.take_nil, List.append_nil, List.nil_append, List.cons_append, List.all_cons, List.all_nil, true_and, and_true, Bool.not_true, Bool.not_false, Bool.true_and, Bool.and_true, Bool.false_and, Bool.and_false, Bool.true_or, Bool.or_true, Bool.false_or, Bool.or_false, decide_true, decide_false, beq_self_eq_true, if_true, if_false, Nat.reduceBEq, Nat.reduceLT, Nat.reduceLeDiff, Nat.reduceAdd, Nat.reduceMul, Nat.reduceEqDiff, Int.reduceEq, Int.reduceLT, Int.reduceLE, eq_self, Int.reduceNeg, Option.isSome_some, h7, h6, h5, h0, h1, h4, hd, hd2, lit_34, zero_34, size_34]
        refine (ref_ok _ (by simp (disch := omega) only [setRow_get, newRow_get, newRow_next, setRow_next, newRow_lo, setRow_lo, newRow_grps, setRow_grps, newRow_relo, setRow_relo, relo_objs, relo_next, relo_lo, nbeq_ne, cond_false, cond_true, beq_self_eq_true]; omega) _ _).mono ?_
        rintro v2 H2 ⟨rfl, s2⟩
        have n2 := s2.nxt
        have l2 := s2.lo
        have o2 := s2.objs
        have sX := ((same_newRow _).setRow (Nat.le_refl _) _).trans s2
        simp only [newRow_next, newRow_lo, setRow_next, setRow_lo] at n2 l2 o2
        refine named (refv ((y : Int) * W + x + 1) ((W : Int) * Hh)) (fun rv hv => ?_)
        have hrv : (if x + 1 < W then refv ((y : Int) * W + x + 1) ((W : Int) * Hh) else ⟨0, 0⟩) = rv := by rw [if_pos hr, hv]
        simp (config := { maxSteps := 1000000 }) (disch := omega) only [↓sh, ↓reduceIte, sx, nbeq_ne, dle, relo_eq, wrap_i64, cond_true, cond_false, Option.bind_some, Option.bind_none, Option.map_some, Nat.add_zero, Nat.zero_add, List.getElem?_cons_zero, List.getElem?_cons_succ, List.getElem?_nil, List.getElem?_toArray, List.length_cons, List.length_nil, List.drop_zero, List.drop_succ_cons, List.drop_nil, List.take_zero, List.take_succ_cons, List.take_nil, List.append_nil, List.nil_append, List.cons_append, List.all_cons, List.all_nil, true_and, and_true, Bool.not_true, Bool.not_false, Bool.true_and, Bool.and_true, Bool.false_and, Bool.and_false, Bool.true_or, Bool.or_true, Bool.false_or, Bool.or_false, decide_true, decide_false, beq_self_eq_true, if_true, if_false, Nat.reduceBEq, Nat.reduceLT, Nat.reduceLeDiff, Nat.reduceAdd, Nat.reduceMul, Nat.reduceEqDiff, Int.reduceEq, Int.reduceLT, Int.reduceLE, eq_self, Int.reduceNeg, Option.isSome_some, h7, h6, h5, h0, h1, h4, o2, l2, valV, size_34, ← hv]
        have sX := sX.setRow (Nat.le_refl _) [Value.int .i64 rv.kind, Value.int .i64 rv.x]
        refine named (H2.setRow H'.next [Value.int .i64 rv.kind, Value.int .i64 rv.x]) (fun Hx eX => ?_)
        rw [← eX] at sX
        have boxX : Hx.objs.get H'.next = some (.row [Value.int .i64 rv.kind, Value.int .i64 rv.x] none true) := by rw [eX]; simp (disch := omega) only [setRow_get, newRow_get, newRow_next, setRow_next, newRow_lo, setRow_lo, newRow_grps, setRow_grps, newRow_relo, setRow_relo, relo_objs, relo_next, relo_lo, nbeq_ne, cond_false, cond_true, beq_self_eq_true]
        have nX : H'.next + 1 ≤ Hx.next := by rw [eX]; simp (disch := omega) only [setRow_get, newRow_get, newRow_next, setRow_next, newRow_lo, setRow_lo, newRow_grps, setRow_grps, newRow_relo, setRow_relo, relo_objs, relo_next, relo_lo, nbeq_ne, cond_false, cond_true, beq_self_eq_true]; omega
        have lX := sX.lo
        rw [← eX]
        refine wps_draw [(false, []), (false, []), (false, []), (false, []), (false, []), (false, []), (false, []), (false, []), (false, []), (false, []), (false, []), (false, []), (false, []), (false, []), (false, []), (false, []), (true, []), (false, []), (false, []), (false, []), (false, []), (false, [])] (by kernel_rfl) ?_
        simp (config := { maxSteps := 1000000 }) (disch := omega) only [↓sh, ↓reduceIte, sx, nbeq_ne, dle, relo_eq, wrap_i64, cond_true, cond_false, Option.bind_some, Option.bind_none, Option.map_some, Nat.add_zero, Nat.zero_add, List.getElem?_cons_zero, List.getElem?_cons_succ, List.getElem?_nil, List.getElem?_toArray, List.length_cons, List.length_nil, List.drop_zero, List.drop_succ_cons, List.drop_nil, List.take_zero, List.take_succ_cons, List.take_nil, List.append_nil, List.nil_append, List.cons_append, List.all_cons, List.all_nil, true_and, and_true, Bool.not_true, Bool.not_false, Bool.true_and, Bool.and_true, Bool.false_and, Bool.and_false, Bool.true_or, Bool.or_true, Bool.false_or, Bool.or_false, decide_true, decide_false, beq_self_eq_true, if_true, if_false, Nat.reduceBEq, Nat.reduceLT, Nat.reduceLeDiff, Nat.reduceAdd, Nat.reduceMul, Nat.reduceEqDiff, Int.reduceEq, Int.reduceLT, Int.reduceLE, eq_self, Int.reduceNeg, Option.isSome_some, h7, h6, h5, h0, h1, h4, boxX, hyj, agg_34, cut_eq]
        refine (ref_ok _ (by simp (disch := omega) only [setRow_get, newRow_get, newRow_next, setRow_next, newRow_lo, setRow_lo, newRow_grps, setRow_grps, newRow_relo, setRow_relo, relo_objs, relo_next, relo_lo, nbeq_ne, cond_false, cond_true, beq_self_eq_true]; omega) _ _).mono ?_
        rintro v3 H3 ⟨rfl, s3⟩
        have s3 : Same Hx (H3.relo Hx.lo) := s3.relo
        refine named (H3.relo Hx.lo) (fun H4 e4 => ?_)
        rw [← e4] at s3
        have hr4 : H4.relo Hx.lo = H4 := by rw [e4]; rfl
        have n3 := s3.nxt
        have l3 := s3.lo
        simp (config := { maxSteps := 1000000 }) (disch := omega) only [↓sh, ↓reduceIte, sx, nbeq_ne, dle, relo_eq, wrap_i64, cond_true, cond_false, Option.bind_some, Option.bind_none, Option.map_some, Nat.add_zero, Nat.zero_add, List.getElem?_cons_zero, List.getElem?_cons_succ, List.getElem?_nil, List.getElem?_toArray, List.length_cons, List.length_nil, List.drop_zero, List.drop_succ_cons, List.drop_nil, List.take_zero, List.take_succ_cons, List.take_nil, List.append_nil, List.nil_append, List.cons_append, List.all_cons, List.all_nil, true_and, and_true, Bool.not_true, Bool.not_false, Bool.true_and, Bool.and_true, Bool.false_and, Bool.and_false, Bool.true_or, Bool.or_true, Bool.false_or, Bool.or_false, decide_true, decide_false, beq_self_eq_true, if_true, if_false, Nat.reduceBEq, Nat.reduceLT, Nat.reduceLeDiff, Nat.reduceAdd, Nat.reduceMul, Nat.reduceEqDiff, Int.reduceEq, Int.reduceLT, Int.reduceLE, eq_self, Int.reduceNeg, Option.isSome_some, h7, h6, h5, h0, h1, h4, ← e4, hr4, valV, bs_25, ble_dec, repeat_succ, repeat_zero]
        refine (node_ok _ (by simp (disch := omega) only [setRow_get, newRow_get, newRow_next, setRow_next, newRow_lo, setRow_lo, newRow_grps, setRow_grps, newRow_relo, setRow_relo, relo_objs, relo_next, relo_lo, nbeq_ne, cond_false, cond_true, beq_self_eq_true]; omega) _ _ (by omega) (by omega) _ [rv, refv ((y : Int) * W + W + x) ((W : Int) * Hh)] (SL.alone (l := [rv, refv ((y : Int) * W + W + x) ((W : Int) * Hh)]) (vals2 _ _ _) (by simp (disch := omega) only [setRow_get, newRow_get, newRow_next, setRow_next, newRow_lo, setRow_lo, newRow_grps, setRow_grps, newRow_relo, setRow_relo, relo_objs, relo_next, relo_lo, nbeq_ne, cond_false, cond_true, beq_self_eq_true]; omega) (by simp (disch := omega) only [setRow_get, newRow_get, newRow_next, setRow_next, newRow_lo, setRow_lo, newRow_grps, setRow_grps, newRow_relo, setRow_relo, relo_objs, relo_next, relo_lo, nbeq_ne, cond_false, cond_true, beq_self_eq_true]) (by simp) (by simp))).mono ?_
        rintro v5 H5 ⟨s5, w, rfl, hwc, hnode⟩
        have n5 := s5.nxt
        have l5 := s5.lo
        simp only [newRow_next, newRow_lo] at n5 l5
        simp (config := { maxSteps := 1000000 }) (disch := omega) only [↓sh, ↓reduceIte, sx, nbeq_ne, dle, relo_eq, wrap_i64, cond_true, cond_false, Option.bind_some, Option.bind_none, Option.map_some, Nat.add_zero, Nat.zero_add, List.getElem?_cons_zero, List.getElem?_cons_succ, List.getElem?_nil, List.getElem?_toArray, List.length_cons, List.length_nil, List.drop_zero, List.drop_succ_cons, List.drop_nil, List.take_zero, List.take_succ_cons, List.take_nil, List.append_nil, List.nil_append, List.cons_append, List.all_cons, List.all_nil, true_and, and_true, Bool.not_true, Bool.not_false, Bool.true_and, Bool.and_true, Bool.false_and, Bool.and_false, Bool.true_or, Bool.or_true, Bool.false_or, Bool.or_false, decide_true, decide_false, beq_self_eq_true, if_true, if_false, Nat.reduceBEq, Nat.reduceLT, Nat.reduceLeDiff, Nat.reduceAdd, Nat.reduceMul, Nat.reduceEqDiff, Int.reduceEq, Int.reduceLT, Int.reduceLE, eq_self, Int.reduceNeg, Option.isSome_some, h7, h6, h5, h0, h1, h4, bs_24, ble_dec, repeat_succ, repeat_zero, app_24, appT_24, cut_eq]
        have sc := (((sX.trans s3).newRow _).trans s5).newRow [Value.int .i64 4, Value.slice (some ⟨H4.next, 0, none⟩) 2 2, w]
        have scn := sc.nxt
        have scl := sc.lo
        obtain ⟨H6, hap, ho6, hg6, hx6⟩ := append_own (bytes := 56) (k := 1) (new := [Value.int .i64 4, Value.slice (some ⟨H4.next, 0, none⟩) 2 2, w]) (ho.same sc) (by omega) (by omega) (by omega) rfl (by simp only [List.all_cons, List.all_nil, isCell_int, isCell_slice, hwc, Bool.and_self]) (by simp [growOk, beq_dec, ble_dec]; omega)
        have hgl := hg6.lo
        simp (config := { maxSteps := 1000000 }) (disch := omega) only [↓sh, ↓reduceIte, sx, nbeq_ne, dle, relo_eq, wrap_i64, cond_true, cond_false, Option.bind_some, Option.bind_none, Option.map_some, Nat.add_zero, Nat.zero_add, List.getElem?_cons_zero, List.getElem?_cons_succ, List.getElem?_nil, List.getElem?_toArray, List.length_cons, List.length_nil, List.drop_zero, List.drop_succ_cons, List.drop_nil, List.take_zero, List.take_succ_cons, List.take_nil, List.append_nil, List.nil_append, List.cons_append, List.all_cons, List.all_nil, true_and, and_true, Bool.not_true, Bool.not_false, Bool.true_and, Bool.and_true, Bool.false_and, Bool.and_false, Bool.true_or, Bool.or_true, Bool.false_or, Bool.or_false, decide_true, decide_false, beq_self_eq_true, if_true, if_false, Nat.reduceBEq, Nat.reduceLT, Nat.reduceLeDiff, Nat.reduceAdd, Nat.reduceMul, Nat.reduceEqDiff, Int.reduceEq, Int.reduceLT, Int.reduceLE, eq_self, Int.reduceNeg, Option.isSome_some, hap, h7, hgl]
        refine ⟨_, by omega, x + 1, _, _, rfl, by omega, by simp, h6, rfl, h0, h1, h4, hg6.same (s.trans sc) (Nat.le_refl _), (by rw [newRow_next] at ho6; exact ho6), ?_⟩
        rw [← Nat.add_assoc, nodesOf_succ, gridNode_at hxl, hrv]
        exact (he.ext RNode.mono (sc.ext.trans hg6.ext)).snoc rfl (RNode.mono _ _ _ _ ((same_newRow _).ext.trans hg6.ext) hnode)
      · have hd2 : decide ((x : Int) + 1 < (W : Int)) = false := by simp; omega
        simp (config := { maxSteps := 1000000 }) (disch := omega) only [↓sh, ↓reduceIte, sx, nbeq_ne, dle, relo_eq, wrap_i64, cond_true, cond_false, Option.bind_some, Option.bind_none, Option.map_some, Nat.add_zero, Nat.zero_add, List.getElem?_cons_zero, List.getElem?_cons_succ, List.getElem?_nil, List.getElem?_toArray, List.length_cons, List.length_nil, List.drop_zero, List.drop_succ_cons, List.drop_nil, List.take_zero, List.take_succ_cons, List.take_nil, List.append_nil, List.nil_append, List.cons_append, List.all_cons, List.all_nil, true_and, and_true, Bool.not_true, Bool.not_false, Bool.true_and, Bool.and_true, Bool.false_and, Bool.and_false, Bool.true_or, Bool.or_true, Bool.false_or, Bool.or_false, decide_true, decide_false, beq_self_eq_true, if_true, if_false, Nat.reduceBEq, Nat.reduceLT, Nat.reduceLeDiff, Nat.reduceAdd, Nat.reduceMul, Nat.reduceEqDiff, Int.reduceEq, Int.reduceLT, Int.reduceLE, eq_self, Int.reduceNeg, Option.isSome_some, h7, h6, h5, h0, h1, h4, hd, hd2, lit_34, zero_34, size_34]
        refine named (⟨0, 0⟩ : Val) (fun rv hv => ?_)
        have hrv : (if x + 1 < W then refv ((y : Int) * W + x + 1) ((W : Int) * Hh) else ⟨0, 0⟩) = rv := by rw [if_neg hr, hv]
        have sX := (same_newRow (H := H') [Value.int .i64 0, Value.int .i64 0]).setRow (Nat.le_refl _) [Value.int .i64 0, Value.int .i64 0]
        refine named ((H'.newRow [Value.int .i64 0, Value.int .i64 0]).setRow H'.next [Value.int .i64 0, Value.int .i64 0]) (fun Hx eX => ?_)
        rw [← eX] at sX
        have boxX : Hx.objs.get H'.next = some (.row [Value.int .i64 rv.kind, Value.int .i64 rv.x] none true) := by rw [eX, hv]; simp (disch := omega) only [setRow_get, newRow_get, newRow_next, setRow_next, newRow_lo, setRow_lo, newRow_grps, setRow_grps, newRow_relo, setRow_relo, relo_objs, relo_next, relo_lo, nbeq_ne, cond_false, cond_true, beq_self_eq_true]
        have nX : H'.next + 1 ≤ Hx.next := by rw [eX]; simp (disch := omega) only [setRow_get, newRow_get, newRow_next, setRow_next, newRow_lo, setRow_lo, newRow_grps, setRow_grps, newRow_relo, setRow_relo, relo_objs, relo_next, relo_lo, nbeq_ne, cond_false, cond_true, beq_self_eq_true]; omega
        have lX := sX.lo
        rw [← eX]
        refine wps_draw [(false, []), (false, []), (false, []), (false, []), (false, []), (false, []), (false, []), (false, []), (false, []), (false, []), (false, []), (false, []), (false, []), (false, []), (false, []), (false, []), (true, []), (false, []), (false, []), (false, []), (false, []), (false, [])] (by kernel_rfl) ?_
        simp (config := { maxSteps := 1000000 }) (disch := omega) only [↓sh, ↓reduceIte, sx, nbeq_ne, dle, relo_eq, wrap_i64, cond_true, cond_false, Option.bind_some, Option.bind_none, Option.map_some, Nat.add_zero, Nat.zero_add, List.getElem?_cons_zero, List.getElem?_cons_succ, List.getElem?_nil, List.getElem?_toArray, List.length_cons, List.length_nil, List.drop_zero, List.drop_succ_cons, List.drop_nil, List.take_zero, List.take_succ_cons, List.take_nil, List.append_nil, List.nil_append, List.cons_append, List.all_cons, List.all_nil, true_and, and_true, Bool.not_true, Bool.not_false, Bool.true_and, Bool.and_true, Bool.false_and, Bool.and_false, Bool.true_or, Bool.or_true, Bool.false_or, Bool.or_false, decide_true, decide_false, beq_self_eq_true, if_true, if_false, Nat.reduceBEq, Nat.reduceLT, Nat.reduceLeDiff, Nat.reduceAdd, Nat.reduceMul, Nat.reduceEqDiff, Int.reduceEq, Int.reduceLT, Int.reduceLE, eq_self, Int.reduceNeg, Option.isSome_some, h7, h6, h5, h0, h1, h4, boxX, hyj, agg_34, cut_eq]
        refine (ref_ok _ (by simp (disch := omega) only [setRow_get, newRow_get, newRow_next, setRow_next, newRow_lo, setRow_lo, newRow_grps, setRow_grps, newRow_relo, setRow_relo, relo_objs, relo_next, relo_lo, nbeq_ne, cond_false, cond_true, beq_self_eq_true]; omega) _ _).mono ?_
        rintro v3 H3 ⟨rfl, s3⟩
        have s3 : Same Hx (H3.relo Hx.lo) := s3.relo
        refine named (H3.relo Hx.lo) (fun H4 e4 => ?_)
        rw [← e4] at s3
        have hr4 : H4.relo Hx.lo = H4 := by rw [e4]; rfl
        have n3 := s3.nxt
        have l3 := s3.lo
        simp (config := { maxSteps := 1000000 }) (disch := omega) only [↓sh, ↓reduceIte, sx, nbeq_ne, dle, relo_eq, wrap_i64, cond_true, cond_false, Option.bind_some, Option.bind_none, Option.map_some, Nat.add_zero, Nat.zero_add, List.getElem?_cons_zero, List.getElem?_cons_succ, List.getElem?_nil, List.getElem?_toArray, List.length_cons, List.length_nil, List.drop_zero, List.drop_succ_cons, List.drop_nil, List.take_zero, List.take_succ_cons, List.take_nil, List.append_nil, List.nil_append, List.cons_append, List.all_cons, List.all_nil, true_and, and_true, Bool.not_true, Bool.not_false, Bool.true_and, Bool.and_true, Bool.false_and, Bool.and_false, Bool.true_or, Bool.or_true, Bool.false_or, Bool.or_false, decide_true, decide_false, beq_self_eq_true, if_true, if_false, Nat.reduceBEq, Nat.reduceLT, Nat.reduceLeDiff, Nat.reduceAdd, Nat.reduceMul, Nat.reduceEqDiff, Int.reduceEq, Int.reduceLT, Int.reduceLE, eq_self, Int.reduceNeg, Option.isSome_some, h7, h6, h5, h0, h1, h4, ← e4, hr4, valV, bs_25, ble_dec, repeat_succ, repeat_zero]
        refine (node_ok _ (by simp (disch := omega) only [setRow_get, newRow_get, newRow_next, setRow_next, newRow_lo, setRow_lo, newRow_grps, setRow_grps, newRow_relo, setRow_relo, relo_objs, relo_next, relo_lo, nbeq_ne, cond_false, cond_true, beq_self_eq_true]; omega) _ _ (by omega) (by omega) _ [rv, refv ((y : Int) * W + W + x) ((W : Int) * Hh)] (SL.alone (l := [rv, refv ((y : Int) * W + W + x) ((W : Int) * Hh)]) (vals2 _ _ _) (by simp (disch := omega) only [setRow_get, newRow_get, newRow_next, setRow_next, newRow_lo, setRow_lo, newRow_grps, setRow_grps, newRow_relo, setRow_relo, relo_objs, relo_next, relo_lo, nbeq_ne, cond_false, cond_true, beq_self_eq_true]; omega) (by simp (disch := omega) only [setRow_get, newRow_get, newRow_next, setRow_next, newRow_lo, setRow_lo, newRow_grps, setRow_grps, newRow_relo, setRow_relo, relo_objs, relo_next, relo_lo, nbeq_ne, cond_false, cond_true, beq_self_eq_true]) (by simp) (by simp))).mono ?_
        rintro v5 H5 ⟨s5, w, rfl, hwc, hnode⟩
        have n5 := s5.nxt
        have l5 := s5.lo
        simp only [newRow_next, newRow_lo] at n5 l5
        simp (config := { maxSteps := 1000000 }) (disch := omega) only [↓sh, ↓reduceIte, sx, nbeq_ne, dle, relo_eq, wrap_i64, cond_true, cond_false, Option.bind_some, Option.bind_none, Option.map_some, Nat.add_zero, Nat.zero_add, List.getElem?_cons_zero, List.getElem?_cons_succ, List.getElem?_nil, List.getElem?_toArray, List.length_cons, List.length_nil, List.drop_zero, List.drop_succ_cons, List.drop_nil, List.take_zero, List.take_succ_cons, List.take_nil, List.append_nil, List.nil_append, List.cons_append, List.all_cons, List.all_nil, true_and, and_true, Bool.not_true, Bool.not_false, Bool.true_and, Bool.and_true, Bool.false_and, Bool.and_false, Bool.true_or, Bool.or_true, Bool.false_or, Bool.or_false, decide_true, decide_false, beq_self_eq_true, if_true, if_false, Nat.reduceBEq, Nat.reduceLT, Nat.reduceLeDiff, Nat.reduceAdd, Nat.reduceMul, Nat.reduceEqDiff, Int.reduceEq, Int.reduceLT, Int.reduceLE, eq_self, Int.reduceNeg, Option.isSome_some, h7, h6, h5, h0, h1, h4, bs_24, ble_dec, repeat_succ, repeat_zero, app_24, appT_24, cut_eq]
        have sc := (((sX.trans s3).newRow _).trans s5).newRow [Value.int .i64 4, Value.slice (some ⟨H4.next, 0, none⟩) 2 2, w]
        have scn := sc.nxt
        have scl := sc.lo
        obtain ⟨H6, hap, ho6, hg6, hx6⟩ := append_own (bytes := 56) (k := 1) (new := [Value.int .i64 4, Value.slice (some ⟨H4.next, 0, none⟩) 2 2, w]) (ho.same sc) (by omega) (by omega) (by omega) rfl (by simp only [List.all_cons, List.all_nil, isCell_int, isCell_slice, hwc, Bool.and_self]) (by simp [growOk, beq_dec, ble_dec]; omega)
        have hgl := hg6.lo
        simp (config := { maxSteps := 1000000 }) (disch := omega) only [↓sh, ↓reduceIte, sx, nbeq_ne, dle, relo_eq, wrap_i64, cond_true, cond_false, Option.bind_some, Option.bind_none, Option.map_some, Nat.add_zero, Nat.zero_add, List.getElem?_cons_zero, List.getElem?_cons_succ, List.getElem?_nil, List.getElem?_toArray, List.length_cons, List.length_nil, List.drop_zero, List.drop_succ_cons, List.drop_nil, List.take_zero, List.take_succ_cons, List.take_nil, List.append_nil, List.nil_append, List.cons_append, List.all_cons, List.all_nil, true_and, and_true, Bool.not_true, Bool.not_false, Bool.true_and, Bool.and_true, Bool.false_and, Bool.and_false, Bool.true_or, Bool.or_true, Bool.false_or, Bool.or_false, decide_true, decide_false, beq_self_eq_true, if_true, if_false, Nat.reduceBEq, Nat.reduceLT, Nat.reduceLeDiff, Nat.reduceAdd, Nat.reduceMul, Nat.reduceEqDiff, Int.reduceEq, Int.reduceLT, Int.reduceLE, eq_self, Int.reduceNeg, Option.isSome_some, hap, h7, hgl]
        refine ⟨_, by omega, x + 1, _, _, rfl, by omega, by simp, h6, rfl, h0, h1, h4, hg6.same (s.trans sc) (Nat.le_refl _), (by rw [newRow_next] at ho6; exact ho6), ?_⟩
        rw [← Nat.add_assoc, nodesOf_succ, gridNode_at hxl, hrv]
        exact (he.ext RNode.mono (sc.ext.trans hg6.ext)).snoc rfl (RNode.mono _ _ _ _ ((same_newRow _).ext.trans hg6.ext) hnode)
    · have hd : decide ((x : Int) < (W : Int)) = false := by simpa using hxl
      simp (config := { maxSteps := 1000000 }) (disch := omega) only [↓sh, ↓reduceIte, sx, nbeq_ne, dle, relo_eq, wrap_i64, cond_true, cond_false, Option.bind_some, Option.bind_none, Option.map_some, Nat.add_zero, Nat.zero_add, List.getElem?_cons_zero, List.getElem?_cons_succ, List.getElem?_nil, List.getElem?_toArray, List.length_cons, List.length_nil, List.drop_zero, List.drop_succ_cons, List.drop_nil, List.take_zero, List.take_succ_cons, List.take_nil, List.append_nil, List.nil_append, List.cons_append, List.all_cons, List.all_nil, true_and, and_true, Bool.not_true, Bool.not_false, Bool.true_and, Bool.and_true, Bool.false_and, Bool.and_false, Bool.true_or, Bool.or_true, Bool.false_or, Bool.or_false, decide_true, decide_false, beq_self_eq_true, if_true, if_false, Nat.reduceBEq, Nat.reduceLT, Nat.reduceLeDiff, Nat.reduceAdd, Nat.reduceMul, Nat.reduceEqDiff, Int.reduceEq, Int.reduceLT, Int.reduceLE, eq_self, Int.reduceNeg, Option.isSome_some, h7, h6, h5, h0, h1, h4, hd]
      have hx' : x = W := by omega
      subst hx'
      have hc : (y + 1) * x = y * x + x := by rw [Nat.add_mul, Nat.one_mul]
      exact ⟨_, by omega, y + 1, v, cs, rfl, by omega, by simp, rfl, s, by rw [hc]; exact ho, by rw [hc]; exact he⟩
  · have hd : decide ((y : Int) < (Hh : Int)) = false := by simpa using hlt
    simp (config := { maxSteps := 1000000 }) (disch := omega) only [↓sh, ↓reduceIte, sx, nbeq_ne, dle, relo_eq, wrap_i64, cond_true, cond_false, Option.bind_some, Option.bind_none, Option.map_some, Nat.add_zero, Nat.zero_add, List.getElem?_cons_zero, List.getElem?_cons_succ, List.getElem?_nil, List.getElem?_toArray, List.length_cons, List.length_nil, List.drop_zero, List.drop_succ_cons, List.drop_nil, List.take_zero, List.take_succ_cons, List.take_nil, List.append_nil, List.nil_append, List.cons_append, List.all_cons, List.all_nil, true_and, and_true, Bool.not_true, Bool.not_false, Bool.true_and, Bool.and_true, Bool.false_and, Bool.and_false, Bool.true_or, Bool.or_true, Bool.false_or, Bool.or_false, decide_true, decide_false, beq_self_eq_true, if_true, if_false, Nat.reduceBEq, Nat.reduceLT, Nat.reduceLeDiff, Nat.reduceAdd, Nat.reduceMul, Nat.reduceEqDiff, Int.reduceEq, Int.reduceLT, Int.reduceLE, eq_self, Int.reduceNeg, Option.isSome_some, h6, h5, h0, h1, h4, hd]
    have hy' : y = Hh := by omega
    subst hy'
    have hsn := s.nxt
    have hsl := s.lo
    have hc : y * W = W * y := Nat.mul_comm _ _
    rw [hc] at ho he
    refine (rooted_ok H' (by omega) v _ (ho.reads (nodesOf_len _ _) (by rw [nodesOf_len]; omega) he)).mono ?_
    rintro v2 H2 ⟨s2, a, b, rfl, ha, hb⟩
    have g2 := s2.keeps (by omega) (s.keeps (by omega) g1)
    have l2 := s2.lo
    have n2 := s2.nxt
    simp (config := { maxSteps := 1000000 }) (disch := omega) only [↓sh, ↓reduceIte, sx, nbeq_ne, dle, relo_eq, wrap_i64, cond_true, cond_false, Option.bind_some, Option.bind_none, Option.map_some, Nat.add_zero, Nat.zero_add, List.getElem?_cons_zero, List.getElem?_cons_succ, List.getElem?_nil, List.getElem?_toArray, List.length_cons, List.length_nil, List.drop_zero, List.drop_succ_cons, List.drop_nil, List.take_zero, List.take_succ_cons, List.take_nil, List.append_nil, List.nil_append, List.cons_append, List.all_cons, List.all_nil, true_and, and_true, Bool.not_true, Bool.not_false, Bool.true_and, Bool.and_true, Bool.false_and, Bool.and_false, Bool.true_or, Bool.or_true, Bool.false_or, Bool.or_false, decide_true, decide_false, beq_self_eq_true, if_true, if_false, Nat.reduceBEq, Nat.reduceLT, Nat.reduceLeDiff, Nat.reduceAdd, Nat.reduceMul, Nat.reduceEqDiff, Int.reduceEq, Int.reduceLT, Int.reduceLE, eq_self, Int.reduceNeg, Option.isSome_some, h4, size_27, g2, ha.cell, hb.cell, agg_27, cut_eq]
    exact ⟨((s1.trans s).trans s2).setRow (Nat.le_refl _) _, a, b, rfl, graph_box g2 ha hb⟩
end Go.AM
