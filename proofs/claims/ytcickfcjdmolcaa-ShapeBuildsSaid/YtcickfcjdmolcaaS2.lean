/-
  Walks over letters of the functions that the law reaches.
-/
import Derived.Test.YtcickfcjdmolcaaS1
namespace Go.AM
attribute [local instance] fnMaps
open Go Go.Proofs
set_option maxRecDepth 100000
set_option maxHeartbeats 1000000
set_option linter.unusedSimpArgs false
theorem fn24 : E.fn.get 24 = some Try.f24 := by kernel_rfl
theorem fn23 : E.fn.get 23 = some Try.f23 := by kernel_rfl
theorem fn25 : E.fn.get 25 = some Try.f25 := by kernel_rfl
theorem fn8 : E.fn.get 8 = some Try.f8 := by kernel_rfl

def refv (k n : Int) : Val := if 0 ≤ k ∧ k < n then ⟨2, k⟩ else ⟨0, 0⟩
def valV (v : Val) : Value := .agg #[.int .i64 v.kind, .int .i64 v.x]

theorem ref_ok (H : Heap) (hlo : H.lo ≤ H.next) (k n : Int) : CallA E (fnv 24) [.int .i64 k, .int .i64 n] H fun v H' => v = valV (refv k n) ∧ Same H H' := by
  refine callA_fn (by kernel_rfl) fn24 rfl rfl ?_
  simp only [Try.f24]
  have s1 : Same H ((H.newRow [Value.int .i64 0, Value.int .i64 0])) := same_newRow _
  by_cases h1 : k < 0
  · have d1 : decide (k < 0) = true := by simpa using h1
    simp (config := { maxSteps := 1000000 }) (disch := omega) only [↓sh, ↓reduceIte, sx, nbeq_ne, dle, relo_eq, wrap_i64, cond_true, cond_false, Option.bind_some, Option.bind_none, Option.map_some, Nat.add_zero, Nat.zero_add, List.getElem?_cons_zero, List.getElem?_cons_succ, List.getElem?_nil, List.getElem?_toArray, List.length_cons, List.length_nil, List.drop_zero, List.drop_succ_cons, List.drop_nil, List.take_zero, List.take_succ_cons, List.take_nil, List.append_nil, List.nil_append, List.cons_append, List.all_cons, List.all_nil, true_and, and_true, Bool.not_true, Bool.not_false, Bool.true_and, Bool.and_true, Bool.false_and, Bool.and_false, Bool.true_or, Bool.or_true, Bool.false_or, Bool.or_false, decide_true, decide_false, beq_self_eq_true, if_true, if_false, Nat.reduceBEq, Nat.reduceLT, Nat.reduceLeDiff, Nat.reduceAdd, Nat.reduceMul, Nat.reduceEqDiff, Int.reduceEq, Int.reduceLT, Int.reduceLE, eq_self, Int.reduceNeg, Option.isSome_some, zero_34, d1, lit_34, size_34, agg_34, cut_eq]
    exact ⟨by simp only [valV, refv, if_neg (show ¬ (0 ≤ k ∧ k < n) by omega)], (same_newRow _).setRow (by omega) _⟩
  · have d1 : decide (k < 0) = false := by simpa using h1
    by_cases h2 : n ≤ k
    · have d2 : decide (n ≤ k) = true := by simpa using h2
      simp (config := { maxSteps := 1000000 }) (disch := omega) only [↓sh, ↓reduceIte, sx, nbeq_ne, dle, relo_eq, wrap_i64, cond_true, cond_false, Option.bind_some, Option.bind_none, Option.map_some, Nat.add_zero, Nat.zero_add, List.getElem?_cons_zero, List.getElem?_cons_succ, List.getElem?_nil, List.getElem?_toArray, List.length_cons, List.length_nil, List.drop_zero, List.drop_succ_cons, List.drop_nil, List.take_zero, List.take_succ_cons, List.take_nil, List.append_nil, List.nil_append, List.cons_append, List.all_cons, List.all_nil, true_and, and_true, Bool.not_true, Bool.not_false, Bool.true_and, Bool.and_true, Bool.false_and, Bool.and_false, Bool.true_or, Bool.or_true, Bool.false_or, Bool.or_false, decide_true, decide_false, beq_self_eq_true, if_true, if_false, Nat.reduceBEq, Nat.reduceLT, Nat.reduceLeDiff, Nat.reduceAdd, Nat.reduceMul, Nat.reduceEqDiff, Int.reduceEq, Int.reduceLT, Int.reduceLE, eq_self, Int.reduceNeg, Option.isSome_some, zero_34, d1, d2, lit_34, size_34, agg_34, cut_eq]
      exact ⟨by simp only [valV, refv, if_neg (show ¬ (0 ≤ k ∧ k < n) by omega)], (same_newRow _).setRow (by omega) _⟩
    · have d2 : decide (n ≤ k) = false := by simpa using h2
      simp (config := { maxSteps := 1000000 }) (disch := omega) only [↓sh, ↓reduceIte, sx, nbeq_ne, dle, relo_eq, wrap_i64, cond_true, cond_false, Option.bind_some, Option.bind_none, Option.map_some, Nat.add_zero, Nat.zero_add, List.getElem?_cons_zero, List.getElem?_cons_succ, List.getElem?_nil, List.getElem?_toArray, List.length_cons, List.length_nil, List.drop_zero, List.drop_succ_cons, List.drop_nil, List.take_zero, List.take_succ_cons, List.take_nil, List.append_nil, List.nil_append, List.cons_append, List.all_cons, List.all_nil, true_and, and_true, Bool.not_true, Bool.not_false, Bool.true_and, Bool.and_true, Bool.false_and, Bool.and_false, Bool.true_or, Bool.or_true, Bool.false_or, Bool.or_false, decide_true, decide_false, beq_self_eq_true, if_true, if_false, Nat.reduceBEq, Nat.reduceLT, Nat.reduceLeDiff, Nat.reduceAdd, Nat.reduceMul, Nat.reduceEqDiff, Int.reduceEq, Int.reduceLT, Int.reduceLE, eq_self, Int.reduceNeg, Option.isSome_some, zero_34, d1, d2, lit_34, size_34, agg_34, cut_eq]
      exact ⟨by simp only [valV, refv, if_pos (show (0 ≤ k ∧ k < n) by omega)], (same_newRow _).setRow (by omega) _⟩

theorem node_ok (H : Heap) (hlo : H.lo ≤ H.next) (kind i : Int) (hi : 0 ≤ i) (hi' : i < 1000000) (f : Value) (fs : List Val) (hf : SL RVal 2 H f fs) : CallA E (fnv 23) [.int .i64 kind, .int .i64 i, f] H fun v H' => Same H H' ∧ ∃ w, v = .agg #[.int .i64 kind, f, w] ∧ isCell w = true ∧ RNode H' [.int .i64 kind, f, w] ⟨kind, fs, [i]⟩ := by
  refine callA_fn (by kernel_rfl) fn23 rfl rfl ?_
  simp only [Try.f23]
  simp (config := { maxSteps := 1000000 }) (disch := omega) only [↓sh, ↓reduceIte, sx, nbeq_ne, dle, relo_eq, wrap_i64, cond_true, cond_false, Option.bind_some, Option.bind_none, Option.map_some, Nat.add_zero, Nat.zero_add, List.getElem?_cons_zero, List.getElem?_cons_succ, List.getElem?_nil, List.getElem?_toArray, List.length_cons, List.length_nil, List.drop_zero, List.drop_succ_cons, List.drop_nil, List.take_zero, List.take_succ_cons, List.take_nil, List.append_nil, List.nil_append, List.cons_append, List.all_cons, List.all_nil, true_and, and_true, Bool.not_true, Bool.not_false, Bool.true_and, Bool.and_true, Bool.false_and, Bool.and_false, Bool.true_or, Bool.or_true, Bool.false_or, Bool.or_false, decide_true, decide_false, beq_self_eq_true, if_true, if_false, Nat.reduceBEq, Nat.reduceLT, Nat.reduceLeDiff, Nat.reduceAdd, Nat.reduceMul, Nat.reduceEqDiff, Int.reduceEq, Int.reduceLT, Int.reduceLE, eq_self, Int.reduceNeg, Option.isSome_some, zero_46, lit_46, size_46, agg_46, cut_eq, conv_3_40, bs_44, ble_dec, hf.cell, hf.cells, wrap_u64, repeat_succ, repeat_zero]
  have s := ((same_newRow (H := H) [Value.int .i64 0, Value.slice none 0 0, Value.slice none 0 0]).newRow [Value.int .u64 i]).setRow (Nat.le_refl _) [Value.int .i64 kind, f, Value.slice (some ⟨H.next + 1, 0, none⟩) 1 1]
  refine ⟨s, _, rfl, rfl, _, _, rfl, hf.mono RVal.mono s, ?_⟩
  exact SL.alone (l := [i]) (cells := [Value.int .u64 i]) (Elems.one rfl rfl) (by simp (disch := omega) only [setRow_get, newRow_get, newRow_next, setRow_next, newRow_lo, setRow_lo, newRow_grps, setRow_grps, newRow_relo, setRow_relo, relo_objs, relo_next, relo_lo, nbeq_ne, cond_false, cond_true, beq_self_eq_true]; omega) (by simp (disch := omega) only [setRow_get, newRow_get, newRow_next, setRow_next, newRow_lo, setRow_lo, newRow_grps, setRow_grps, newRow_relo, setRow_relo, relo_objs, relo_next, relo_lo, nbeq_ne, cond_false, cond_true, beq_self_eq_true]) (by simp) (by simp)

def mkGraph (l : List Node) : Graph := if l = [] then ⟨[], []⟩ else ⟨l, [⟨2, 0⟩]⟩

theorem rooted_ok (H : Heap) (hlo : H.lo ≤ H.next) (v : Value) (l : List Node) (hv : SL RNode 3 H v l) : CallA E (fnv 25) [v] H fun v' H' => Same H H' ∧ GraphV H' v' (mkGraph l) := by
  refine callA_fn (by kernel_rfl) fn25 rfl rfl ?_
  simp only [Try.f25]
  have hv' := hv
  obtain ⟨a, c, rfl, ⟨_, hm⟩, _⟩ := hv
  by_cases h0 : l = []
  · have d : decide ((l.length : Int) = 0) = true := by simp [h0]
    simp (config := { maxSteps := 1000000 }) (disch := omega) only [↓sh, ↓reduceIte, sx, nbeq_ne, dle, relo_eq, wrap_i64, cond_true, cond_false, Option.bind_some, Option.bind_none, Option.map_some, Nat.add_zero, Nat.zero_add, List.getElem?_cons_zero, List.getElem?_cons_succ, List.getElem?_nil, List.getElem?_toArray, List.length_cons, List.length_nil, List.drop_zero, List.drop_succ_cons, List.drop_nil, List.take_zero, List.take_succ_cons, List.take_nil, List.append_nil, List.nil_append, List.cons_append, List.all_cons, List.all_nil, true_and, and_true, Bool.not_true, Bool.not_false, Bool.true_and, Bool.and_true, Bool.false_and, Bool.and_false, Bool.true_or, Bool.or_true, Bool.false_or, Bool.or_false, decide_true, decide_false, beq_self_eq_true, if_true, if_false, Nat.reduceBEq, Nat.reduceLT, Nat.reduceLeDiff, Nat.reduceAdd, Nat.reduceMul, Nat.reduceEqDiff, Int.reduceEq, Int.reduceLT, Int.reduceLE, eq_self, Int.reduceNeg, Option.isSome_some, zero_27, lit_27, size_27, agg_27, cut_eq, len_24, d]
    refine ⟨(same_newRow _).setRow (by omega) _, _, _, rfl, ?_⟩
    simp only [mkGraph, if_pos h0]
    exact ⟨SL.nil _ _ _, SL.nil _ _ _⟩
  · have d : decide ((l.length : Int) = 0) = false := by simp [h0]
    simp (config := { maxSteps := 1000000 }) (disch := omega) only [↓sh, ↓reduceIte, sx, nbeq_ne, dle, relo_eq, wrap_i64, cond_true, cond_false, Option.bind_some, Option.bind_none, Option.map_some, Nat.add_zero, Nat.zero_add, List.getElem?_cons_zero, List.getElem?_cons_succ, List.getElem?_nil, List.getElem?_toArray, List.length_cons, List.length_nil, List.drop_zero, List.drop_succ_cons, List.drop_nil, List.take_zero, List.take_succ_cons, List.take_nil, List.append_nil, List.nil_append, List.cons_append, List.all_cons, List.all_nil, true_and, and_true, Bool.not_true, Bool.not_false, Bool.true_and, Bool.and_true, Bool.false_and, Bool.and_false, Bool.true_or, Bool.or_true, Bool.false_or, Bool.or_false, decide_true, decide_false, beq_self_eq_true, if_true, if_false, Nat.reduceBEq, Nat.reduceLT, Nat.reduceLeDiff, Nat.reduceAdd, Nat.reduceMul, Nat.reduceEqDiff, Int.reduceEq, Int.reduceLT, Int.reduceLE, eq_self, Int.reduceNeg, Option.isSome_some, zero_27, lit_27, lit_34, size_27, agg_27, cut_eq, len_24, d, bs_25, ble_dec, repeat_succ, repeat_zero]
    have s := ((same_newRow (H := H) [Value.slice none 0 0, Value.slice none 0 0]).newRow [Value.int .i64 2, Value.int .i64 0]).setRow (Nat.le_refl _) [Value.slice a l.length c, Value.slice (some ⟨H.next + 1, 0, none⟩) 1 1]
    refine ⟨s, _, _, rfl, ?_⟩
    simp only [mkGraph, if_neg h0]
    refine ⟨hv'.mono RNode.mono s, ?_⟩
    exact SL.alone (l := [(⟨2, 0⟩ : Val)]) (cells := [Value.int .i64 2, Value.int .i64 0]) (Elems.one rfl rfl) (by simp (disch := omega) only [setRow_get, newRow_get, newRow_next, setRow_next, newRow_lo, setRow_lo, newRow_grps, setRow_grps, newRow_relo, setRow_relo, relo_objs, relo_next, relo_lo, nbeq_ne, cond_false, cond_true, beq_self_eq_true]; omega) (by simp (disch := omega) only [setRow_get, newRow_get, newRow_next, setRow_next, newRow_lo, setRow_lo, newRow_grps, setRow_grps, newRow_relo, setRow_relo, relo_objs, relo_next, relo_lo, nbeq_ne, cond_false, cond_true, beq_self_eq_true]) (by simp) (by simp)

/-- a list's nodes, or a ring's -/
def rowNode (n : Int) (ring : Bool) (i : Nat) : Node := if ring then ⟨2, [refv ((i + 1 : Int).tmod n) n], [(i : Int)]⟩ else ⟨1, [refv (i + 1) n], [(i : Int)]⟩
def rowNodes (n : Int) (ring : Bool) (k : Nat) : List Node := (List.range k).map (rowNode n ring)
theorem rowNodes_succ (n : Int) (ring : Bool) (k : Nat) : rowNodes n ring (k + 1) = rowNodes n ring k ++ [rowNode n ring k] := by simp [rowNodes, List.range_succ]
theorem rowNodes_len (n : Int) (ring : Bool) (k : Nat) : (rowNodes n ring k).length = k := by simp [rowNodes]

theorem row_ok (H : Heap) (hlo : H.lo ≤ H.next) (n : Int) (ring : Bool) (hn : n ≤ 4096) : CallA E (fnv 8) [.int .i64 n, .bool ring] H fun v' H' => Same H H' ∧ GraphV H' v' (mkGraph (rowNodes n ring n.toNat)) := by
  refine callA_fn (by kernel_rfl) fn8 rfl rfl ?_
  simp only [Try.f8]
  simp (config := { maxSteps := 1000000 }) (disch := omega) only [↓sh, ↓reduceIte, sx, nbeq_ne, dle, relo_eq, wrap_i64, cond_true, cond_false, Option.bind_some, Option.bind_none, Option.map_some, Nat.add_zero, Nat.zero_add, List.getElem?_cons_zero, List.getElem?_cons_succ, List.getElem?_nil, List.getElem?_toArray, List.length_cons, List.length_nil, List.drop_zero, List.drop_succ_cons, List.drop_nil, List.take_zero, List.take_succ_cons, List.take_nil, List.append_nil, List.nil_append, List.cons_append, List.all_cons, List.all_nil, true_and, and_true, Bool.not_true, Bool.not_false, Bool.true_and, Bool.and_true, Bool.false_and, Bool.and_false, Bool.true_or, Bool.or_true, Bool.false_or, Bool.or_false, decide_true, decide_false, beq_self_eq_true, if_true, if_false, Nat.reduceBEq, Nat.reduceLT, Nat.reduceLeDiff, Nat.reduceAdd, Nat.reduceMul, Nat.reduceEqDiff, Int.reduceEq, Int.reduceLT, Int.reduceLE, eq_self, Int.reduceNeg, Option.isSome_some, zero_27]
  refine named (H.newRow [Value.slice none 0 0, Value.slice none 0 0]) (fun H1 e1 => ?_)
  have n1 : H1.next = H.next + 1 := by rw [e1]; simp (disch := omega) only [setRow_get, newRow_get, newRow_next, setRow_next, newRow_lo, setRow_lo, newRow_grps, setRow_grps, newRow_relo, setRow_relo, relo_objs, relo_next, relo_lo, nbeq_ne, cond_false, cond_true, beq_self_eq_true]
  have l1 : H1.lo = H.lo := by rw [e1]; simp (disch := omega) only [setRow_get, newRow_get, newRow_next, setRow_next, newRow_lo, setRow_lo, newRow_grps, setRow_grps, newRow_relo, setRow_relo, relo_objs, relo_next, relo_lo, nbeq_ne, cond_false, cond_true, beq_self_eq_true]
  have g1 : H1.objs.get H.next = some (.row [Value.slice none 0 0, Value.slice none 0 0] none true) := by rw [e1]; simp (disch := omega) only [setRow_get, newRow_get, newRow_next, setRow_next, newRow_lo, setRow_lo, newRow_grps, setRow_grps, newRow_relo, setRow_relo, relo_objs, relo_next, relo_lo, nbeq_ne, cond_false, cond_true, beq_self_eq_true]
  have s1 : Same H H1 := by rw [e1]; exact same_newRow _
  rw [← e1]
  refine wp_loop (by kernel_rfl) (fun m T H' => ∃ (i : Nat) (v : Value) (cs : List Value), m = n.toNat - i ∧ i ≤ n.toNat ∧ T.get 6 = some (.int .i64 i) ∧ T.get 5 = some v ∧ T.get 0 = some (.int .i64 n) ∧ T.get 1 = some (.bool ring) ∧ T.get 4 = some (ptr H.next 0) ∧ Same H1 H' ∧ Own H1.next 3 H' v i cs ∧ Elems RNode 3 H' cs (rowNodes n ring i)) n.toNat ?_ ?_
  · exact ⟨0, _, [], by omega, by omega, rfl, rfl, rfl, rfl, rfl, Same.refl _, Own.nil _ _ _, Elems.nil _ _ _⟩
  · rintro m T H' ⟨i, v, cs, rfl, hi, h6, h5, h0, h1, h4, s, ho, he⟩
    have d0 : decide (n ≤ 4096) = true := by simpa using hn
    have hsn := s.nxt
    have hsl := s.lo
    by_cases hlt : i < n.toNat
    · have hd : decide ((i : Int) < n) = true := by simp; omega
      have key : ∀ (kind k : Int) (T : Tr Value) (K : Value → Heap → Prop), True := fun _ _ _ _ => trivial
      cases ring with
      | true =>
        have hw1 := Int.tmod_lt_of_pos (i + 1 : Int) (show 0 < n by omega)
        have hw2 := Int.tmod_nonneg n (show (0 : Int) ≤ i + 1 by omega)
        simp (config := { maxSteps := 1000000 }) (disch := omega) only [↓sh, ↓reduceIte, sx, nbeq_ne, dle, relo_eq, wrap_i64, cond_true, cond_false, Option.bind_some, Option.bind_none, Option.map_some, Nat.add_zero, Nat.zero_add, List.getElem?_cons_zero, List.getElem?_cons_succ, List.getElem?_nil, List.getElem?_toArray, List.length_cons, List.length_nil, List.drop_zero, List.drop_succ_cons, List.drop_nil, List.take_zero, List.take_succ_cons, List.take_nil, List.append_nil, List.nil_append, List.cons_append, List.all_cons, List.all_nil, true_and, and_true, Bool.not_true, Bool.not_false, Bool.true_and, Bool.and_true, Bool.false_and, Bool.and_false, Bool.true_or, Bool.or_true, Bool.false_or, Bool.or_false, decide_true, decide_false, beq_self_eq_true, if_true, if_false, Nat.reduceBEq, Nat.reduceLT, Nat.reduceLeDiff, Nat.reduceAdd, Nat.reduceMul, Nat.reduceEqDiff, Int.reduceEq, Int.reduceLT, Int.reduceLE, eq_self, Int.reduceNeg, Option.isSome_some, h6, h5, h0, h1, h4, d0, hd, ho.cell, int_rem]
        refine (ref_ok H' (by omega) _ n).mono ?_
        rintro v2 H2 ⟨rfl, s2⟩
        have n2 := s2.nxt
        have l2 := s2.lo
        simp (config := { maxSteps := 1000000 }) (disch := omega) only [↓sh, ↓reduceIte, sx, nbeq_ne, dle, relo_eq, wrap_i64, cond_true, cond_false, Option.bind_some, Option.bind_none, Option.map_some, Nat.add_zero, Nat.zero_add, List.getElem?_cons_zero, List.getElem?_cons_succ, List.getElem?_nil, List.getElem?_toArray, List.length_cons, List.length_nil, List.drop_zero, List.drop_succ_cons, List.drop_nil, List.take_zero, List.take_succ_cons, List.take_nil, List.append_nil, List.nil_append, List.cons_append, List.all_cons, List.all_nil, true_and, and_true, Bool.not_true, Bool.not_false, Bool.true_and, Bool.and_true, Bool.false_and, Bool.and_false, Bool.true_or, Bool.or_true, Bool.false_or, Bool.or_false, decide_true, decide_false, beq_self_eq_true, if_true, if_false, Nat.reduceBEq, Nat.reduceLT, Nat.reduceLeDiff, Nat.reduceAdd, Nat.reduceMul, Nat.reduceEqDiff, Int.reduceEq, Int.reduceLT, Int.reduceLE, eq_self, Int.reduceNeg, Option.isSome_some, h6, h5, h0, h1, h4, valV, bs_25, ble_dec, repeat_succ, repeat_zero]
        have sa : Same H' (H2.newRow [Value.int .i64 (refv ((i + 1 : Int).tmod n) n).kind, Value.int .i64 (refv ((i + 1 : Int).tmod n) n).x]) := s2.trans (same_newRow _)
        refine (node_ok _ (by simp (disch := omega) only [setRow_get, newRow_get, newRow_next, setRow_next, newRow_lo, setRow_lo, newRow_grps, setRow_grps, newRow_relo, setRow_relo, relo_objs, relo_next, relo_lo, nbeq_ne, cond_false, cond_true, beq_self_eq_true]; omega) _ _ (by omega) (by omega) _ [refv ((i + 1 : Int).tmod n) n] (SL.alone (l := [refv ((i + 1 : Int).tmod n) n]) (Elems.one rfl rfl) (by simp (disch := omega) only [setRow_get, newRow_get, newRow_next, setRow_next, newRow_lo, setRow_lo, newRow_grps, setRow_grps, newRow_relo, setRow_relo, relo_objs, relo_next, relo_lo, nbeq_ne, cond_false, cond_true, beq_self_eq_true]; omega) (by simp (disch := omega) only [setRow_get, newRow_get, newRow_next, setRow_next, newRow_lo, setRow_lo, newRow_grps, setRow_grps, newRow_relo, setRow_relo, relo_objs, relo_next, relo_lo, nbeq_ne, cond_false, cond_true, beq_self_eq_true]) (by simp) (by simp))).mono ?_
        rintro v3 H3 ⟨s3, w, rfl, hwc, hnode⟩
        have n3 := s3.nxt
        have l3 := s3.lo
        simp only [newRow_next, newRow_lo] at n3 l3
        simp (config := { maxSteps := 1000000 }) (disch := omega) only [↓sh, ↓reduceIte, sx, nbeq_ne, dle, relo_eq, wrap_i64, cond_true, cond_false, Option.bind_some, Option.bind_none, Option.map_some, Nat.add_zero, Nat.zero_add, List.getElem?_cons_zero, List.getElem?_cons_succ, List.getElem?_nil, List.getElem?_toArray, List.length_cons, List.length_nil, List.drop_zero, List.drop_succ_cons, List.drop_nil, List.take_zero, List.take_succ_cons, List.take_nil, List.append_nil, List.nil_append, List.cons_append, List.all_cons, List.all_nil, true_and, and_true, Bool.not_true, Bool.not_false, Bool.true_and, Bool.and_true, Bool.false_and, Bool.and_false, Bool.true_or, Bool.or_true, Bool.false_or, Bool.or_false, decide_true, decide_false, beq_self_eq_true, if_true, if_false, Nat.reduceBEq, Nat.reduceLT, Nat.reduceLeDiff, Nat.reduceAdd, Nat.reduceMul, Nat.reduceEqDiff, Int.reduceEq, Int.reduceLT, Int.reduceLE, eq_self, Int.reduceNeg, Option.isSome_some, h6, h5, h0, h1, h4, bs_24, ble_dec, repeat_succ, repeat_zero, app_24, appT_24, cut_eq]
        have sc := (sa.trans s3).newRow [Value.int .i64 2, Value.slice (some ⟨H2.next, 0, none⟩) 1 1, w]
        have scn := sc.nxt
        have scl := sc.lo
        obtain ⟨H4, hap, ho4, hg4, hx4⟩ := append_own (bytes := 56) (k := 1) (new := [Value.int .i64 2, Value.slice (some ⟨H2.next, 0, none⟩) 1 1, w]) (ho.same sc) (by omega) (by omega) (by omega) rfl (by simp only [List.all_cons, List.all_nil, isCell_int, isCell_slice, hwc, Bool.and_self]) (by simp [growOk, beq_dec, ble_dec]; omega)
        simp (config := { maxSteps := 1000000 }) (disch := omega) only [↓sh, ↓reduceIte, sx, nbeq_ne, dle, relo_eq, wrap_i64, cond_true, cond_false, Option.bind_some, Option.bind_none, Option.map_some, Nat.add_zero, Nat.zero_add, List.getElem?_cons_zero, List.getElem?_cons_succ, List.getElem?_nil, List.getElem?_toArray, List.length_cons, List.length_nil, List.drop_zero, List.drop_succ_cons, List.drop_nil, List.take_zero, List.take_succ_cons, List.take_nil, List.append_nil, List.nil_append, List.cons_append, List.all_cons, List.all_nil, true_and, and_true, Bool.not_true, Bool.not_false, Bool.true_and, Bool.and_true, Bool.false_and, Bool.and_false, Bool.true_or, Bool.or_true, Bool.false_or, Bool.or_false, decide_true, decide_false, beq_self_eq_true, if_true, if_false, Nat.reduceBEq, Nat.reduceLT, Nat.reduceLeDiff, Nat.reduceAdd, Nat.reduceMul, Nat.reduceEqDiff, Int.reduceEq, Int.reduceLT, Int.reduceLE, eq_self, Int.reduceNeg, Option.isSome_some, hap, h6]
        refine ⟨_, by omega, i + 1, _, _, rfl, by omega, by simp, rfl, h0, h1, h4, hg4.same (s.trans sc) (Nat.le_refl _), (by rw [newRow_next] at ho4; exact ho4), ?_⟩
        rw [rowNodes_succ]
        exact (he.ext RNode.mono (sc.ext.trans hg4.ext)).snoc rfl (RNode.mono _ _ _ _ ((same_newRow _).ext.trans hg4.ext) hnode)
      | false =>
        simp (config := { maxSteps := 1000000 }) (disch := omega) only [↓sh, ↓reduceIte, sx, nbeq_ne, dle, relo_eq, wrap_i64, cond_true, cond_false, Option.bind_some, Option.bind_none, Option.map_some, Nat.add_zero, Nat.zero_add, List.getElem?_cons_zero, List.getElem?_cons_succ, List.getElem?_nil, List.getElem?_toArray, List.length_cons, List.length_nil, List.drop_zero, List.drop_succ_cons, List.drop_nil, List.take_zero, List.take_succ_cons, List.take_nil, List.append_nil, List.nil_append, List.cons_append, List.all_cons, List.all_nil, true_and, and_true, Bool.not_true, Bool.not_false, Bool.true_and, Bool.and_true, Bool.false_and, Bool.and_false, Bool.true_or, Bool.or_true, Bool.false_or, Bool.or_false, decide_true, decide_false, beq_self_eq_true, if_true, if_false, Nat.reduceBEq, Nat.reduceLT, Nat.reduceLeDiff, Nat.reduceAdd, Nat.reduceMul, Nat.reduceEqDiff, Int.reduceEq, Int.reduceLT, Int.reduceLE, eq_self, Int.reduceNeg, Option.isSome_some, h6, h5, h0, h1, h4, d0, hd, ho.cell, int_rem]
        refine (ref_ok H' (by omega) _ n).mono ?_
        rintro v2 H2 ⟨rfl, s2⟩
        have n2 := s2.nxt
        have l2 := s2.lo
        simp (config := { maxSteps := 1000000 }) (disch := omega) only [↓sh, ↓reduceIte, sx, nbeq_ne, dle, relo_eq, wrap_i64, cond_true, cond_false, Option.bind_some, Option.bind_none, Option.map_some, Nat.add_zero, Nat.zero_add, List.getElem?_cons_zero, List.getElem?_cons_succ, List.getElem?_nil, List.getElem?_toArray, List.length_cons, List.length_nil, List.drop_zero, List.drop_succ_cons, List.drop_nil, List.take_zero, List.take_succ_cons, List.take_nil, List.append_nil, List.nil_append, List.cons_append, List.all_cons, List.all_nil, true_and, and_true, Bool.not_true, Bool.not_false, Bool.true_and, Bool.and_true, Bool.false_and, Bool.and_false, Bool.true_or, Bool.or_true, Bool.false_or, Bool.or_false, decide_true, decide_false, beq_self_eq_true, if_true, if_false, Nat.reduceBEq, Nat.reduceLT, Nat.reduceLeDiff, Nat.reduceAdd, Nat.reduceMul, Nat.reduceEqDiff, Int.reduceEq, Int.reduceLT, Int.reduceLE, eq_self, Int.reduceNeg, Option.isSome_some, h6, h5, h0, h1, h4, valV, bs_25, ble_dec, repeat_succ, repeat_zero]
        have sa : Same H' (H2.newRow [Value.int .i64 (refv (i + 1) n).kind, Value.int .i64 (refv (i + 1) n).x]) := s2.trans (same_newRow _)
        refine (node_ok _ (by simp (disch := omega) only [setRow_get, newRow_get, newRow_next, setRow_next, newRow_lo, setRow_lo, newRow_grps, setRow_grps, newRow_relo, setRow_relo, relo_objs, relo_next, relo_lo, nbeq_ne, cond_false, cond_true, beq_self_eq_true]; omega) _ _ (by omega) (by omega) _ [refv (i + 1) n] (SL.alone (l := [refv (i + 1) n]) (Elems.one rfl rfl) (by simp (disch := omega) only [setRow_get, newRow_get, newRow_next, setRow_next, newRow_lo, setRow_lo, newRow_grps, setRow_grps, newRow_relo, setRow_relo, relo_objs, relo_next, relo_lo, nbeq_ne, cond_false, cond_true, beq_self_eq_true]; omega) (by simp (disch := omega) only [setRow_get, newRow_get, newRow_next, setRow_next, newRow_lo, setRow_lo, newRow_grps, setRow_grps, newRow_relo, setRow_relo, relo_objs, relo_next, relo_lo, nbeq_ne, cond_false, cond_true, beq_self_eq_true]) (by simp) (by simp))).mono ?_
        rintro v3 H3 ⟨s3, w, rfl, hwc, hnode⟩
        have n3 := s3.nxt
        have l3 := s3.lo
        simp only [newRow_next, newRow_lo] at n3 l3
        simp (config := { maxSteps := 1000000 }) (disch := omega) only [↓sh, ↓reduceIte, sx, nbeq_ne, dle, relo_eq, wrap_i64, cond_true, cond_false, Option.bind_some, Option.bind_none, Option.map_some, Nat.add_zero, Nat.zero_add, List.getElem?_cons_zero, List.getElem?_cons_succ, List.getElem?_nil, List.getElem?_toArray, List.length_cons, List.length_nil, List.drop_zero, List.drop_succ_cons, List.drop_nil, List.take_zero, List.take_succ_cons, List.take_nil, List.append_nil, List.nil_append, List.cons_append, List.all_cons, List.all_nil, true_and, and_true, Bool.not_true, Bool.not_false, Bool.true_and, Bool.and_true, Bool.false_and, Bool.and_false, Bool.true_or, Bool.or_true, Bool.false_or, Bool.or_false, decide_true, decide_false, beq_self_eq_true, if_true, if_false, Nat.reduceBEq, Nat.reduceLT, Nat.reduceLeDiff, Nat.reduceAdd, Nat.reduceMul, Nat.reduceEqDiff, Int.reduceEq, Int.reduceLT, Int.reduceLE, eq_self, Int.reduceNeg, Option.isSome_some, h6, h5, h0, h1, h4, bs_24, ble_dec, repeat_succ, repeat_zero, app_24, appT_24, cut_eq]
        have sc := (sa.trans s3).newRow [Value.int .i64 1, Value.slice (some ⟨H2.next, 0, none⟩) 1 1, w]
        have scn := sc.nxt
        have scl := sc.lo
        obtain ⟨H4, hap, ho4, hg4, hx4⟩ := append_own (bytes := 56) (k := 1) (new := [Value.int .i64 1, Value.slice (some ⟨H2.next, 0, none⟩) 1 1, w]) (ho.same sc) (by omega) (by omega) (by omega) rfl (by simp only [List.all_cons, List.all_nil, isCell_int, isCell_slice, hwc, Bool.and_self]) (by simp [growOk, beq_dec, ble_dec]; omega)
        simp (config := { maxSteps := 1000000 }) (disch := omega) only [↓sh, ↓reduceIte, sx, nbeq_ne, dle, relo_eq, wrap_i64, cond_true, cond_false, Option.bind_some, Option.bind_none, Option.map_some, Nat.add_zero, Nat.zero_add, List.getElem?_cons_zero, List.getElem?_cons_succ, List.getElem?_nil, List.getElem?_toArray, List.length_cons, List.length_nil, List.drop_zero, List.drop_succ_cons, List.drop_nil, List.take_zero, List.take_succ_cons, List.take_nil, List.append_nil, List.nil_append, List.cons_append, List.all_cons, List.all_nil, true_and, and_true, Bool.not_true, Bool.not_false, Bool.true_and, Bool.and_true, Bool.false_and, Bool.and_false, Bool.true_or, Bool.or_true, Bool.false_or, Bool.or_false, decide_true, decide_false, beq_self_eq_true, if_true, if_false, Nat.reduceBEq, Nat.reduceLT, Nat.reduceLeDiff, Nat.reduceAdd, Nat.reduceMul, Nat.reduceEqDiff, Int.reduceEq, Int.reduceLT, Int.reduceLE, eq_self, Int.reduceNeg, Option.isSome_some, hap, h6]
        refine ⟨_, by omega, i + 1, _, _, rfl, by omega, by simp, rfl, h0, h1, h4, hg4.same (s.trans sc) (Nat.le_refl _), (by rw [newRow_next] at ho4; exact ho4), ?_⟩
        rw [rowNodes_succ]
        exact (he.ext RNode.mono (sc.ext.trans hg4.ext)).snoc rfl (RNode.mono _ _ _ _ ((same_newRow _).ext.trans hg4.ext) hnode)
    · have hd : decide ((i : Int) < n) = false := by simp; omega
      simp (config := { maxSteps := 1000000 }) (disch := omega) only [↓sh, ↓reduceIte, sx, nbeq_ne, dle, relo_eq, wrap_i64, cond_true, cond_false, Option.bind_some, Option.bind_none, Option.map_some, Nat.add_zero, Nat.zero_add, List.getElem?_cons_zero, List.getElem?_cons_succ, List.getElem?_nil, List.getElem?_toArray, List.length_cons, List.length_nil, List.drop_zero, List.drop_succ_cons, List.drop_nil, List.take_zero, List.take_succ_cons, List.take_nil, List.append_nil, List.nil_append, List.cons_append, List.all_cons, List.all_nil, true_and, and_true, Bool.not_true, Bool.not_false, Bool.true_and, Bool.and_true, Bool.false_and, Bool.and_false, Bool.true_or, Bool.or_true, Bool.false_or, Bool.or_false, decide_true, decide_false, beq_self_eq_true, if_true, if_false, Nat.reduceBEq, Nat.reduceLT, Nat.reduceLeDiff, Nat.reduceAdd, Nat.reduceMul, Nat.reduceEqDiff, Int.reduceEq, Int.reduceLT, Int.reduceLE, eq_self, Int.reduceNeg, Option.isSome_some, h6, h5, h0, h1, h4, d0, hd, ho.cell]
      have hi' : i = n.toNat := by omega
      subst hi'
      refine (rooted_ok H' (by omega) v _ (ho.reads (rowNodes_len n ring _) (by rw [rowNodes_len]; omega) he)).mono ?_
      rintro v2 H2 ⟨s2, a, b, rfl, ha, hb⟩
      have g2 := s2.keeps (by omega) (s.keeps (by omega) g1)
      have l2 := s2.lo
      have n2 := s2.nxt
      simp (config := { maxSteps := 1000000 }) (disch := omega) only [↓sh, ↓reduceIte, sx, nbeq_ne, dle, relo_eq, wrap_i64, cond_true, cond_false, Option.bind_some, Option.bind_none, Option.map_some, Nat.add_zero, Nat.zero_add, List.getElem?_cons_zero, List.getElem?_cons_succ, List.getElem?_nil, List.getElem?_toArray, List.length_cons, List.length_nil, List.drop_zero, List.drop_succ_cons, List.drop_nil, List.take_zero, List.take_succ_cons, List.take_nil, List.append_nil, List.nil_append, List.cons_append, List.all_cons, List.all_nil, true_and, and_true, Bool.not_true, Bool.not_false, Bool.true_and, Bool.and_true, Bool.false_and, Bool.and_false, Bool.true_or, Bool.or_true, Bool.false_or, Bool.or_false, decide_true, decide_false, beq_self_eq_true, if_true, if_false, Nat.reduceBEq, Nat.reduceLT, Nat.reduceLeDiff, Nat.reduceAdd, Nat.reduceMul, Nat.reduceEqDiff, Int.reduceEq, Int.reduceLT, Int.reduceLE, eq_self, Int.reduceNeg, Option.isSome_some, h4, size_27, g2, ha.cell, hb.cell, agg_27, cut_eq]
      exact ⟨((s1.trans s).trans s2).setRow (Nat.le_refl _) _, a, b, rfl, graph_box g2 ha hb⟩
end Go.AM
