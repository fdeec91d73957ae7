/-
  Walks over letters of the functions that the law reaches.
-/
import Derived.Test.YtcickfcjdmolcaaT1
namespace Go.AM
attribute [local instance] fnMaps
open Go Go.Proofs
set_option maxRecDepth 100000
set_option maxHeartbeats 1000000
set_option linter.unusedSimpArgs false
theorem fn32 : E.fn.get 32 = some Try.f32 := by kernel_rfl
theorem fn33 : E.fn.get 33 = some Try.f33 := by kernel_rfl

/-- a value that is sound in a graph of n nodes -/
def snd (n : Nat) (v : Val) : Bool := if may v then (if v.kind = 2 then decide (v.x < n) else true) else false

theorem gsound_ok (H : Heap) (hlo : H.lo ≤ H.next) (va : Value) (g : Graph) (ha : GraphV H va g) (v : Val) : CallA E (fnv 32) [va, valV v] H fun r H' => r = .bool (snd g.nodes.length v) ∧ Same H H' := by
  obtain ⟨na, ra, rfl, ⟨a, ca, rfl, ⟨_, hm⟩, hna⟩, ⟨b, cb, rfl, _, hra⟩⟩ := ha
  refine callA_fn (by kernel_rfl) fn32 rfl rfl ?_
  simp only [Try.f32, valV]
  simp (config := { maxSteps := 1000000 }) (disch := omega) only [↓sh, ↓reduceIte, sx, nbeq_ne, dle, relo_eq, wrap_i64, cond_true, cond_false, Option.bind_some, Option.bind_none, Option.map_some, Nat.add_zero, Nat.zero_add, List.getElem?_cons_zero, List.getElem?_cons_succ, List.getElem?_nil, List.getElem?_toArray, List.length_cons, List.length_nil, List.drop_zero, List.drop_succ_cons, List.drop_nil, List.take_zero, List.take_succ_cons, List.take_nil, List.append_nil, List.nil_append, List.cons_append, List.all_cons, List.all_nil, true_and, and_true, Bool.not_true, Bool.not_false, Bool.true_and, Bool.and_true, Bool.false_and, Bool.and_false, Bool.true_or, Bool.or_true, Bool.false_or, Bool.or_false, decide_true, decide_false, beq_self_eq_true, if_true, if_false, Nat.reduceBEq, Nat.reduceLT, Nat.reduceLeDiff, Nat.reduceAdd, Nat.reduceMul, Nat.reduceEqDiff, Int.reduceEq, Int.reduceLT, Int.reduceLE, eq_self, Int.reduceNeg, Option.isSome_some, cut_eq, agg_34, fa_34_0, fa_34_1, agg_3, agg_2, size_34, len_24, len_25, fa_27_0, fa_27_1, agg_24, agg_25, size_27, agg_27]
  refine named ((H.newRow [Value.slice a g.nodes.length ca, Value.slice b g.roots.length cb]).newRow [Value.int .i64 v.kind, Value.int .i64 v.x]) (fun H2 e2 => ?_)
  have n2 : H2.next = H.next + 1 + 1 := by simp only [e2, newRow_next]
  have l2 : H2.lo = H.lo := by rw [e2]; simp (disch := omega) only [setRow_get, newRow_get, newRow_next, setRow_next, newRow_lo, setRow_lo, newRow_grps, setRow_grps, newRow_relo, setRow_relo, relo_objs, relo_next, relo_lo, nbeq_ne, cond_false, cond_true, beq_self_eq_true]
  have b1 : H2.objs.get H.next = some (.row [Value.slice a g.nodes.length ca, Value.slice b g.roots.length cb] none true) := by simp (disch := omega) only [e2, newRow_get, newRow_next, nbeq_ne, cond_false, beq_self_eq_true, cond_true]
  have b2 : H2.objs.get (H.next + 1) = some (.row [Value.int .i64 v.kind, Value.int .i64 v.x] none true) := by simp (disch := omega) only [e2, newRow_get, newRow_next, nbeq_ne, cond_false, beq_self_eq_true, cond_true]
  have s2 : Same H H2 := by rw [e2]; exact (same_newRow _).newRow _
  rw [← e2]
  refine (enc_ok H2 (by omega) v).mono ?_
  rintro r H3 ⟨⟨w, rfl⟩, s3⟩
  have c1 := s3.keeps (by omega) b1
  have c2 := s3.keeps (by omega) b2
  by_cases hm : may v = true
  · have d1 : (if may v then (0 : Int) else 1) = 0 := by rw [hm]; rfl
    rw [d1]
    by_cases k2 : v.kind = 2
    · have d2 : decide (v.kind = 2) = true := by simpa using k2
      simp (config := { maxSteps := 1000000 }) (disch := omega) only [↓sh, ↓reduceIte, sx, nbeq_ne, dle, relo_eq, wrap_i64, cond_true, cond_false, Option.bind_some, Option.bind_none, Option.map_some, Nat.add_zero, Nat.zero_add, List.getElem?_cons_zero, List.getElem?_cons_succ, List.getElem?_nil, List.getElem?_toArray, List.length_cons, List.length_nil, List.drop_zero, List.drop_succ_cons, List.drop_nil, List.take_zero, List.take_succ_cons, List.take_nil, List.append_nil, List.nil_append, List.cons_append, List.all_cons, List.all_nil, true_and, and_true, Bool.not_true, Bool.not_false, Bool.true_and, Bool.and_true, Bool.false_and, Bool.and_false, Bool.true_or, Bool.or_true, Bool.false_or, Bool.or_false, decide_true, decide_false, beq_self_eq_true, if_true, if_false, Nat.reduceBEq, Nat.reduceLT, Nat.reduceLeDiff, Nat.reduceAdd, Nat.reduceMul, Nat.reduceEqDiff, Int.reduceEq, Int.reduceLT, Int.reduceLE, eq_self, Int.reduceNeg, Option.isSome_some, cut_eq, agg_34, fa_34_0, fa_34_1, agg_3, agg_2, size_34, len_24, len_25, fa_27_0, fa_27_1, agg_24, agg_25, size_27, agg_27, c1, c2, d2]
      exact ⟨by simp only [snd, if_pos hm, if_pos k2], s2.trans s3⟩
    · have d2 : decide (v.kind = 2) = false := by simpa using k2
      simp (config := { maxSteps := 1000000 }) (disch := omega) only [↓sh, ↓reduceIte, sx, nbeq_ne, dle, relo_eq, wrap_i64, cond_true, cond_false, Option.bind_some, Option.bind_none, Option.map_some, Nat.add_zero, Nat.zero_add, List.getElem?_cons_zero, List.getElem?_cons_succ, List.getElem?_nil, List.getElem?_toArray, List.length_cons, List.length_nil, List.drop_zero, List.drop_succ_cons, List.drop_nil, List.take_zero, List.take_succ_cons, List.take_nil, List.append_nil, List.nil_append, List.cons_append, List.all_cons, List.all_nil, true_and, and_true, Bool.not_true, Bool.not_false, Bool.true_and, Bool.and_true, Bool.false_and, Bool.and_false, Bool.true_or, Bool.or_true, Bool.false_or, Bool.or_false, decide_true, decide_false, beq_self_eq_true, if_true, if_false, Nat.reduceBEq, Nat.reduceLT, Nat.reduceLeDiff, Nat.reduceAdd, Nat.reduceMul, Nat.reduceEqDiff, Int.reduceEq, Int.reduceLT, Int.reduceLE, eq_self, Int.reduceNeg, Option.isSome_some, cut_eq, agg_34, fa_34_0, fa_34_1, agg_3, agg_2, size_34, len_24, len_25, fa_27_0, fa_27_1, agg_24, agg_25, size_27, agg_27, c1, c2, d2]
      exact ⟨by simp only [snd, if_pos hm, if_neg k2], s2.trans s3⟩
  · have d1 : (if may v then (0 : Int) else 1) = 1 := by rw [if_neg hm]
    rw [d1]
    simp (config := { maxSteps := 1000000 }) (disch := omega) only [↓sh, ↓reduceIte, sx, nbeq_ne, dle, relo_eq, wrap_i64, cond_true, cond_false, Option.bind_some, Option.bind_none, Option.map_some, Nat.add_zero, Nat.zero_add, List.getElem?_cons_zero, List.getElem?_cons_succ, List.getElem?_nil, List.getElem?_toArray, List.length_cons, List.length_nil, List.drop_zero, List.drop_succ_cons, List.drop_nil, List.take_zero, List.take_succ_cons, List.take_nil, List.append_nil, List.nil_append, List.cons_append, List.all_cons, List.all_nil, true_and, and_true, Bool.not_true, Bool.not_false, Bool.true_and, Bool.and_true, Bool.false_and, Bool.and_false, Bool.true_or, Bool.or_true, Bool.false_or, Bool.or_false, decide_true, decide_false, beq_self_eq_true, if_true, if_false, Nat.reduceBEq, Nat.reduceLT, Nat.reduceLeDiff, Nat.reduceAdd, Nat.reduceMul, Nat.reduceEqDiff, Int.reduceEq, Int.reduceLT, Int.reduceLE, eq_self, Int.reduceNeg, Option.isSome_some, cut_eq, agg_34, fa_34_0, fa_34_1, agg_3, agg_2, size_34, len_24, len_25, fa_27_0, fa_27_1, agg_24, agg_25, size_27, agg_27, c1, c2]
    exact ⟨by simp only [snd, if_neg hm], s2.trans s3⟩
end Go.AM
