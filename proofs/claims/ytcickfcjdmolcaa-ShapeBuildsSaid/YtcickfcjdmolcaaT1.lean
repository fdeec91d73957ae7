/-
  Walks over letters of the functions that the law reaches.
-/
import Derived.Test.YtcickfcjdmolcaaS2
namespace Go.AM
attribute [local instance] fnMaps
open Go Go.Proofs
set_option maxRecDepth 100000
set_option maxHeartbeats 1000000
set_option linter.unusedSimpArgs false
theorem fn36 : E.fn.get 36 = some Try.f36 := by kernel_rfl
theorem fn35 : E.fn.get 35 = some Try.f35 := by kernel_rfl
theorem fn17 : E.fn.get 17 = some Try.f17 := by kernel_rfl

def orI (k : IntKind) (a b : Int) : Int := k.wrap ((BitVec.ofInt k.bits a ||| BitVec.ofInt k.bits b).toNat : Nat)
theorem int_or (k : IntKind) (a b : Int) : intOp .or k a b = some (.int k (orI k a b)) := intR_some ..
def shl2 (k : IntKind) (a : Int) : Int := k.wrap (a * 2 ^ (min (2 : Int).toNat k.bits))
theorem shift_2 (k : IntKind) (a : Int) : shiftOp .shl k a 2 = some (.int k (shl2 k a)) := shift_shl k a 2 (by decide)

/-- a value that may be written -/
def may (v : Val) : Bool := if v.kind = 0 then decide (v.x = 0) else if v.kind = 1 then (if -2305843009213693952 ≤ v.x then decide (v.x ≤ 2305843009213693951) else false) else if v.kind = 2 then (if 0 ≤ v.x then decide (v.x ≤ 1099511627776) else false) else false

theorem may_ok (H : Heap) (hlo : H.lo ≤ H.next) (v : Val) : CallA E (fnv 36) [valV v] H fun r H' => r = .bool (may v) ∧ Same H H' := by
  refine callA_fn (by kernel_rfl) fn36 rfl rfl ?_
  simp only [Try.f36, valV]
  have s1 : Same H (H.newRow [Value.int .i64 v.kind, Value.int .i64 v.x]) := same_newRow _
  by_cases k0 : v.kind = 0
  · have d0 : decide (v.kind = 0) = true := by simpa using k0
    simp (config := { maxSteps := 1000000 }) (disch := omega) only [↓sh, ↓reduceIte, sx, nbeq_ne, dle, relo_eq, wrap_i64, cond_true, cond_false, Option.bind_some, Option.bind_none, Option.map_some, Nat.add_zero, Nat.zero_add, List.getElem?_cons_zero, List.getElem?_cons_succ, List.getElem?_nil, List.getElem?_toArray, List.length_cons, List.length_nil, List.drop_zero, List.drop_succ_cons, List.drop_nil, List.take_zero, List.take_succ_cons, List.take_nil, List.append_nil, List.nil_append, List.cons_append, List.all_cons, List.all_nil, true_and, and_true, Bool.not_true, Bool.not_false, Bool.true_and, Bool.and_true, Bool.false_and, Bool.and_false, Bool.true_or, Bool.or_true, Bool.false_or, Bool.or_false, decide_true, decide_false, beq_self_eq_true, if_true, if_false, Nat.reduceBEq, Nat.reduceLT, Nat.reduceLeDiff, Nat.reduceAdd, Nat.reduceMul, Nat.reduceEqDiff, Int.reduceEq, Int.reduceLT, Int.reduceLE, eq_self, Int.reduceNeg, Option.isSome_some, agg_34, fa_34_0, fa_34_1, agg_3, agg_2, size_34, d0]
    exact ⟨by simp only [may, if_pos k0], s1⟩
  · have d0 : decide (v.kind = 0) = false := by simpa using k0
    by_cases k1 : v.kind = 1
    · have d1 : decide (v.kind = 1) = true := by simpa using k1
      by_cases h1 : -2305843009213693952 ≤ v.x
      · have e1 : decide (-2305843009213693952 ≤ v.x) = true := by simpa using h1
        simp (config := { maxSteps := 1000000 }) (disch := omega) only [↓sh, ↓reduceIte, sx, nbeq_ne, dle, relo_eq, wrap_i64, cond_true, cond_false, Option.bind_some, Option.bind_none, Option.map_some, Nat.add_zero, Nat.zero_add, List.getElem?_cons_zero, List.getElem?_cons_succ, List.getElem?_nil, List.getElem?_toArray, List.length_cons, List.length_nil, List.drop_zero, List.drop_succ_cons, List.drop_nil, List.take_zero, List.take_succ_cons, List.take_nil, List.append_nil, List.nil_append, List.cons_append, List.all_cons, List.all_nil, true_and, and_true, Bool.not_true, Bool.not_false, Bool.true_and, Bool.and_true, Bool.false_and, Bool.and_false, Bool.true_or, Bool.or_true, Bool.false_or, Bool.or_false, decide_true, decide_false, beq_self_eq_true, if_true, if_false, Nat.reduceBEq, Nat.reduceLT, Nat.reduceLeDiff, Nat.reduceAdd, Nat.reduceMul, Nat.reduceEqDiff, Int.reduceEq, Int.reduceLT, Int.reduceLE, eq_self, Int.reduceNeg, Option.isSome_some, agg_34, fa_34_0, fa_34_1, agg_3, agg_2, size_34, d0, d1, e1]
        exact ⟨by simp only [may, if_neg k0, if_pos k1, if_pos h1], s1⟩
      · have e1 : decide (-2305843009213693952 ≤ v.x) = false := by simpa using h1
        simp (config := { maxSteps := 1000000 }) (disch := omega) only [↓sh, ↓reduceIte, sx, nbeq_ne, dle, relo_eq, wrap_i64, cond_true, cond_false, Option.bind_some, Option.bind_none, Option.map_some, Nat.add_zero, Nat.zero_add, List.getElem?_cons_zero, List.getElem?_cons_succ, List.getElem?_nil, List.getElem?_toArray, List.length_cons, List.length_nil, List.drop_zero, List.drop_succ_cons, List.drop_nil, List.take_zero, List.take_succ_cons, List.take_nil, List.append_nil, List.nil_append, List.cons_append, List.all_cons, List.all_nil, true_and, and_true, Bool.not_true, Bool.not_false, Bool.true_and, Bool.and_true, Bool.false_and, Bool.and_false, Bool.true_or, Bool.or_true, Bool.false_or, Bool.or_false, decide_true, decide_false, beq_self_eq_true, if_true, if_false, Nat.reduceBEq, Nat.reduceLT, Nat.reduceLeDiff, Nat.reduceAdd, Nat.reduceMul, Nat.reduceEqDiff, Int.reduceEq, Int.reduceLT, Int.reduceLE, eq_self, Int.reduceNeg, Option.isSome_some, agg_34, fa_34_0, fa_34_1, agg_3, agg_2, size_34, d0, d1, e1]
        exact ⟨by simp only [may, if_neg k0, if_pos k1, if_neg h1], s1⟩
    · have d1 : decide (v.kind = 1) = false := by simpa using k1
      by_cases k2 : v.kind = 2
      · have d2 : decide (v.kind = 2) = true := by simpa using k2
        by_cases h1 : 0 ≤ v.x
        · have e1 : decide (0 ≤ v.x) = true := by simpa using h1
          simp (config := { maxSteps := 1000000 }) (disch := omega) only [↓sh, ↓reduceIte, sx, nbeq_ne, dle, relo_eq, wrap_i64, cond_true, cond_false, Option.bind_some, Option.bind_none, Option.map_some, Nat.add_zero, Nat.zero_add, List.getElem?_cons_zero, List.getElem?_cons_succ, List.getElem?_nil, List.getElem?_toArray, List.length_cons, List.length_nil, List.drop_zero, List.drop_succ_cons, List.drop_nil, List.take_zero, List.take_succ_cons, List.take_nil, List.append_nil, List.nil_append, List.cons_append, List.all_cons, List.all_nil, true_and, and_true, Bool.not_true, Bool.not_false, Bool.true_and, Bool.and_true, Bool.false_and, Bool.and_false, Bool.true_or, Bool.or_true, Bool.false_or, Bool.or_false, decide_true, decide_false, beq_self_eq_true, if_true, if_false, Nat.reduceBEq, Nat.reduceLT, Nat.reduceLeDiff, Nat.reduceAdd, Nat.reduceMul, Nat.reduceEqDiff, Int.reduceEq, Int.reduceLT, Int.reduceLE, eq_self, Int.reduceNeg, Option.isSome_some, agg_34, fa_34_0, fa_34_1, agg_3, agg_2, size_34, d0, d1, d2, e1]
          exact ⟨by simp only [may, if_neg k0, if_neg k1, if_pos k2, if_pos h1], s1⟩
        · have e1 : decide (0 ≤ v.x) = false := by simpa using h1
          simp (config := { maxSteps := 1000000 }) (disch := omega) only [↓sh, ↓reduceIte, sx, nbeq_ne, dle, relo_eq, wrap_i64, cond_true, cond_false, Option.bind_some, Option.bind_none, Option.map_some, Nat.add_zero, Nat.zero_add, List.getElem?_cons_zero, List.getElem?_cons_succ, List.getElem?_nil, List.getElem?_toArray, List.length_cons, List.length_nil, List.drop_zero, List.drop_succ_cons, List.drop_nil, List.take_zero, List.take_succ_cons, List.take_nil, List.append_nil, List.nil_append, List.cons_append, List.all_cons, List.all_nil, true_and, and_true, Bool.not_true, Bool.not_false, Bool.true_and, Bool.and_true, Bool.false_and, Bool.and_false, Bool.true_or, Bool.or_true, Bool.false_or, Bool.or_false, decide_true, decide_false, beq_self_eq_true, if_true, if_false, Nat.reduceBEq, Nat.reduceLT, Nat.reduceLeDiff, Nat.reduceAdd, Nat.reduceMul, Nat.reduceEqDiff, Int.reduceEq, Int.reduceLT, Int.reduceLE, eq_self, Int.reduceNeg, Option.isSome_some, agg_34, fa_34_0, fa_34_1, agg_3, agg_2, size_34, d0, d1, d2, e1]
          exact ⟨by simp only [may, if_neg k0, if_neg k1, if_pos k2, if_neg h1], s1⟩
      · have d2 : decide (v.kind = 2) = false := by simpa using k2
        simp (config := { maxSteps := 1000000 }) (disch := omega) only [↓sh, ↓reduceIte, sx, nbeq_ne, dle, relo_eq, wrap_i64, cond_true, cond_false, Option.bind_some, Option.bind_none, Option.map_some, Nat.add_zero, Nat.zero_add, List.getElem?_cons_zero, List.getElem?_cons_succ, List.getElem?_nil, List.getElem?_toArray, List.length_cons, List.length_nil, List.drop_zero, List.drop_succ_cons, List.drop_nil, List.take_zero, List.take_succ_cons, List.take_nil, List.append_nil, List.nil_append, List.cons_append, List.all_cons, List.all_nil, true_and, and_true, Bool.not_true, Bool.not_false, Bool.true_and, Bool.and_true, Bool.false_and, Bool.and_false, Bool.true_or, Bool.or_true, Bool.false_or, Bool.or_false, decide_true, decide_false, beq_self_eq_true, if_true, if_false, Nat.reduceBEq, Nat.reduceLT, Nat.reduceLeDiff, Nat.reduceAdd, Nat.reduceMul, Nat.reduceEqDiff, Int.reduceEq, Int.reduceLT, Int.reduceLE, eq_self, Int.reduceNeg, Option.isSome_some, agg_34, fa_34_0, fa_34_1, agg_3, agg_2, size_34, d0, d1, d2]
        exact ⟨by simp only [may, if_neg k0, if_neg k1, if_neg k2], s1⟩
theorem slots_ok (H : Heap) (hlo : H.lo ≤ H.next) (va : Value) (g : Graph) (ha : GraphV H va g) : CallA E (fnv 17) [va] H fun r H' => r = .int .i64 (IntKind.i64.wrap ((g.nodes.length : Int) + (g.roots.length : Int))) ∧ Same H H' := by
  obtain ⟨na, ra, rfl, ⟨a, ca, rfl, ⟨_, hm⟩, hna⟩, ⟨b, cb, rfl, _, hra⟩⟩ := ha
  refine callA_fn (by kernel_rfl) fn17 rfl rfl ?_
  simp only [Try.f17]
  simp (config := { maxSteps := 1000000 }) (disch := omega) only [↓sh, ↓reduceIte, sx, nbeq_ne, dle, relo_eq, wrap_i64, cond_true, cond_false, Option.bind_some, Option.bind_none, Option.map_some, Nat.add_zero, Nat.zero_add, List.getElem?_cons_zero, List.getElem?_cons_succ, List.getElem?_nil, List.getElem?_toArray, List.length_cons, List.length_nil, List.drop_zero, List.drop_succ_cons, List.drop_nil, List.take_zero, List.take_succ_cons, List.take_nil, List.append_nil, List.nil_append, List.cons_append, List.all_cons, List.all_nil, true_and, and_true, Bool.not_true, Bool.not_false, Bool.true_and, Bool.and_true, Bool.false_and, Bool.and_false, Bool.true_or, Bool.or_true, Bool.false_or, Bool.or_false, decide_true, decide_false, beq_self_eq_true, if_true, if_false, Nat.reduceBEq, Nat.reduceLT, Nat.reduceLeDiff, Nat.reduceAdd, Nat.reduceMul, Nat.reduceEqDiff, Int.reduceEq, Int.reduceLT, Int.reduceLE, eq_self, Int.reduceNeg, Option.isSome_some, len_24, len_25, fa_27_0, fa_27_1, agg_24, agg_25, size_27]
  exact same_newRow _
theorem enc_ok (H : Heap) (hlo : H.lo ≤ H.next) (v : Val) : CallA E (fnv 35) [valV v] H fun r H' => (∃ w, r = .tuple #[.int .u64 w, .int .i64 (if may v then 0 else 1)]) ∧ Same H H' := by
  refine callA_fn (by kernel_rfl) fn35 rfl rfl ?_
  simp only [Try.f35, valV]
  have s1 : Same H (H.newRow [Value.int .i64 v.kind, Value.int .i64 v.x]) := same_newRow _
  by_cases k0 : v.kind = 0
  · have d0 : decide (v.kind = 0) = true := by simpa using k0
    by_cases h1 : v.x = 0
    · have e1 : decide (v.x = 0) = true := by simpa using h1
      have hm : may v = true := by simp only [may, if_pos k0, e1]
      simp (config := { maxSteps := 1000000 }) (disch := omega) only [↓sh, ↓reduceIte, sx, nbeq_ne, dle, relo_eq, wrap_i64, cond_true, cond_false, Option.bind_some, Option.bind_none, Option.map_some, Nat.add_zero, Nat.zero_add, List.getElem?_cons_zero, List.getElem?_cons_succ, List.getElem?_nil, List.getElem?_toArray, List.length_cons, List.length_nil, List.drop_zero, List.drop_succ_cons, List.drop_nil, List.take_zero, List.take_succ_cons, List.take_nil, List.append_nil, List.nil_append, List.cons_append, List.all_cons, List.all_nil, true_and, and_true, Bool.not_true, Bool.not_false, Bool.true_and, Bool.and_true, Bool.false_and, Bool.and_false, Bool.true_or, Bool.or_true, Bool.false_or, Bool.or_false, decide_true, decide_false, beq_self_eq_true, if_true, if_false, Nat.reduceBEq, Nat.reduceLT, Nat.reduceLeDiff, Nat.reduceAdd, Nat.reduceMul, Nat.reduceEqDiff, Int.reduceEq, Int.reduceLT, Int.reduceLE, eq_self, Int.reduceNeg, Option.isSome_some, agg_34, fa_34_0, fa_34_1, agg_3, agg_2, size_34, conv_2_40, shift_2, int_or, d0, e1]
      exact ⟨⟨_, by rw [hm]; rfl⟩, s1⟩
    · have e1 : decide (v.x = 0) = false := by simpa using h1
      have hm : may v = false := by simp only [may, if_pos k0, e1]
      simp (config := { maxSteps := 1000000 }) (disch := omega) only [↓sh, ↓reduceIte, sx, nbeq_ne, dle, relo_eq, wrap_i64, cond_true, cond_false, Option.bind_some, Option.bind_none, Option.map_some, Nat.add_zero, Nat.zero_add, List.getElem?_cons_zero, List.getElem?_cons_succ, List.getElem?_nil, List.getElem?_toArray, List.length_cons, List.length_nil, List.drop_zero, List.drop_succ_cons, List.drop_nil, List.take_zero, List.take_succ_cons, List.take_nil, List.append_nil, List.nil_append, List.cons_append, List.all_cons, List.all_nil, true_and, and_true, Bool.not_true, Bool.not_false, Bool.true_and, Bool.and_true, Bool.false_and, Bool.and_false, Bool.true_or, Bool.or_true, Bool.false_or, Bool.or_false, decide_true, decide_false, beq_self_eq_true, if_true, if_false, Nat.reduceBEq, Nat.reduceLT, Nat.reduceLeDiff, Nat.reduceAdd, Nat.reduceMul, Nat.reduceEqDiff, Int.reduceEq, Int.reduceLT, Int.reduceLE, eq_self, Int.reduceNeg, Option.isSome_some, agg_34, fa_34_0, fa_34_1, agg_3, agg_2, size_34, conv_2_40, shift_2, int_or, d0, e1]
      exact ⟨⟨_, by rw [hm]; rfl⟩, s1⟩
  · have d0 : decide (v.kind = 0) = false := by simpa using k0
    by_cases k1 : v.kind = 1
    · have d1 : decide (v.kind = 1) = true := by simpa using k1
      by_cases h1 : -2305843009213693952 ≤ v.x
      · have e1 : decide (-2305843009213693952 ≤ v.x) = true := by simpa using h1
        by_cases h2 : v.x ≤ 2305843009213693951
        · have e2 : decide (v.x ≤ 2305843009213693951) = true := by simpa using h2
          have hm : may v = true := by simp only [may, if_neg k0, if_pos k1, if_pos h1, e2]
          simp (config := { maxSteps := 1000000 }) (disch := omega) only [↓sh, ↓reduceIte, sx, nbeq_ne, dle, relo_eq, wrap_i64, cond_true, cond_false, Option.bind_some, Option.bind_none, Option.map_some, Nat.add_zero, Nat.zero_add, List.getElem?_cons_zero, List.getElem?_cons_succ, List.getElem?_nil, List.getElem?_toArray, List.length_cons, List.length_nil, List.drop_zero, List.drop_succ_cons, List.drop_nil, List.take_zero, List.take_succ_cons, List.take_nil, List.append_nil, List.nil_append, List.cons_append, List.all_cons, List.all_nil, true_and, and_true, Bool.not_true, Bool.not_false, Bool.true_and, Bool.and_true, Bool.false_and, Bool.and_false, Bool.true_or, Bool.or_true, Bool.false_or, Bool.or_false, decide_true, decide_false, beq_self_eq_true, if_true, if_false, Nat.reduceBEq, Nat.reduceLT, Nat.reduceLeDiff, Nat.reduceAdd, Nat.reduceMul, Nat.reduceEqDiff, Int.reduceEq, Int.reduceLT, Int.reduceLE, eq_self, Int.reduceNeg, Option.isSome_some, agg_34, fa_34_0, fa_34_1, agg_3, agg_2, size_34, conv_2_40, shift_2, int_or, d0, d1, e1, e2]
          exact ⟨⟨_, by rw [hm]; rfl⟩, s1⟩
        · have e2 : decide (v.x ≤ 2305843009213693951) = false := by simpa using h2
          have hm : may v = false := by simp only [may, if_neg k0, if_pos k1, if_pos h1, e2]
          simp (config := { maxSteps := 1000000 }) (disch := omega) only [↓sh, ↓reduceIte, sx, nbeq_ne, dle, relo_eq, wrap_i64, cond_true, cond_false, Option.bind_some, Option.bind_none, Option.map_some, Nat.add_zero, Nat.zero_add, List.getElem?_cons_zero, List.getElem?_cons_succ, List.getElem?_nil, List.getElem?_toArray, List.length_cons, List.length_nil, List.drop_zero, List.drop_succ_cons, List.drop_nil, List.take_zero, List.take_succ_cons, List.take_nil, List.append_nil, List.nil_append, List.cons_append, List.all_cons, List.all_nil, true_and, and_true, Bool.not_true, Bool.not_false, Bool.true_and, Bool.and_true, Bool.false_and, Bool.and_false, Bool.true_or, Bool.or_true, Bool.false_or, Bool.or_false, decide_true, decide_false, beq_self_eq_true, if_true, if_false, Nat.reduceBEq, Nat.reduceLT, Nat.reduceLeDiff, Nat.reduceAdd, Nat.reduceMul, Nat.reduceEqDiff, Int.reduceEq, Int.reduceLT, Int.reduceLE, eq_self, Int.reduceNeg, Option.isSome_some, agg_34, fa_34_0, fa_34_1, agg_3, agg_2, size_34, conv_2_40, shift_2, int_or, d0, d1, e1, e2]
          exact ⟨⟨_, by rw [hm]; rfl⟩, s1⟩
      · have e1 : decide (-2305843009213693952 ≤ v.x) = false := by simpa using h1
        have hm : may v = false := by simp only [may, if_neg k0, if_pos k1, if_neg h1]
        simp (config := { maxSteps := 1000000 }) (disch := omega) only [↓sh, ↓reduceIte, sx, nbeq_ne, dle, relo_eq, wrap_i64, cond_true, cond_false, Option.bind_some, Option.bind_none, Option.map_some, Nat.add_zero, Nat.zero_add, List.getElem?_cons_zero, List.getElem?_cons_succ, List.getElem?_nil, List.getElem?_toArray, List.length_cons, List.length_nil, List.drop_zero, List.drop_succ_cons, List.drop_nil, List.take_zero, List.take_succ_cons, List.take_nil, List.append_nil, List.nil_append, List.cons_append, List.all_cons, List.all_nil, true_and, and_true, Bool.not_true, Bool.not_false, Bool.true_and, Bool.and_true, Bool.false_and, Bool.and_false, Bool.true_or, Bool.or_true, Bool.false_or, Bool.or_false, decide_true, decide_false, beq_self_eq_true, if_true, if_false, Nat.reduceBEq, Nat.reduceLT, Nat.reduceLeDiff, Nat.reduceAdd, Nat.reduceMul, Nat.reduceEqDiff, Int.reduceEq, Int.reduceLT, Int.reduceLE, eq_self, Int.reduceNeg, Option.isSome_some, agg_34, fa_34_0, fa_34_1, agg_3, agg_2, size_34, conv_2_40, shift_2, int_or, d0, d1, e1]
        exact ⟨⟨_, by rw [hm]; rfl⟩, s1⟩
    · have d1 : decide (v.kind = 1) = false := by simpa using k1
      by_cases k2 : v.kind = 2
      · have d2 : decide (v.kind = 2) = true := by simpa using k2
        by_cases h1 : 0 ≤ v.x
        · have e1 : decide (0 ≤ v.x) = true := by simpa using h1
          by_cases h2 : v.x ≤ 1099511627776
          · have e2 : decide (v.x ≤ 1099511627776) = true := by simpa using h2
            have hm : may v = true := by simp only [may, if_neg k0, if_neg k1, if_pos k2, if_pos h1, e2]
            simp (config := { maxSteps := 1000000 }) (disch := omega) only [↓sh, ↓reduceIte, sx, nbeq_ne, dle, relo_eq, wrap_i64, cond_true, cond_false, Option.bind_some, Option.bind_none, Option.map_some, Nat.add_zero, Nat.zero_add, List.getElem?_cons_zero, List.getElem?_cons_succ, List.getElem?_nil, List.getElem?_toArray, List.length_cons, List.length_nil, List.drop_zero, List.drop_succ_cons, List.drop_nil, List.take_zero, List.take_succ_cons, List.take_nil, List.append_nil, List.nil_append, List.cons_append, List.all_cons, List.all_nil, true_and, and_true, Bool.not_true, Bool.not_false, Bool.true_and, Bool.and_true, Bool.false_and, Bool.and_false, Bool.true_or, Bool.or_true, Bool.false_or, Bool.or_false, decide_true, decide_false, beq_self_eq_true, if_true, if_false, Nat.reduceBEq, Nat.reduceLT, Nat.reduceLeDiff, Nat.reduceAdd, Nat.reduceMul, Nat.reduceEqDiff, Int.reduceEq, Int.reduceLT, Int.reduceLE, eq_self, Int.reduceNeg, Option.isSome_some, agg_34, fa_34_0, fa_34_1, agg_3, agg_2, size_34, conv_2_40, shift_2, int_or, d0, d1, d2, e1, e2]
            exact ⟨⟨_, by rw [hm]; rfl⟩, s1⟩
          · have e2 : decide (v.x ≤ 1099511627776) = false := by simpa using h2
            have hm : may v = false := by simp only [may, if_neg k0, if_neg k1, if_pos k2, if_pos h1, e2]
            simp (config := { maxSteps := 1000000 }) (disch := omega) only [↓sh, ↓reduceIte, sx, nbeq_ne, dle, relo_eq, wrap_i64, cond_true, cond_false, Option.bind_some, Option.bind_none, Option.map_some, Nat.add_zero, Nat.zero_add, List.getElem?_cons_zero, List.getElem?_cons_succ, List.getElem?_nil, List.getElem?_toArray, List.length_cons, List.length_nil, List.drop_zero, List.drop_succ_cons, List.drop_nil, List.take_zero, List.take_succ_cons, List.take_nil, List.append_nil, List.nil_append, List.cons_append, List.all_cons, List.all_nil, true_and, and_true, Bool.not_true, Bool.not_false, Bool.true_and, Bool.and_true, Bool.false_and, Bool.and_false, Bool.true_or, Bool.or_true, Bool.false_or, Bool.or_false, decide_true, decide_false, beq_self_eq_true, if_true, if_false, Nat.reduceBEq, Nat.reduceLT, Nat.reduceLeDiff, Nat.reduceAdd, Nat.reduceMul, Nat.reduceEqDiff, Int.reduceEq, Int.reduceLT, Int.reduceLE, eq_self, Int.reduceNeg, Option.isSome_some, agg_34, fa_34_0, fa_34_1, agg_3, agg_2, size_34, conv_2_40, shift_2, int_or, d0, d1, d2, e1, e2]
            exact ⟨⟨_, by rw [hm]; rfl⟩, s1⟩
        · have e1 : decide (0 ≤ v.x) = false := by simpa using h1
          have hm : may v = false := by simp only [may, if_neg k0, if_neg k1, if_pos k2, if_neg h1]
          simp (config := { maxSteps := 1000000 }) (disch := omega) only [↓sh, ↓reduceIte, sx, nbeq_ne, dle, relo_eq, wrap_i64, cond_true, cond_false, Option.bind_some, Option.bind_none, Option.map_some, Nat.add_zero, Nat.zero_add, List.getElem?_cons_zero, List.getElem?_cons_succ, List.getElem?_nil, List.getElem?_toArray, List.length_cons, List.length_nil, List.drop_zero, List.drop_succ_cons, List.drop_nil, List.take_zero, List.take_succ_cons, List.take_nil, List.append_nil, List.nil_append, List.cons_append, List.all_cons, List.all_nil, true_and, and_true, Bool.not_true, Bool.not_false, Bool.true_and, Bool.and_true, Bool.false_and, Bool.and_false, Bool.true_or, Bool.or_true, Bool.false_or, Bool.or_false, decide_true, decide_false, beq_self_eq_true, if_true, if_false, Nat.reduceBEq, Nat.reduceLT, Nat.reduceLeDiff, Nat.reduceAdd, Nat.reduceMul, Nat.reduceEqDiff, Int.reduceEq, Int.reduceLT, Int.reduceLE, eq_self, Int.reduceNeg, Option.isSome_some, agg_34, fa_34_0, fa_34_1, agg_3, agg_2, size_34, conv_2_40, shift_2, int_or, d0, d1, d2, e1]
          exact ⟨⟨_, by rw [hm]; rfl⟩, s1⟩
      · have d2 : decide (v.kind = 2) = false := by simpa using k2
        have hm : may v = false := by simp only [may, if_neg k0, if_neg k1, if_neg k2]
        simp (config := { maxSteps := 1000000 }) (disch := omega) only [↓sh, ↓reduceIte, sx, nbeq_ne, dle, relo_eq, wrap_i64, cond_true, cond_false, Option.bind_some, Option.bind_none, Option.map_some, Nat.add_zero, Nat.zero_add, List.getElem?_cons_zero, List.getElem?_cons_succ, List.getElem?_nil, List.getElem?_toArray, List.length_cons, List.length_nil, List.drop_zero, List.drop_succ_cons, List.drop_nil, List.take_zero, List.take_succ_cons, List.take_nil, List.append_nil, List.nil_append, List.cons_append, List.all_cons, List.all_nil, true_and, and_true, Bool.not_true, Bool.not_false, Bool.true_and, Bool.and_true, Bool.false_and, Bool.and_false, Bool.true_or, Bool.or_true, Bool.false_or, Bool.or_false, decide_true, decide_false, beq_self_eq_true, if_true, if_false, Nat.reduceBEq, Nat.reduceLT, Nat.reduceLeDiff, Nat.reduceAdd, Nat.reduceMul, Nat.reduceEqDiff, Int.reduceEq, Int.reduceLT, Int.reduceLE, eq_self, Int.reduceNeg, Option.isSome_some, agg_34, fa_34_0, fa_34_1, agg_3, agg_2, size_34, conv_2_40, shift_2, int_or, d0, d1, d2]
        exact ⟨⟨_, by rw [hm]; rfl⟩, s1⟩
end Go.AM
