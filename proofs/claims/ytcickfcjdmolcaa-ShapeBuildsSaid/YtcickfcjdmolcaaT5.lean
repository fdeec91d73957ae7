/-
  Walks over letters of the functions that the law reaches.
-/
import Derived.Test.YtcickfcjdmolcaaT4
namespace Go.AM
attribute [local instance] fnMaps
open Go Go.Proofs
set_option maxRecDepth 100000
set_option maxHeartbeats 1000000
set_option linter.unusedSimpArgs false
theorem fn14 : E.fn.get 14 = some Try.f14 := by kernel_rfl
theorem cut3 {cells : List Value} {k : Nat} {a b c : Value} (h : cut cells k 3 = some [a, b, c]) : cells[k]? = some a ∧ cells[k + 1]? = some b ∧ cells[k + 2]? = some c := by
  obtain ⟨_, _, h3⟩ := cut_len h
  have e0 : ((cells.drop k).take 3)[0]? = cells[k]? := by simp [List.getElem?_take, List.getElem?_drop]
  have e1 : ((cells.drop k).take 3)[1]? = cells[k + 1]? := by simp [List.getElem?_take, List.getElem?_drop]
  have e2 : ((cells.drop k).take 3)[2]? = cells[k + 2]? := by simp [List.getElem?_take, List.getElem?_drop]
  rw [← e0, ← e1, ← e2, ← h3]
  exact ⟨rfl, rfl, rfl⟩
def weight (d : Node) : Int := (if (5000 : Int) < d.fields.length then 5000 else (d.fields.length : Int)) + (if (5000 : Int) < d.raws.length then 5000 else (d.raws.length : Int))
def weigh (l : List Node) : Nat → Int
  | 0 => 0
  | i + 1 => weigh l i + (match l[i]? with | some d => weight d | none => 0)
theorem weigh_le (l : List Node) (i : Nat) : 0 ≤ weigh l i ∧ weigh l i ≤ i * 10000 := by
  induction i with
  | zero => simp [weigh]
  | succ i ih =>
    simp only [weigh]
    cases l[i]? with
    | none => simp only []; omega
    | some d =>
      simp only [weight]
      split <;> split <;> omega
def large (g : Graph) : Bool := if decide ((60 : Int) < g.nodes.length) then true else if decide ((100 : Int) < g.roots.length) then true else decide (9000 < weigh g.nodes g.nodes.length)

theorem large_ok (H : Heap) (hlo : H.lo ≤ H.next) (va : Value) (g : Graph) (ha : GraphV H va g) : CallA E (fnv 14) [va] H fun r H' => r = .bool (large g) ∧ Same H H' := by
  obtain ⟨na, ra, rfl, hna, hra⟩ := ha
  obtain ⟨a, ca, rfl, ⟨_, hm⟩, hna⟩ := hna
  obtain ⟨b, cb, rfl, ⟨_, hmb⟩, hra⟩ := hra
  refine callA_fn (by kernel_rfl) fn14 rfl rfl ?_
  simp only [Try.f14]
  have s0 : Same H (H.newRow [Value.slice a g.nodes.length ca, Value.slice b g.roots.length cb]) := same_newRow _
  cases x1 : decide ((60 : Int) < g.nodes.length)
  case true =>
    simp (config := { maxSteps := 1000000 }) (disch := omega) only [↓sh, ↓reduceIte, sx, nbeq_ne, dle, relo_eq, wrap_i64, cond_true, cond_false, Option.bind_some, Option.bind_none, Option.map_some, Nat.add_zero, Nat.zero_add, List.getElem?_cons_zero, List.getElem?_cons_succ, List.getElem?_nil, List.getElem?_toArray, List.length_cons, List.length_nil, List.drop_zero, List.drop_succ_cons, List.drop_nil, List.take_zero, List.take_succ_cons, List.take_nil, List.append_nil, List.nil_append, List.cons_append, List.all_cons, List.all_nil, true_and, and_true, Bool.not_true, Bool.not_false, Bool.true_and, Bool.and_true, Bool.false_and, Bool.and_false, Bool.true_or, Bool.or_true, Bool.false_or, Bool.or_false, decide_true, decide_false, beq_self_eq_true, if_true, if_false, Nat.reduceBEq, Nat.reduceLT, Nat.reduceLeDiff, Nat.reduceAdd, Nat.reduceMul, Nat.reduceEqDiff, Int.reduceEq, Int.reduceLT, Int.reduceLE, eq_self, Int.reduceNeg, Option.isSome_some, cutAll2, cutAll3, agg_34, fa_34_0, fa_34_1, agg_3, agg_2, size_34, len_24, len_25, len_44, fa_27_0, fa_27_1, agg_24, agg_25, agg_44, size_27, agg_27, ia_24, agg_46, zero_46, size_46, fa_46_0, fa_46_1, fa_46_2, x1]
    exact ⟨by simp only [large, x1]; rfl, s0⟩
  cases x2 : decide ((100 : Int) < g.roots.length)
  case true =>
    simp (config := { maxSteps := 1000000 }) (disch := omega) only [↓sh, ↓reduceIte, sx, nbeq_ne, dle, relo_eq, wrap_i64, cond_true, cond_false, Option.bind_some, Option.bind_none, Option.map_some, Nat.add_zero, Nat.zero_add, List.getElem?_cons_zero, List.getElem?_cons_succ, List.getElem?_nil, List.getElem?_toArray, List.length_cons, List.length_nil, List.drop_zero, List.drop_succ_cons, List.drop_nil, List.take_zero, List.take_succ_cons, List.take_nil, List.append_nil, List.nil_append, List.cons_append, List.all_cons, List.all_nil, true_and, and_true, Bool.not_true, Bool.not_false, Bool.true_and, Bool.and_true, Bool.false_and, Bool.and_false, Bool.true_or, Bool.or_true, Bool.false_or, Bool.or_false, decide_true, decide_false, beq_self_eq_true, if_true, if_false, Nat.reduceBEq, Nat.reduceLT, Nat.reduceLeDiff, Nat.reduceAdd, Nat.reduceMul, Nat.reduceEqDiff, Int.reduceEq, Int.reduceLT, Int.reduceLE, eq_self, Int.reduceNeg, Option.isSome_some, cutAll2, cutAll3, agg_34, fa_34_0, fa_34_1, agg_3, agg_2, size_34, len_24, len_25, len_44, fa_27_0, fa_27_1, agg_24, agg_25, agg_44, size_27, agg_27, ia_24, agg_46, zero_46, size_46, fa_46_0, fa_46_1, fa_46_2, x1, x2]
    exact ⟨by simp only [large, x1, x2]; rfl, s0⟩
  have hl : g.nodes.length ≤ 60 := by simp at x1; omega
  simp (config := { maxSteps := 1000000 }) (disch := omega) only [↓sh, ↓reduceIte, sx, nbeq_ne, dle, relo_eq, wrap_i64, cond_true, cond_false, Option.bind_some, Option.bind_none, Option.map_some, Nat.add_zero, Nat.zero_add, List.getElem?_cons_zero, List.getElem?_cons_succ, List.getElem?_nil, List.getElem?_toArray, List.length_cons, List.length_nil, List.drop_zero, List.drop_succ_cons, List.drop_nil, List.take_zero, List.take_succ_cons, List.take_nil, List.append_nil, List.nil_append, List.cons_append, List.all_cons, List.all_nil, true_and, and_true, Bool.not_true, Bool.not_false, Bool.true_and, Bool.and_true, Bool.false_and, Bool.and_false, Bool.true_or, Bool.or_true, Bool.false_or, Bool.or_false, decide_true, decide_false, beq_self_eq_true, if_true, if_false, Nat.reduceBEq, Nat.reduceLT, Nat.reduceLeDiff, Nat.reduceAdd, Nat.reduceMul, Nat.reduceEqDiff, Int.reduceEq, Int.reduceLT, Int.reduceLE, eq_self, Int.reduceNeg, Option.isSome_some, cutAll2, cutAll3, agg_34, fa_34_0, fa_34_1, agg_3, agg_2, size_34, len_24, len_25, len_44, fa_27_0, fa_27_1, agg_24, agg_25, agg_44, size_27, agg_27, ia_24, agg_46, zero_46, size_46, fa_46_0, fa_46_1, fa_46_2, x1, x2]
  refine named (H.newRow [Value.slice a g.nodes.length ca, Value.slice b g.roots.length cb]) (fun H1 e1 => ?_)
  have n1 : H1.next = H.next + 1 := by simp only [e1, newRow_next]
  have l1 : H1.lo = H.lo := by rw [e1]; simp (disch := omega) only [setRow_get, newRow_get, newRow_next, setRow_next, newRow_lo, setRow_lo, newRow_grps, setRow_grps, newRow_relo, setRow_relo, relo_objs, relo_next, relo_lo, nbeq_ne, cond_false, cond_true, beq_self_eq_true]
  have b1 : H1.objs.get H.next = some (.row [Value.slice a g.nodes.length ca, Value.slice b g.roots.length cb] none true) := by simp (disch := omega) only [e1, newRow_get, newRow_next, nbeq_ne, cond_false, beq_self_eq_true, cond_true]
  have s1 : Same H H1 := by rw [e1]; exact same_newRow _
  rw [← e1]
  refine wp_loop (by kernel_rfl) (fun n T H' => ∃ i : Nat, n = g.nodes.length - i ∧ i ≤ g.nodes.length ∧ T.get 4 = some (.int .i64 i) ∧ T.get 3 = some (.int .i64 (weigh g.nodes i)) ∧ T.get 1 = some (ptr H.next 0) ∧ H' = H1) g.nodes.length ?_ ?_
  · exact ⟨0, by omega, by omega, rfl, rfl, rfl, rfl⟩
  rintro n T H' ⟨i, rfl, hi, h4, h3, h1, rfl⟩
  by_cases hlt : i < g.nodes.length
  · have hd : decide ((i : Int) < (g.nodes.length : Int)) = true := by simpa using hlt
    obtain ⟨r, o, cells, gg, t, part, rfl, hr, hrow, hcut, f, w, rfl, hf, hw⟩ := hna i g.nodes[i] (by simp [hlt])
    have hrow := s1.keeps hr hrow
    obtain ⟨fa, fc, rfl, ⟨_, hmf⟩, _⟩ := hf
    obtain ⟨wa, wc, rfl, ⟨_, hmw⟩, _⟩ := hw
    obtain ⟨q0, q1, q2⟩ := cut3 hcut
    have hw1 := weigh_le g.nodes i
    have hws : weigh g.nodes (i + 1) = weigh g.nodes i + ((if (5000 : Int) < g.nodes[i].fields.length then 5000 else (g.nodes[i].fields.length : Int)) + (if (5000 : Int) < g.nodes[i].raws.length then 5000 else (g.nodes[i].raws.length : Int))) := by
      simp only [weigh, List.getElem?_eq_getElem hlt, weight]
    simp (config := { maxSteps := 1000000 }) (disch := omega) only [↓sh, ↓reduceIte, sx, nbeq_ne, dle, relo_eq, wrap_i64, cond_true, cond_false, Option.bind_some, Option.bind_none, Option.map_some, Nat.add_zero, Nat.zero_add, List.getElem?_cons_zero, List.getElem?_cons_succ, List.getElem?_nil, List.getElem?_toArray, List.length_cons, List.length_nil, List.drop_zero, List.drop_succ_cons, List.drop_nil, List.take_zero, List.take_succ_cons, List.take_nil, List.append_nil, List.nil_append, List.cons_append, List.all_cons, List.all_nil, true_and, and_true, Bool.not_true, Bool.not_false, Bool.true_and, Bool.and_true, Bool.false_and, Bool.and_false, Bool.true_or, Bool.or_true, Bool.false_or, Bool.or_false, decide_true, decide_false, beq_self_eq_true, if_true, if_false, Nat.reduceBEq, Nat.reduceLT, Nat.reduceLeDiff, Nat.reduceAdd, Nat.reduceMul, Nat.reduceEqDiff, Int.reduceEq, Int.reduceLT, Int.reduceLE, eq_self, Int.reduceNeg, Option.isSome_some, cutAll2, cutAll3, agg_34, fa_34_0, fa_34_1, agg_3, agg_2, size_34, len_24, len_25, len_44, fa_27_0, fa_27_1, agg_24, agg_25, agg_44, size_27, agg_27, ia_24, agg_46, zero_46, size_46, fa_46_0, fa_46_1, fa_46_2, h3, h4, h1, b1, hd]
    refine wps_draw [(false, []), (false, []), (false, []), (false, []), (false, []), (false, []), (false, []), (false, []), (false, []), (false, []), (false, []), (false, []), (false, []), (false, []), (false, []), (false, []), (false, []), (false, []), (false, []), (false, [])] (by kernel_rfl) ?_
    simp (config := { maxSteps := 1000000 }) (disch := omega) only [↓sh, ↓reduceIte, sx, nbeq_ne, dle, relo_eq, wrap_i64, cond_true, cond_false, Option.bind_some, Option.bind_none, Option.map_some, Nat.add_zero, Nat.zero_add, List.getElem?_cons_zero, List.getElem?_cons_succ, List.getElem?_nil, List.getElem?_toArray, List.length_cons, List.length_nil, List.drop_zero, List.drop_succ_cons, List.drop_nil, List.take_zero, List.take_succ_cons, List.take_nil, List.append_nil, List.nil_append, List.cons_append, List.all_cons, List.all_nil, true_and, and_true, Bool.not_true, Bool.not_false, Bool.true_and, Bool.and_true, Bool.false_and, Bool.and_false, Bool.true_or, Bool.or_true, Bool.false_or, Bool.or_false, decide_true, decide_false, beq_self_eq_true, if_true, if_false, Nat.reduceBEq, Nat.reduceLT, Nat.reduceLeDiff, Nat.reduceAdd, Nat.reduceMul, Nat.reduceEqDiff, Int.reduceEq, Int.reduceLT, Int.reduceLE, eq_self, Int.reduceNeg, Option.isSome_some, cutAll2, cutAll3, agg_34, fa_34_0, fa_34_1, agg_3, agg_2, size_34, len_24, len_25, len_44, fa_27_0, fa_27_1, agg_24, agg_25, agg_44, size_27, agg_27, ia_24, agg_46, zero_46, size_46, fa_46_0, fa_46_1, fa_46_2, h3, h4, h1, b1, at_nat hlt, hrow, hcut, q1, q2, builtin_min]
    exact ⟨_, by omega, i + 1, rfl, by omega, by simp, by simp [hws]⟩
  · have hd : decide ((i : Int) < (g.nodes.length : Int)) = false := by simpa using hlt
    have : i = g.nodes.length := by omega
    subst this
    simp (config := { maxSteps := 1000000 }) (disch := omega) only [↓sh, ↓reduceIte, sx, nbeq_ne, dle, relo_eq, wrap_i64, cond_true, cond_false, Option.bind_some, Option.bind_none, Option.map_some, Nat.add_zero, Nat.zero_add, List.getElem?_cons_zero, List.getElem?_cons_succ, List.getElem?_nil, List.getElem?_toArray, List.length_cons, List.length_nil, List.drop_zero, List.drop_succ_cons, List.drop_nil, List.take_zero, List.take_succ_cons, List.take_nil, List.append_nil, List.nil_append, List.cons_append, List.all_cons, List.all_nil, true_and, and_true, Bool.not_true, Bool.not_false, Bool.true_and, Bool.and_true, Bool.false_and, Bool.and_false, Bool.true_or, Bool.or_true, Bool.false_or, Bool.or_false, decide_true, decide_false, beq_self_eq_true, if_true, if_false, Nat.reduceBEq, Nat.reduceLT, Nat.reduceLeDiff, Nat.reduceAdd, Nat.reduceMul, Nat.reduceEqDiff, Int.reduceEq, Int.reduceLT, Int.reduceLE, eq_self, Int.reduceNeg, Option.isSome_some, cutAll2, cutAll3, agg_34, fa_34_0, fa_34_1, agg_3, agg_2, size_34, len_24, len_25, len_44, fa_27_0, fa_27_1, agg_24, agg_25, agg_44, size_27, agg_27, ia_24, agg_46, zero_46, size_46, fa_46_0, fa_46_1, fa_46_2, h3, h4, h1, b1, hd]
    exact ⟨by simp only [large, x1, x2]; rfl, s1⟩
end Go.AM
