/-
  Walks over letters of the functions that the law reaches.
-/
import Derived.Test.YtcickfcjdmolcaaT2
namespace Go.AM
attribute [local instance] fnMaps
open Go Go.Proofs
set_option maxRecDepth 100000
set_option maxHeartbeats 1000000
set_option linter.unusedSimpArgs false

theorem all_take {p : Val → Bool} {l : List Val} {i : Nat} (h : ∀ j (_ : j < i) (h' : j < l.length), p l[j] = true) (hi : l.length ≤ i) : l.all p = true := by
  rw [List.all_eq_true]
  intro x hx
  obtain ⟨j, hj, rfl⟩ := List.getElem_of_mem hx
  exact h j (by omega) hj
theorem all_not {p : Val → Bool} {l : List Val} {i : Nat} (h : i < l.length) (hp : p l[i] = false) : l.all p = false := by
  rw [List.all_eq_false]
  exact ⟨l[i], List.getElem_mem _, by simp [hp]⟩

theorem cut2 {cells : List Value} {k : Nat} {a b : Value} (h : cut cells k 2 = some [a, b]) : cells[k]? = some a ∧ cells[k + 1]? = some b := by
  obtain ⟨_, _, h3⟩ := cut_len h
  have e0 : ((cells.drop k).take 2)[0]? = cells[k]? := by simp [List.getElem?_take, List.getElem?_drop]
  have e1 : ((cells.drop k).take 2)[1]? = cells[k + 1]? := by simp [List.getElem?_take, List.getElem?_drop]
  rw [← e0, ← e1, ← h3]
  exact ⟨rfl, rfl⟩

theorem sound_ok (H : Heap) (hlo : H.lo ≤ H.next) (va vb : Value) (g : Graph) (ha : GraphV H va g) (l : List Val) (hb : SL RVal 2 H vb l) : CallA E (fnv 33) [va, vb] H fun r H' => r = .bool (l.all (snd g.nodes.length)) ∧ Same H H' := by
  obtain ⟨na, ra, rfl, ⟨a, ca, rfl, ⟨_, hm⟩, hna⟩, ⟨b, cb, rfl, _, hra⟩⟩ := ha
  obtain ⟨s, cs, rfl, ⟨_, hms⟩, hl⟩ := hb
  refine callA_fn (by kernel_rfl) fn33 rfl rfl ?_
  simp only [Try.f33]
  simp (config := { maxSteps := 1000000 }) (disch := omega) only [↓sh, ↓reduceIte, sx, nbeq_ne, dle, relo_eq, wrap_i64, cond_true, cond_false, Option.bind_some, Option.bind_none, Option.map_some, Nat.add_zero, Nat.zero_add, List.getElem?_cons_zero, List.getElem?_cons_succ, List.getElem?_nil, List.getElem?_toArray, List.length_cons, List.length_nil, List.drop_zero, List.drop_succ_cons, List.drop_nil, List.take_zero, List.take_succ_cons, List.take_nil, List.append_nil, List.nil_append, List.cons_append, List.all_cons, List.all_nil, true_and, and_true, Bool.not_true, Bool.not_false, Bool.true_and, Bool.and_true, Bool.false_and, Bool.and_false, Bool.true_or, Bool.or_true, Bool.false_or, Bool.or_false, decide_true, decide_false, beq_self_eq_true, if_true, if_false, Nat.reduceBEq, Nat.reduceLT, Nat.reduceLeDiff, Nat.reduceAdd, Nat.reduceMul, Nat.reduceEqDiff, Int.reduceEq, Int.reduceLT, Int.reduceLE, eq_self, Int.reduceNeg, Option.isSome_some, cut_eq, agg_34, fa_34_0, fa_34_1, agg_3, agg_2, size_34, len_24, len_25, fa_27_0, fa_27_1, agg_24, agg_25, size_27, agg_27, ia_25]
  refine named (H.newRow [Value.slice a g.nodes.length ca, Value.slice b g.roots.length cb]) (fun H1 e1 => ?_)
  have n1 : H1.next = H.next + 1 := by simp only [e1, newRow_next]
  have l1 : H1.lo = H.lo := by rw [e1]; simp (disch := omega) only [setRow_get, newRow_get, newRow_next, setRow_next, newRow_lo, setRow_lo, newRow_grps, setRow_grps, newRow_relo, setRow_relo, relo_objs, relo_next, relo_lo, nbeq_ne, cond_false, cond_true, beq_self_eq_true]
  have b1 : H1.objs.get H.next = some (.row [Value.slice a g.nodes.length ca, Value.slice b g.roots.length cb] none true) := by simp (disch := omega) only [e1, newRow_get, newRow_next, nbeq_ne, cond_false, beq_self_eq_true, cond_true]
  have s1 : Same H H1 := by rw [e1]; exact same_newRow _
  rw [← e1]
  refine wp_loop (by kernel_rfl) (fun n T H' => ∃ i : Nat, n = l.length - i ∧ i ≤ l.length ∧ T.get 5 = some (.int .i64 i) ∧ T.get 1 = some (.slice s l.length cs) ∧ T.get 2 = some (ptr H.next 0) ∧ Same H1 H' ∧ ∀ j (_ : j < i) (h' : j < l.length), snd g.nodes.length l[j] = true) l.length ?_ ?_
  · exact ⟨0, by omega, by omega, rfl, rfl, rfl, Same.refl _, fun j h => absurd h (by omega)⟩
  · rintro n T H' ⟨i, rfl, hi, h5, h1, h2, s2, hall⟩
    have c1 := s2.keeps (by omega) b1
    have hn := s2.nxt
    have hlo2 := s2.lo
    by_cases hlt : i < l.length
    · have hd : decide ((i : Int) < (l.length : Int)) = true := by simpa using hlt
      obtain ⟨r, o, cells, gg, t, part, rfl, hr, hrow, hcut, rfl⟩ := hl i l[i] (by simp [hlt])
      have hrow := (s1.trans s2).keeps hr hrow
      obtain ⟨q0, q1⟩ := cut2 hcut
      simp (config := { maxSteps := 1000000 }) (disch := omega) only [↓sh, ↓reduceIte, sx, nbeq_ne, dle, relo_eq, wrap_i64, cond_true, cond_false, Option.bind_some, Option.bind_none, Option.map_some, Nat.add_zero, Nat.zero_add, List.getElem?_cons_zero, List.getElem?_cons_succ, List.getElem?_nil, List.getElem?_toArray, List.length_cons, List.length_nil, List.drop_zero, List.drop_succ_cons, List.drop_nil, List.take_zero, List.take_succ_cons, List.take_nil, List.append_nil, List.nil_append, List.cons_append, List.all_cons, List.all_nil, true_and, and_true, Bool.not_true, Bool.not_false, Bool.true_and, Bool.and_true, Bool.false_and, Bool.and_false, Bool.true_or, Bool.or_true, Bool.false_or, Bool.or_false, decide_true, decide_false, beq_self_eq_true, if_true, if_false, Nat.reduceBEq, Nat.reduceLT, Nat.reduceLeDiff, Nat.reduceAdd, Nat.reduceMul, Nat.reduceEqDiff, Int.reduceEq, Int.reduceLT, Int.reduceLE, eq_self, Int.reduceNeg, Option.isSome_some, agg_34, fa_34_0, fa_34_1, agg_3, agg_2, size_34, len_24, len_25, fa_27_0, fa_27_1, agg_24, agg_25, size_27, agg_27, ia_25, h5, h1, hd]
      refine wps_draw [(false, []), (false, []), (false, []), (false, []), (false, []), (false, []), (false, []), (false, []), (false, []), (false, []), (false, []), (false, []), (false, []), (false, []), (false, []), (false, []), (false, []), (false, []), (false, []), (false, []), (false, []), (false, []), (false, []), (false, []), (false, [])] (by kernel_rfl) ?_
      simp (config := { maxSteps := 1000000 }) (disch := omega) only [↓sh, ↓reduceIte, sx, nbeq_ne, dle, relo_eq, wrap_i64, cond_true, cond_false, Option.bind_some, Option.bind_none, Option.map_some, Nat.add_zero, Nat.zero_add, List.getElem?_cons_zero, List.getElem?_cons_succ, List.getElem?_nil, List.getElem?_toArray, List.length_cons, List.length_nil, List.drop_zero, List.drop_succ_cons, List.drop_nil, List.take_zero, List.take_succ_cons, List.take_nil, List.append_nil, List.nil_append, List.cons_append, List.all_cons, List.all_nil, true_and, and_true, Bool.not_true, Bool.not_false, Bool.true_and, Bool.and_true, Bool.false_and, Bool.and_false, Bool.true_or, Bool.or_true, Bool.false_or, Bool.or_false, decide_true, decide_false, beq_self_eq_true, if_true, if_false, Nat.reduceBEq, Nat.reduceLT, Nat.reduceLeDiff, Nat.reduceAdd, Nat.reduceMul, Nat.reduceEqDiff, Int.reduceEq, Int.reduceLT, Int.reduceLE, eq_self, Int.reduceNeg, Option.isSome_some, agg_34, fa_34_0, fa_34_1, agg_3, agg_2, size_34, len_24, len_25, fa_27_0, fa_27_1, agg_24, agg_25, size_27, agg_27, ia_25, h5, h1, at_nat hlt, hrow, hcut]
      refine (may_ok H' (by omega) l[i]).mono ?_
      rintro r H3 ⟨rfl, s3⟩
      have c1 := s3.keeps (by omega) c1
      have hrow := s3.keeps (by omega) hrow
      have l3 := s3.lo
      have hnext : snd g.nodes.length l[i] = true → ∀ j (_ : j < i + 1) (h' : j < l.length), snd g.nodes.length l[j] = true := by
        intro hs j hj h'
        by_cases e : j = i
        · subst e; exact hs
        · exact hall j (by omega) h'
      by_cases hm : may l[i] = true
      · rw [hm]
        by_cases k2 : l[i].kind = 2
        · have d2 : decide (l[i].kind = 2) = true := by simpa using k2
          by_cases hx : l[i].x < g.nodes.length
          · have d3 : decide ((g.nodes.length : Int) ≤ l[i].x) = false := by simp; omega
            simp (config := { maxSteps := 1000000 }) (disch := omega) only [↓sh, ↓reduceIte, sx, nbeq_ne, dle, relo_eq, wrap_i64, cond_true, cond_false, Option.bind_some, Option.bind_none, Option.map_some, Nat.add_zero, Nat.zero_add, List.getElem?_cons_zero, List.getElem?_cons_succ, List.getElem?_nil, List.getElem?_toArray, List.length_cons, List.length_nil, List.drop_zero, List.drop_succ_cons, List.drop_nil, List.take_zero, List.take_succ_cons, List.take_nil, List.append_nil, List.nil_append, List.cons_append, List.all_cons, List.all_nil, true_and, and_true, Bool.not_true, Bool.not_false, Bool.true_and, Bool.and_true, Bool.false_and, Bool.and_false, Bool.true_or, Bool.or_true, Bool.false_or, Bool.or_false, decide_true, decide_false, beq_self_eq_true, if_true, if_false, Nat.reduceBEq, Nat.reduceLT, Nat.reduceLeDiff, Nat.reduceAdd, Nat.reduceMul, Nat.reduceEqDiff, Int.reduceEq, Int.reduceLT, Int.reduceLE, eq_self, Int.reduceNeg, Option.isSome_some, agg_34, fa_34_0, fa_34_1, agg_3, agg_2, size_34, len_24, len_25, fa_27_0, fa_27_1, agg_24, agg_25, size_27, agg_27, ia_25, h5, h1, h2, at_nat hlt, hrow, hcut, q0, q1, l3, c1, d2, d3]
            exact ⟨_, by omega, i + 1, rfl, by omega, by simp, s2.trans s3, hnext (by simp only [snd, if_pos hm, if_pos k2]; simpa using hx)⟩
          · have d3 : decide ((g.nodes.length : Int) ≤ l[i].x) = true := by simp; omega
            simp (config := { maxSteps := 1000000 }) (disch := omega) only [↓sh, ↓reduceIte, sx, nbeq_ne, dle, relo_eq, wrap_i64, cond_true, cond_false, Option.bind_some, Option.bind_none, Option.map_some, Nat.add_zero, Nat.zero_add, List.getElem?_cons_zero, List.getElem?_cons_succ, List.getElem?_nil, List.getElem?_toArray, List.length_cons, List.length_nil, List.drop_zero, List.drop_succ_cons, List.drop_nil, List.take_zero, List.take_succ_cons, List.take_nil, List.append_nil, List.nil_append, List.cons_append, List.all_cons, List.all_nil, true_and, and_true, Bool.not_true, Bool.not_false, Bool.true_and, Bool.and_true, Bool.false_and, Bool.and_false, Bool.true_or, Bool.or_true, Bool.false_or, Bool.or_false, decide_true, decide_false, beq_self_eq_true, if_true, if_false, Nat.reduceBEq, Nat.reduceLT, Nat.reduceLeDiff, Nat.reduceAdd, Nat.reduceMul, Nat.reduceEqDiff, Int.reduceEq, Int.reduceLT, Int.reduceLE, eq_self, Int.reduceNeg, Option.isSome_some, agg_34, fa_34_0, fa_34_1, agg_3, agg_2, size_34, len_24, len_25, fa_27_0, fa_27_1, agg_24, agg_25, size_27, agg_27, ia_25, h5, h1, h2, at_nat hlt, hrow, hcut, q0, q1, l3, c1, d2, d3]
            exact ⟨by rw [all_not hlt (by simp only [snd, if_pos hm, if_pos k2]; simpa using hx)], s1.trans (s2.trans s3)⟩
        · have d2 : decide (l[i].kind = 2) = false := by simpa using k2
          simp (config := { maxSteps := 1000000 }) (disch := omega) only [↓sh, ↓reduceIte, sx, nbeq_ne, dle, relo_eq, wrap_i64, cond_true, cond_false, Option.bind_some, Option.bind_none, Option.map_some, Nat.add_zero, Nat.zero_add, List.getElem?_cons_zero, List.getElem?_cons_succ, List.getElem?_nil, List.getElem?_toArray, List.length_cons, List.length_nil, List.drop_zero, List.drop_succ_cons, List.drop_nil, List.take_zero, List.take_succ_cons, List.take_nil, List.append_nil, List.nil_append, List.cons_append, List.all_cons, List.all_nil, true_and, and_true, Bool.not_true, Bool.not_false, Bool.true_and, Bool.and_true, Bool.false_and, Bool.and_false, Bool.true_or, Bool.or_true, Bool.false_or, Bool.or_false, decide_true, decide_false, beq_self_eq_true, if_true, if_false, Nat.reduceBEq, Nat.reduceLT, Nat.reduceLeDiff, Nat.reduceAdd, Nat.reduceMul, Nat.reduceEqDiff, Int.reduceEq, Int.reduceLT, Int.reduceLE, eq_self, Int.reduceNeg, Option.isSome_some, agg_34, fa_34_0, fa_34_1, agg_3, agg_2, size_34, len_24, len_25, fa_27_0, fa_27_1, agg_24, agg_25, size_27, agg_27, ia_25, h5, h1, h2, at_nat hlt, hrow, hcut, q0, q1, l3, c1, d2]
          exact ⟨_, by omega, i + 1, rfl, by omega, by simp, s2.trans s3, hnext (by simp only [snd, if_pos hm, if_neg k2])⟩
      · have hm : may l[i] = false := by simpa using hm
        rw [hm]
        simp (config := { maxSteps := 1000000 }) (disch := omega) only [↓sh, ↓reduceIte, sx, nbeq_ne, dle, relo_eq, wrap_i64, cond_true, cond_false, Option.bind_some, Option.bind_none, Option.map_some, Nat.add_zero, Nat.zero_add, List.getElem?_cons_zero, List.getElem?_cons_succ, List.getElem?_nil, List.getElem?_toArray, List.length_cons, List.length_nil, List.drop_zero, List.drop_succ_cons, List.drop_nil, List.take_zero, List.take_succ_cons, List.take_nil, List.append_nil, List.nil_append, List.cons_append, List.all_cons, List.all_nil, true_and, and_true, Bool.not_true, Bool.not_false, Bool.true_and, Bool.and_true, Bool.false_and, Bool.and_false, Bool.true_or, Bool.or_true, Bool.false_or, Bool.or_false, decide_true, decide_false, beq_self_eq_true, if_true, if_false, Nat.reduceBEq, Nat.reduceLT, Nat.reduceLeDiff, Nat.reduceAdd, Nat.reduceMul, Nat.reduceEqDiff, Int.reduceEq, Int.reduceLT, Int.reduceLE, eq_self, Int.reduceNeg, Option.isSome_some, agg_34, fa_34_0, fa_34_1, agg_3, agg_2, size_34, len_24, len_25, fa_27_0, fa_27_1, agg_24, agg_25, size_27, agg_27, ia_25, h5, h1, h2, at_nat hlt, hrow, hcut, q0, q1, l3, c1]
        exact ⟨by rw [all_not hlt (by simp only [snd, hm]; rfl)], s1.trans (s2.trans s3)⟩
    · have hd : decide ((i : Int) < (l.length : Int)) = false := by simpa using hlt
      simp (config := { maxSteps := 1000000 }) (disch := omega) only [↓sh, ↓reduceIte, sx, nbeq_ne, dle, relo_eq, wrap_i64, cond_true, cond_false, Option.bind_some, Option.bind_none, Option.map_some, Nat.add_zero, Nat.zero_add, List.getElem?_cons_zero, List.getElem?_cons_succ, List.getElem?_nil, List.getElem?_toArray, List.length_cons, List.length_nil, List.drop_zero, List.drop_succ_cons, List.drop_nil, List.take_zero, List.take_succ_cons, List.take_nil, List.append_nil, List.nil_append, List.cons_append, List.all_cons, List.all_nil, true_and, and_true, Bool.not_true, Bool.not_false, Bool.true_and, Bool.and_true, Bool.false_and, Bool.and_false, Bool.true_or, Bool.or_true, Bool.false_or, Bool.or_false, decide_true, decide_false, beq_self_eq_true, if_true, if_false, Nat.reduceBEq, Nat.reduceLT, Nat.reduceLeDiff, Nat.reduceAdd, Nat.reduceMul, Nat.reduceEqDiff, Int.reduceEq, Int.reduceLT, Int.reduceLE, eq_self, Int.reduceNeg, Option.isSome_some, agg_34, fa_34_0, fa_34_1, agg_3, agg_2, size_34, len_24, len_25, fa_27_0, fa_27_1, agg_24, agg_25, size_27, agg_27, ia_25, h5, h1, hd]
      exact ⟨by rw [all_take hall (by omega)], s1.trans s2⟩
end Go.AM
