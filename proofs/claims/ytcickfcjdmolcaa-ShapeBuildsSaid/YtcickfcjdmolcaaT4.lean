/-
  Walks over letters of the functions that the law reaches.
-/
import Derived.Test.YtcickfcjdmolcaaT3
namespace Go.AM
attribute [local instance] fnMaps
open Go Go.Proofs
set_option maxRecDepth 100000
set_option maxHeartbeats 1000000
set_option linter.unusedSimpArgs false
theorem fn30 : E.fn.get 30 = some Try.f30 := by kernel_rfl
theorem cutAll2 (a b : Value) : cut [a, b] 0 2 = some [a, b] := Eq.trans (cut_eq _ _ _) rfl
theorem cutAll3 (a b c : Value) : cut [a, b, c] 0 3 = some [a, b, c] := Eq.trans (cut_eq _ _ _) rfl

def nodeOk (n : Nat) (d : Node) : Bool := if decide (d.kind < 0) then false else if decide (31 < d.kind) then false else if decide ((4096 : Int) < d.fields.length) then false else if decide ((4096 : Int) < d.raws.length) then false else d.fields.all (snd n)
def right (g : Graph) : Bool := if g.nodes.all (nodeOk g.nodes.length) then g.roots.all (snd g.nodes.length) else false
theorem all_ntake {p : Node → Bool} {l : List Node} {i : Nat} (h : ∀ j (_ : j < i) (h' : j < l.length), p l[j] = true) (hi : l.length ≤ i) : l.all p = true := by
  rw [List.all_eq_true]
  intro x hx
  obtain ⟨j, hj, rfl⟩ := List.getElem_of_mem hx
  exact h j (by omega) hj
theorem all_nnot {p : Node → Bool} {l : List Node} {i : Nat} (h : i < l.length) (hp : p l[i] = false) : l.all p = false := by
  rw [List.all_eq_false]
  exact ⟨l[i], List.getElem_mem _, by simp [hp]⟩

theorem right_ok (H : Heap) (hlo : H.lo ≤ H.next) (va : Value) (g : Graph) (ha : GraphV H va g) : CallA E (fnv 30) [va] H fun r H' => r = .bool (right g) ∧ Same H H' := by
  obtain ⟨na, ra, rfl, hna, hra⟩ := ha
  have hna' := hna
  have hra' := hra
  obtain ⟨a, ca, rfl, ⟨_, hm⟩, hna⟩ := hna
  obtain ⟨b, cb, rfl, ⟨_, hmb⟩, hra⟩ := hra
  refine callA_fn (by kernel_rfl) fn30 rfl rfl ?_
  simp only [Try.f30]
  simp (config := { maxSteps := 1000000 }) (disch := omega) only [↓sh, ↓reduceIte, sx, nbeq_ne, dle, relo_eq, wrap_i64, cond_true, cond_false, Option.bind_some, Option.bind_none, Option.map_some, Nat.add_zero, Nat.zero_add, List.getElem?_cons_zero, List.getElem?_cons_succ, List.getElem?_nil, List.getElem?_toArray, List.length_cons, List.length_nil, List.drop_zero, List.drop_succ_cons, List.drop_nil, List.take_zero, List.take_succ_cons, List.take_nil, List.append_nil, List.nil_append, List.cons_append, List.all_cons, List.all_nil, true_and, and_true, Bool.not_true, Bool.not_false, Bool.true_and, Bool.and_true, Bool.false_and, Bool.and_false, Bool.true_or, Bool.or_true, Bool.false_or, Bool.or_false, decide_true, decide_false, beq_self_eq_true, if_true, if_false, Nat.reduceBEq, Nat.reduceLT, Nat.reduceLeDiff, Nat.reduceAdd, Nat.reduceMul, Nat.reduceEqDiff, Int.reduceEq, Int.reduceLT, Int.reduceLE, eq_self, Int.reduceNeg, Option.isSome_some, cutAll2, cutAll3, agg_34, fa_34_0, fa_34_1, agg_3, agg_2, size_34, len_24, len_25, len_44, fa_27_0, fa_27_1, agg_24, agg_25, agg_44, size_27, agg_27, ia_24, agg_46, zero_46, size_46, fa_46_0, fa_46_1, fa_46_2]
  refine named (H.newRow [Value.slice a g.nodes.length ca, Value.slice b g.roots.length cb]) (fun H1 e1 => ?_)
  have n1 : H1.next = H.next + 1 := by simp only [e1, newRow_next]
  have l1 : H1.lo = H.lo := by rw [e1]; simp (disch := omega) only [setRow_get, newRow_get, newRow_next, setRow_next, newRow_lo, setRow_lo, newRow_grps, setRow_grps, newRow_relo, setRow_relo, relo_objs, relo_next, relo_lo, nbeq_ne, cond_false, cond_true, beq_self_eq_true]
  have b1 : H1.objs.get H.next = some (.row [Value.slice a g.nodes.length ca, Value.slice b g.roots.length cb] none true) := by simp (disch := omega) only [e1, newRow_get, newRow_next, nbeq_ne, cond_false, beq_self_eq_true, cond_true]
  have s1 : Same H H1 := by rw [e1]; exact same_newRow _
  rw [← e1]
  refine wp_loop (by kernel_rfl) (fun n T H' => ∃ i : Nat, n = g.nodes.length - i ∧ i ≤ g.nodes.length ∧ T.get 3 = some (.int .i64 i) ∧ T.get 1 = some (ptr H.next 0) ∧ Same H1 H' ∧ ∀ j (_ : j < i) (h' : j < g.nodes.length), nodeOk g.nodes.length g.nodes[j] = true) g.nodes.length ?_ ?_
  · exact ⟨0, by omega, by omega, rfl, rfl, Same.refl _, fun j h => absurd h (by omega)⟩
  rintro n T H' ⟨i, rfl, hi, h3, h1, s2, hall⟩
  have c1 := s2.keeps (by omega) b1
  have hn := s2.nxt
  have hlo2 := s2.lo
  by_cases hlt : i < g.nodes.length
  · have hd : decide ((i : Int) < (g.nodes.length : Int)) = true := by simpa using hlt
    obtain ⟨r, o, cells, gg, t, part, rfl, hr, hrow, hcut, f, w, rfl, hf, hw⟩ := hna i g.nodes[i] (by simp [hlt])
    have hrow := (s1.trans s2).keeps hr hrow
    have wf := hf.cell
    have ww := hw.cell
    have hf' := hf
    have hw' := hw
    obtain ⟨fa, fc, rfl, ⟨_, hmf⟩, _⟩ := hf'
    obtain ⟨wa, wc, rfl, ⟨_, hmw⟩, _⟩ := hw'
    have hnext : nodeOk g.nodes.length g.nodes[i] = true → ∀ j (_ : j < i + 1) (h' : j < g.nodes.length), nodeOk g.nodes.length g.nodes[j] = true := by
      intro hs j hj h'
      by_cases e : j = i
      · subst e; exact hs
      · exact hall j (by omega) h'
    simp (config := { maxSteps := 1000000 }) (disch := omega) only [↓sh, ↓reduceIte, sx, nbeq_ne, dle, relo_eq, wrap_i64, cond_true, cond_false, Option.bind_some, Option.bind_none, Option.map_some, Nat.add_zero, Nat.zero_add, List.getElem?_cons_zero, List.getElem?_cons_succ, List.getElem?_nil, List.getElem?_toArray, List.length_cons, List.length_nil, List.drop_zero, List.drop_succ_cons, List.drop_nil, List.take_zero, List.take_succ_cons, List.take_nil, List.append_nil, List.nil_append, List.cons_append, List.all_cons, List.all_nil, true_and, and_true, Bool.not_true, Bool.not_false, Bool.true_and, Bool.and_true, Bool.false_and, Bool.and_false, Bool.true_or, Bool.or_true, Bool.false_or, Bool.or_false, decide_true, decide_false, beq_self_eq_true, if_true, if_false, Nat.reduceBEq, Nat.reduceLT, Nat.reduceLeDiff, Nat.reduceAdd, Nat.reduceMul, Nat.reduceEqDiff, Int.reduceEq, Int.reduceLT, Int.reduceLE, eq_self, Int.reduceNeg, Option.isSome_some, cutAll2, cutAll3, agg_34, fa_34_0, fa_34_1, agg_3, agg_2, size_34, len_24, len_25, len_44, fa_27_0, fa_27_1, agg_24, agg_25, agg_44, size_27, agg_27, ia_24, agg_46, zero_46, size_46, fa_46_0, fa_46_1, fa_46_2, h3, h1, hd, at_nat hlt, hrow, hcut, c1, wf, ww]
    refine named ((H'.newRow [Value.int .i64 0, Value.slice none 0 0, Value.slice none 0 0]).setRow H'.next [Value.int .i64 g.nodes[i].kind, Value.slice fa g.nodes[i].fields.length fc, Value.slice wa g.nodes[i].raws.length wc]) (fun HB eB => ?_)
    have lB : HB.lo = H'.lo := by rw [eB]; simp (disch := omega) only [setRow_get, newRow_get, newRow_next, setRow_next, newRow_lo, setRow_lo, newRow_grps, setRow_grps, newRow_relo, setRow_relo, relo_objs, relo_next, relo_lo, nbeq_ne, cond_false, cond_true, beq_self_eq_true]
    have nB : HB.next = H'.next + 1 := by rw [eB]; simp (disch := omega) only [setRow_get, newRow_get, newRow_next, setRow_next, newRow_lo, setRow_lo, newRow_grps, setRow_grps, newRow_relo, setRow_relo, relo_objs, relo_next, relo_lo, nbeq_ne, cond_false, cond_true, beq_self_eq_true]
    have gB : HB.objs.get H'.next = some (.row [Value.int .i64 g.nodes[i].kind, Value.slice fa g.nodes[i].fields.length fc, Value.slice wa g.nodes[i].raws.length wc] none true) := by rw [eB]; simp (disch := omega) only [setRow_get, newRow_get, newRow_next, setRow_next, newRow_lo, setRow_lo, newRow_grps, setRow_grps, newRow_relo, setRow_relo, relo_objs, relo_next, relo_lo, nbeq_ne, cond_false, cond_true, beq_self_eq_true]
    have sB : Same H' HB := by rw [eB]; exact (same_newRow _).setRow (by omega) _
    have cB := sB.keeps (by omega) c1
    rw [← eB]
    cases x1 : decide (g.nodes[i].kind < 0)
    case true =>
      simp (config := { maxSteps := 1000000 }) (disch := omega) only [↓sh, ↓reduceIte, sx, nbeq_ne, dle, relo_eq, wrap_i64, cond_true, cond_false, Option.bind_some, Option.bind_none, Option.map_some, Nat.add_zero, Nat.zero_add, List.getElem?_cons_zero, List.getElem?_cons_succ, List.getElem?_nil, List.getElem?_toArray, List.length_cons, List.length_nil, List.drop_zero, List.drop_succ_cons, List.drop_nil, List.take_zero, List.take_succ_cons, List.take_nil, List.append_nil, List.nil_append, List.cons_append, List.all_cons, List.all_nil, true_and, and_true, Bool.not_true, Bool.not_false, Bool.true_and, Bool.and_true, Bool.false_and, Bool.and_false, Bool.true_or, Bool.or_true, Bool.false_or, Bool.or_false, decide_true, decide_false, beq_self_eq_true, if_true, if_false, Nat.reduceBEq, Nat.reduceLT, Nat.reduceLeDiff, Nat.reduceAdd, Nat.reduceMul, Nat.reduceEqDiff, Int.reduceEq, Int.reduceLT, Int.reduceLE, eq_self, Int.reduceNeg, Option.isSome_some, cutAll2, cutAll3, agg_34, fa_34_0, fa_34_1, agg_3, agg_2, size_34, len_24, len_25, len_44, fa_27_0, fa_27_1, agg_24, agg_25, agg_44, size_27, agg_27, ia_24, agg_46, zero_46, size_46, fa_46_0, fa_46_1, fa_46_2, h3, h1, cB, gB, lB, x1]
      exact ⟨by rw [right, all_nnot hlt (by simp only [nodeOk, x1]; rfl)]; rfl, s1.trans (s2.trans sB)⟩
    cases x2 : decide (31 < g.nodes[i].kind)
    case true =>
      simp (config := { maxSteps := 1000000 }) (disch := omega) only [↓sh, ↓reduceIte, sx, nbeq_ne, dle, relo_eq, wrap_i64, cond_true, cond_false, Option.bind_some, Option.bind_none, Option.map_some, Nat.add_zero, Nat.zero_add, List.getElem?_cons_zero, List.getElem?_cons_succ, List.getElem?_nil, List.getElem?_toArray, List.length_cons, List.length_nil, List.drop_zero, List.drop_succ_cons, List.drop_nil, List.take_zero, List.take_succ_cons, List.take_nil, List.append_nil, List.nil_append, List.cons_append, List.all_cons, List.all_nil, true_and, and_true, Bool.not_true, Bool.not_false, Bool.true_and, Bool.and_true, Bool.false_and, Bool.and_false, Bool.true_or, Bool.or_true, Bool.false_or, Bool.or_false, decide_true, decide_false, beq_self_eq_true, if_true, if_false, Nat.reduceBEq, Nat.reduceLT, Nat.reduceLeDiff, Nat.reduceAdd, Nat.reduceMul, Nat.reduceEqDiff, Int.reduceEq, Int.reduceLT, Int.reduceLE, eq_self, Int.reduceNeg, Option.isSome_some, cutAll2, cutAll3, agg_34, fa_34_0, fa_34_1, agg_3, agg_2, size_34, len_24, len_25, len_44, fa_27_0, fa_27_1, agg_24, agg_25, agg_44, size_27, agg_27, ia_24, agg_46, zero_46, size_46, fa_46_0, fa_46_1, fa_46_2, h3, h1, cB, gB, lB, x1, x2]
      exact ⟨by rw [right, all_nnot hlt (by simp only [nodeOk, x1, x2]; rfl)]; rfl, s1.trans (s2.trans sB)⟩
    cases x3 : decide ((4096 : Int) < g.nodes[i].fields.length)
    case true =>
      simp (config := { maxSteps := 1000000 }) (disch := omega) only [↓sh, ↓reduceIte, sx, nbeq_ne, dle, relo_eq, wrap_i64, cond_true, cond_false, Option.bind_some, Option.bind_none, Option.map_some, Nat.add_zero, Nat.zero_add, List.getElem?_cons_zero, List.getElem?_cons_succ, List.getElem?_nil, List.getElem?_toArray, List.length_cons, List.length_nil, List.drop_zero, List.drop_succ_cons, List.drop_nil, List.take_zero, List.take_succ_cons, List.take_nil, List.append_nil, List.nil_append, List.cons_append, List.all_cons, List.all_nil, true_and, and_true, Bool.not_true, Bool.not_false, Bool.true_and, Bool.and_true, Bool.false_and, Bool.and_false, Bool.true_or, Bool.or_true, Bool.false_or, Bool.or_false, decide_true, decide_false, beq_self_eq_true, if_true, if_false, Nat.reduceBEq, Nat.reduceLT, Nat.reduceLeDiff, Nat.reduceAdd, Nat.reduceMul, Nat.reduceEqDiff, Int.reduceEq, Int.reduceLT, Int.reduceLE, eq_self, Int.reduceNeg, Option.isSome_some, cutAll2, cutAll3, agg_34, fa_34_0, fa_34_1, agg_3, agg_2, size_34, len_24, len_25, len_44, fa_27_0, fa_27_1, agg_24, agg_25, agg_44, size_27, agg_27, ia_24, agg_46, zero_46, size_46, fa_46_0, fa_46_1, fa_46_2, h3, h1, cB, gB, lB, x1, x2, x3]
      exact ⟨by rw [right, all_nnot hlt (by simp only [nodeOk, x1, x2, x3]; rfl)]; rfl, s1.trans (s2.trans sB)⟩
    cases x4 : decide ((4096 : Int) < g.nodes[i].raws.length)
    case true =>
      simp (config := { maxSteps := 1000000 }) (disch := omega) only [↓sh, ↓reduceIte, sx, nbeq_ne, dle, relo_eq, wrap_i64, cond_true, cond_false, Option.bind_some, Option.bind_none, Option.map_some, Nat.add_zero, Nat.zero_add, List.getElem?_cons_zero, List.getElem?_cons_succ, List.getElem?_nil, List.getElem?_toArray, List.length_cons, List.length_nil, List.drop_zero, List.drop_succ_cons, List.drop_nil, List.take_zero, List.take_succ_cons, List.take_nil, List.append_nil, List.nil_append, List.cons_append, List.all_cons, List.all_nil, true_and, and_true, Bool.not_true, Bool.not_false, Bool.true_and, Bool.and_true, Bool.false_and, Bool.and_false, Bool.true_or, Bool.or_true, Bool.false_or, Bool.or_false, decide_true, decide_false, beq_self_eq_true, if_true, if_false, Nat.reduceBEq, Nat.reduceLT, Nat.reduceLeDiff, Nat.reduceAdd, Nat.reduceMul, Nat.reduceEqDiff, Int.reduceEq, Int.reduceLT, Int.reduceLE, eq_self, Int.reduceNeg, Option.isSome_some, cutAll2, cutAll3, agg_34, fa_34_0, fa_34_1, agg_3, agg_2, size_34, len_24, len_25, len_44, fa_27_0, fa_27_1, agg_24, agg_25, agg_44, size_27, agg_27, ia_24, agg_46, zero_46, size_46, fa_46_0, fa_46_1, fa_46_2, h3, h1, cB, gB, lB, x1, x2, x3, x4]
      exact ⟨by rw [right, all_nnot hlt (by simp only [nodeOk, x1, x2, x3, x4]; rfl)]; rfl, s1.trans (s2.trans sB)⟩
    simp (config := { maxSteps := 1000000 }) (disch := omega) only [↓sh, ↓reduceIte, sx, nbeq_ne, dle, relo_eq, wrap_i64, cond_true, cond_false, Option.bind_some, Option.bind_none, Option.map_some, Nat.add_zero, Nat.zero_add, List.getElem?_cons_zero, List.getElem?_cons_succ, List.getElem?_nil, List.getElem?_toArray, List.length_cons, List.length_nil, List.drop_zero, List.drop_succ_cons, List.drop_nil, List.take_zero, List.take_succ_cons, List.take_nil, List.append_nil, List.nil_append, List.cons_append, List.all_cons, List.all_nil, true_and, and_true, Bool.not_true, Bool.not_false, Bool.true_and, Bool.and_true, Bool.false_and, Bool.and_false, Bool.true_or, Bool.or_true, Bool.false_or, Bool.or_false, decide_true, decide_false, beq_self_eq_true, if_true, if_false, Nat.reduceBEq, Nat.reduceLT, Nat.reduceLeDiff, Nat.reduceAdd, Nat.reduceMul, Nat.reduceEqDiff, Int.reduceEq, Int.reduceLT, Int.reduceLE, eq_self, Int.reduceNeg, Option.isSome_some, cutAll2, cutAll3, agg_34, fa_34_0, fa_34_1, agg_3, agg_2, size_34, len_24, len_25, len_44, fa_27_0, fa_27_1, agg_24, agg_25, agg_44, size_27, agg_27, ia_24, agg_46, zero_46, size_46, fa_46_0, fa_46_1, fa_46_2, h3, h1, cB, gB, lB, x1, x2, x3, x4]
    refine (sound_ok HB (by omega) _ _ g ⟨_, _, rfl, hna'.mono RNode.mono ((s1.trans s2).trans sB), hra'.mono RVal.mono ((s1.trans s2).trans sB)⟩ g.nodes[i].fields (hf.mono RVal.mono ((s1.trans s2).trans sB))).mono ?_
    rintro r H4 ⟨rfl, s4⟩
    have l4 := s4.lo
    cases x5 : g.nodes[i].fields.all (snd g.nodes.length)
    case false =>
      simp (config := { maxSteps := 1000000 }) (disch := omega) only [↓sh, ↓reduceIte, sx, nbeq_ne, dle, relo_eq, wrap_i64, cond_true, cond_false, Option.bind_some, Option.bind_none, Option.map_some, Nat.add_zero, Nat.zero_add, List.getElem?_cons_zero, List.getElem?_cons_succ, List.getElem?_nil, List.getElem?_toArray, List.length_cons, List.length_nil, List.drop_zero, List.drop_succ_cons, List.drop_nil, List.take_zero, List.take_succ_cons, List.take_nil, List.append_nil, List.nil_append, List.cons_append, List.all_cons, List.all_nil, true_and, and_true, Bool.not_true, Bool.not_false, Bool.true_and, Bool.and_true, Bool.false_and, Bool.and_false, Bool.true_or, Bool.or_true, Bool.false_or, Bool.or_false, decide_true, decide_false, beq_self_eq_true, if_true, if_false, Nat.reduceBEq, Nat.reduceLT, Nat.reduceLeDiff, Nat.reduceAdd, Nat.reduceMul, Nat.reduceEqDiff, Int.reduceEq, Int.reduceLT, Int.reduceLE, eq_self, Int.reduceNeg, Option.isSome_some, cutAll2, cutAll3, agg_34, fa_34_0, fa_34_1, agg_3, agg_2, size_34, len_24, len_25, len_44, fa_27_0, fa_27_1, agg_24, agg_25, agg_44, size_27, agg_27, ia_24, agg_46, zero_46, size_46, fa_46_0, fa_46_1, fa_46_2, h3, h1, l4, lB]
      exact ⟨by rw [right, all_nnot hlt (by simp only [nodeOk, x1, x2, x3, x4, x5]; rfl)]; rfl, s1.trans (s2.trans (sB.trans s4))⟩
    simp (config := { maxSteps := 1000000 }) (disch := omega) only [↓sh, ↓reduceIte, sx, nbeq_ne, dle, relo_eq, wrap_i64, cond_true, cond_false, Option.bind_some, Option.bind_none, Option.map_some, Nat.add_zero, Nat.zero_add, List.getElem?_cons_zero, List.getElem?_cons_succ, List.getElem?_nil, List.getElem?_toArray, List.length_cons, List.length_nil, List.drop_zero, List.drop_succ_cons, List.drop_nil, List.take_zero, List.take_succ_cons, List.take_nil, List.append_nil, List.nil_append, List.cons_append, List.all_cons, List.all_nil, true_and, and_true, Bool.not_true, Bool.not_false, Bool.true_and, Bool.and_true, Bool.false_and, Bool.and_false, Bool.true_or, Bool.or_true, Bool.false_or, Bool.or_false, decide_true, decide_false, beq_self_eq_true, if_true, if_false, Nat.reduceBEq, Nat.reduceLT, Nat.reduceLeDiff, Nat.reduceAdd, Nat.reduceMul, Nat.reduceEqDiff, Int.reduceEq, Int.reduceLT, Int.reduceLE, eq_self, Int.reduceNeg, Option.isSome_some, cutAll2, cutAll3, agg_34, fa_34_0, fa_34_1, agg_3, agg_2, size_34, len_24, len_25, len_44, fa_27_0, fa_27_1, agg_24, agg_25, agg_44, size_27, agg_27, ia_24, agg_46, zero_46, size_46, fa_46_0, fa_46_1, fa_46_2, h3, h1, l4, lB]
    exact ⟨_, by omega, i + 1, rfl, by omega, by simp, s2.trans (sB.trans s4), hnext (by simp only [nodeOk, x1, x2, x3, x4, x5]; rfl)⟩
  · have hd : decide ((i : Int) < (g.nodes.length : Int)) = false := by simpa using hlt
    simp (config := { maxSteps := 1000000 }) (disch := omega) only [↓sh, ↓reduceIte, sx, nbeq_ne, dle, relo_eq, wrap_i64, cond_true, cond_false, Option.bind_some, Option.bind_none, Option.map_some, Nat.add_zero, Nat.zero_add, List.getElem?_cons_zero, List.getElem?_cons_succ, List.getElem?_nil, List.getElem?_toArray, List.length_cons, List.length_nil, List.drop_zero, List.drop_succ_cons, List.drop_nil, List.take_zero, List.take_succ_cons, List.take_nil, List.append_nil, List.nil_append, List.cons_append, List.all_cons, List.all_nil, true_and, and_true, Bool.not_true, Bool.not_false, Bool.true_and, Bool.and_true, Bool.false_and, Bool.and_false, Bool.true_or, Bool.or_true, Bool.false_or, Bool.or_false, decide_true, decide_false, beq_self_eq_true, if_true, if_false, Nat.reduceBEq, Nat.reduceLT, Nat.reduceLeDiff, Nat.reduceAdd, Nat.reduceMul, Nat.reduceEqDiff, Int.reduceEq, Int.reduceLT, Int.reduceLE, eq_self, Int.reduceNeg, Option.isSome_some, cutAll2, cutAll3, agg_34, fa_34_0, fa_34_1, agg_3, agg_2, size_34, len_24, len_25, len_44, fa_27_0, fa_27_1, agg_24, agg_25, agg_44, size_27, agg_27, ia_24, agg_46, zero_46, size_46, fa_46_0, fa_46_1, fa_46_2, h3, h1, c1, hd]
    refine (sound_ok H' (by omega) _ _ g ⟨_, _, rfl, hna'.mono RNode.mono (s1.trans s2), hra'.mono RVal.mono (s1.trans s2)⟩ g.roots (hra'.mono RVal.mono (s1.trans s2))).mono ?_
    rintro r H3 ⟨rfl, s3⟩
    exact ⟨by rw [right, all_ntake hall (by omega)]; rfl, s1.trans (s2.trans s3)⟩
end Go.AM
