/-
  Walks over letters of the functions that the law reaches.
-/
import Derived.Test.YtcickfcjdmolcaaAMc
import Derived.Test.YtcickfcjdmolcaaTy
namespace Go.AM
attribute [local instance] fnMaps
open Go Go.Proofs
set_option maxRecDepth 100000
set_option maxHeartbeats 1000000
set_option linter.unusedSimpArgs false
def fnv (g : Nat) : Value := .func (.func g) #[] #[]

structure Val where
  kind : Int
  x : Int
structure Node where
  kind : Int
  fields : List Val
  raws : List Int
structure Graph where
  nodes : List Node
  roots : List Val

def RVal : Heap → List Value → Val → Prop := fun _ part v => part = [.int .i64 v.kind, .int .i64 v.x]
theorem RVal.mono : Mono RVal := fun _ _ _ _ _ h => h
def RNode : Heap → List Value → Node → Prop := fun H part n => ∃ f r, part = [.int .i64 n.kind, f, r] ∧ SL RVal 2 H f n.fields ∧ SL (RInt .u64) 1 H r n.raws
theorem RNode.mono : Mono RNode := fun _ _ _ _ hs ⟨f, r, h1, h2, h3⟩ => ⟨f, r, h1, h2.ext RVal.mono hs, h3.ext (RInt.mono _) hs⟩
def GraphV (H : Heap) (v : Value) (g : Graph) : Prop := ∃ a b, v = .agg #[a, b] ∧ SL RNode 3 H a g.nodes ∧ SL RVal 2 H b g.roots

theorem vals1 (H : Heap) (a : Val) : Elems RVal 2 H [.int .i64 a.kind, .int .i64 a.x] [a] := Elems.one rfl rfl
theorem vals2 (H : Heap) (a b : Val) : Elems RVal 2 H [.int .i64 a.kind, .int .i64 a.x, .int .i64 b.kind, .int .i64 b.x] [a, b] := Elems.snoc (part := [.int .i64 b.kind, .int .i64 b.x]) (vals1 H a) rfl rfl

/-- what is read of no row of two slices -/
theorem no_val {H : Heap} {a1 a2 : Option Addr} {l1 l2 c1 c2 : Nat} : ∀ o part (y : Val), cut [Value.slice a1 l1 c1, .slice a2 l2 c2] o 2 = some part → RVal H part y → False := by
  intro o part y h1 h2
  obtain ⟨_, h3, h4⟩ := cut_len h1
  have : o = 0 := by simp at h3; omega
  subst this
  rw [h4] at h2
  simp [RVal] at h2
theorem no_int {H : Heap} {k : IntKind} {a1 a2 : Option Addr} {l1 l2 c1 c2 : Nat} : ∀ o part (y : Int), cut [Value.slice a1 l1 c1, .slice a2 l2 c2] o 1 = some part → RInt k H part y → False := by
  intro o part y h1 h2
  obtain ⟨_, h3, h4⟩ := cut_len h1
  have : o = 0 ∨ o = 1 := by simp at h3; omega
  rcases this with rfl | rfl <;> (rw [h4] at h2; simp [RInt] at h2)
theorem node_box {H : Heap} {x : Nat} {c : List Value} {a1 a2 : Option Addr} {l1 l2 c1 c2 : Nat} {part : List Value} {y : Node} (hx : H.objs.get x = some (.row [.slice a1 l1 c1, .slice a2 l2 c2] none true)) (h : RNode H part y) : RNode (H.setRow x c) part y := by
  obtain ⟨f, r, h1, h2, h3⟩ := h
  exact ⟨f, r, h1, h2.setRow hx no_val fun part y h => h, h3.setRow hx no_int fun part y h => h⟩
/-- a graph stays what it is when its result's box is filled -/
theorem graph_box {H : Heap} {x : Nat} {c : List Value} {a b : Value} {g : Graph} {a1 a2 : Option Addr} {l1 l2 c1 c2 : Nat} (hx : H.objs.get x = some (.row [.slice a1 l1 c1, .slice a2 l2 c2] none true)) (ha : SL RNode 3 H a g.nodes) (hb : SL RVal 2 H b g.roots) : SL RNode 3 (H.setRow x c) a g.nodes ∧ SL RVal 2 (H.setRow x c) b g.roots :=
  ⟨ha.setRow hx (fun o part y h1 _ => by obtain ⟨_, h3, _⟩ := cut_len h1; simp at h3) fun part y h => node_box hx h, hb.setRow hx no_val fun part y h => h⟩

theorem fn19 : E.fn.get 19 = some Try.f19 := by kernel_rfl
theorem fn18 : E.fn.get 18 = some Try.f18 := by kernel_rfl
theorem fn6 : E.fn.get 6 = some Try.f6 := by kernel_rfl

theorem ints_same (H : Heap) (va vb : Value) (l : List Int) (ha : SL (RInt .u64) 1 H va l) (hb : SL (RInt .u64) 1 H vb l) : CallA E (fnv 19) [va, vb] H fun v H' => v = .bool true ∧ Same H H' := by
  obtain ⟨a, ca, rfl, ⟨_, hm⟩, ha⟩ := ha
  obtain ⟨b, cb, rfl, _, hb⟩ := hb
  refine callA_fn (by kernel_rfl) fn19 rfl rfl ?_
  simp only [Try.f19]
  simp (config := { maxSteps := 1000000 }) (disch := omega) only [↓sh, ↓reduceIte, sx, nbeq_ne, dle, relo_eq, wrap_i64, cond_true, cond_false, Option.bind_some, Option.bind_none, Option.map_some, Nat.add_zero, Nat.zero_add, List.getElem?_cons_zero, List.getElem?_cons_succ, List.getElem?_nil, List.getElem?_toArray, List.length_cons, List.length_nil, List.drop_zero, List.drop_succ_cons, List.drop_nil, List.take_zero, List.take_succ_cons, List.take_nil, List.append_nil, List.nil_append, List.cons_append, List.all_cons, List.all_nil, true_and, and_true, Bool.not_true, Bool.not_false, Bool.true_and, Bool.and_true, Bool.false_and, Bool.and_false, Bool.true_or, Bool.or_true, Bool.false_or, Bool.or_false, decide_true, decide_false, beq_self_eq_true, if_true, if_false, Nat.reduceBEq, Nat.reduceLT, Nat.reduceLeDiff, Nat.reduceAdd, Nat.reduceMul, Nat.reduceEqDiff, Int.reduceEq, Int.reduceLT, Int.reduceLE, eq_self, Int.reduceNeg, Option.isSome_some, len_44]
  refine wp_loop (by kernel_rfl) (fun n T H' => ∃ i : Nat, n = l.length - i ∧ i ≤ l.length ∧ T.get 5 = some (.int .i64 i) ∧ T.get 0 = some (.slice a l.length ca) ∧ T.get 1 = some (.slice b l.length cb) ∧ H' = H) l.length ?_ ?_
  · exact ⟨0, by omega, by omega, rfl, rfl, rfl, rfl⟩
  · rintro n T H' ⟨i, rfl, hi, h5, h0, h1, rfl⟩
    by_cases hlt : i < l.length
    · have hd : decide ((i : Int) < (l.length : Int)) = true := by simpa using hlt
      obtain ⟨r, o, cells, g, t, part, rfl, hr, hrow, hcut, rfl⟩ := ha i l[i] (by simp [hlt])
      obtain ⟨r', o', cells', g', t', part', rfl, hr', hrow', hcut', rfl⟩ := hb i l[i] (by simp [hlt])
      have hcut := cut1 hcut
      have hcut' := cut1 hcut'
      simp (config := { maxSteps := 1000000 }) (disch := omega) only [↓sh, ↓reduceIte, sx, nbeq_ne, dle, relo_eq, wrap_i64, cond_true, cond_false, Option.bind_some, Option.bind_none, Option.map_some, Nat.add_zero, Nat.zero_add, List.getElem?_cons_zero, List.getElem?_cons_succ, List.getElem?_nil, List.getElem?_toArray, List.length_cons, List.length_nil, List.drop_zero, List.drop_succ_cons, List.drop_nil, List.take_zero, List.take_succ_cons, List.take_nil, List.append_nil, List.nil_append, List.cons_append, List.all_cons, List.all_nil, true_and, and_true, Bool.not_true, Bool.not_false, Bool.true_and, Bool.and_true, Bool.false_and, Bool.and_false, Bool.true_or, Bool.or_true, Bool.false_or, Bool.or_false, decide_true, decide_false, beq_self_eq_true, if_true, if_false, Nat.reduceBEq, Nat.reduceLT, Nat.reduceLeDiff, Nat.reduceAdd, Nat.reduceMul, Nat.reduceEqDiff, Int.reduceEq, Int.reduceLT, Int.reduceLE, eq_self, Int.reduceNeg, Option.isSome_some, len_44, h5, h0, h1, hd]
      refine wps_draw [(false, []), (false, []), (false, []), (false, []), (false, []), (false, []), (false, []), (false, []), (false, [])] (by kernel_rfl) ?_
      simp (config := { maxSteps := 1000000 }) (disch := omega) only [↓sh, ↓reduceIte, sx, nbeq_ne, dle, relo_eq, wrap_i64, cond_true, cond_false, Option.bind_some, Option.bind_none, Option.map_some, Nat.add_zero, Nat.zero_add, List.getElem?_cons_zero, List.getElem?_cons_succ, List.getElem?_nil, List.getElem?_toArray, List.length_cons, List.length_nil, List.drop_zero, List.drop_succ_cons, List.drop_nil, List.take_zero, List.take_succ_cons, List.take_nil, List.append_nil, List.nil_append, List.cons_append, List.all_cons, List.all_nil, true_and, and_true, Bool.not_true, Bool.not_false, Bool.true_and, Bool.and_true, Bool.false_and, Bool.and_false, Bool.true_or, Bool.or_true, Bool.false_or, Bool.or_false, decide_true, decide_false, beq_self_eq_true, if_true, if_false, Nat.reduceBEq, Nat.reduceLT, Nat.reduceLeDiff, Nat.reduceAdd, Nat.reduceMul, Nat.reduceEqDiff, Int.reduceEq, Int.reduceLT, Int.reduceLE, eq_self, Int.reduceNeg, Option.isSome_some, h5, h0, h1, ia_44, agg_40, at_nat hlt, hrow, hrow', hcut, hcut', wrap_i64]
      exact ⟨_, by omega, i + 1, rfl, by omega, by simp⟩
    · have hd : decide ((i : Int) < (l.length : Int)) = false := by simpa using hlt
      simp (config := { maxSteps := 1000000 }) (disch := omega) only [↓sh, ↓reduceIte, sx, nbeq_ne, dle, relo_eq, wrap_i64, cond_true, cond_false, Option.bind_some, Option.bind_none, Option.map_some, Nat.add_zero, Nat.zero_add, List.getElem?_cons_zero, List.getElem?_cons_succ, List.getElem?_nil, List.getElem?_toArray, List.length_cons, List.length_nil, List.drop_zero, List.drop_succ_cons, List.drop_nil, List.take_zero, List.take_succ_cons, List.take_nil, List.append_nil, List.nil_append, List.cons_append, List.all_cons, List.all_nil, true_and, and_true, Bool.not_true, Bool.not_false, Bool.true_and, Bool.and_true, Bool.false_and, Bool.and_false, Bool.true_or, Bool.or_true, Bool.false_or, Bool.or_false, decide_true, decide_false, beq_self_eq_true, if_true, if_false, Nat.reduceBEq, Nat.reduceLT, Nat.reduceLeDiff, Nat.reduceAdd, Nat.reduceMul, Nat.reduceEqDiff, Int.reduceEq, Int.reduceLT, Int.reduceLE, eq_self, Int.reduceNeg, Option.isSome_some, len_44, h5, h0, h1, hd]
      exact Same.refl _
theorem vals_same (H : Heap) (va vb : Value) (l : List Val) (ha : SL RVal 2 H va l) (hb : SL RVal 2 H vb l) : CallA E (fnv 18) [va, vb] H fun v H' => v = .bool true ∧ Same H H' := by
  obtain ⟨a, ca, rfl, ⟨_, hm⟩, ha⟩ := ha
  obtain ⟨b, cb, rfl, _, hb⟩ := hb
  refine callA_fn (by kernel_rfl) fn18 rfl rfl ?_
  simp only [Try.f18]
  simp (config := { maxSteps := 1000000 }) (disch := omega) only [↓sh, ↓reduceIte, sx, nbeq_ne, dle, relo_eq, wrap_i64, cond_true, cond_false, Option.bind_some, Option.bind_none, Option.map_some, Nat.add_zero, Nat.zero_add, List.getElem?_cons_zero, List.getElem?_cons_succ, List.getElem?_nil, List.getElem?_toArray, List.length_cons, List.length_nil, List.drop_zero, List.drop_succ_cons, List.drop_nil, List.take_zero, List.take_succ_cons, List.take_nil, List.append_nil, List.nil_append, List.cons_append, List.all_cons, List.all_nil, true_and, and_true, Bool.not_true, Bool.not_false, Bool.true_and, Bool.and_true, Bool.false_and, Bool.and_false, Bool.true_or, Bool.or_true, Bool.false_or, Bool.or_false, decide_true, decide_false, beq_self_eq_true, if_true, if_false, Nat.reduceBEq, Nat.reduceLT, Nat.reduceLeDiff, Nat.reduceAdd, Nat.reduceMul, Nat.reduceEqDiff, Int.reduceEq, Int.reduceLT, Int.reduceLE, eq_self, Int.reduceNeg, Option.isSome_some, len_25]
  refine wp_loop (by kernel_rfl) (fun n T H' => ∃ i : Nat, n = l.length - i ∧ i ≤ l.length ∧ T.get 5 = some (.int .i64 i) ∧ T.get 0 = some (.slice a l.length ca) ∧ T.get 1 = some (.slice b l.length cb) ∧ H' = H) l.length ?_ ?_
  · exact ⟨0, by omega, by omega, rfl, rfl, rfl, rfl⟩
  · rintro n T H' ⟨i, rfl, hi, h5, h0, h1, rfl⟩
    by_cases hlt : i < l.length
    · have hd : decide ((i : Int) < (l.length : Int)) = true := by simpa using hlt
      obtain ⟨r, o, cells, g, t, part, rfl, hr, hrow, hcut, rfl⟩ := ha i l[i] (by simp [hlt])
      obtain ⟨r', o', cells', g', t', part', rfl, hr', hrow', hcut', rfl⟩ := hb i l[i] (by simp [hlt])
      simp (config := { maxSteps := 1000000 }) (disch := omega) only [↓sh, ↓reduceIte, sx, nbeq_ne, dle, relo_eq, wrap_i64, cond_true, cond_false, Option.bind_some, Option.bind_none, Option.map_some, Nat.add_zero, Nat.zero_add, List.getElem?_cons_zero, List.getElem?_cons_succ, List.getElem?_nil, List.getElem?_toArray, List.length_cons, List.length_nil, List.drop_zero, List.drop_succ_cons, List.drop_nil, List.take_zero, List.take_succ_cons, List.take_nil, List.append_nil, List.nil_append, List.cons_append, List.all_cons, List.all_nil, true_and, and_true, Bool.not_true, Bool.not_false, Bool.true_and, Bool.and_true, Bool.false_and, Bool.and_false, Bool.true_or, Bool.or_true, Bool.false_or, Bool.or_false, decide_true, decide_false, beq_self_eq_true, if_true, if_false, Nat.reduceBEq, Nat.reduceLT, Nat.reduceLeDiff, Nat.reduceAdd, Nat.reduceMul, Nat.reduceEqDiff, Int.reduceEq, Int.reduceLT, Int.reduceLE, eq_self, Int.reduceNeg, Option.isSome_some, len_25, h5, h0, h1, hd]
      refine wps_draw [(false, []), (false, []), (false, []), (false, []), (false, []), (false, []), (false, []), (false, []), (false, [])] (by kernel_rfl) ?_
      simp (config := { maxSteps := 1000000 }) (disch := omega) only [↓sh, ↓reduceIte, sx, nbeq_ne, dle, relo_eq, wrap_i64, cond_true, cond_false, Option.bind_some, Option.bind_none, Option.map_some, Nat.add_zero, Nat.zero_add, List.getElem?_cons_zero, List.getElem?_cons_succ, List.getElem?_nil, List.getElem?_toArray, List.length_cons, List.length_nil, List.drop_zero, List.drop_succ_cons, List.drop_nil, List.take_zero, List.take_succ_cons, List.take_nil, List.append_nil, List.nil_append, List.cons_append, List.all_cons, List.all_nil, true_and, and_true, Bool.not_true, Bool.not_false, Bool.true_and, Bool.and_true, Bool.false_and, Bool.and_false, Bool.true_or, Bool.or_true, Bool.false_or, Bool.or_false, decide_true, decide_false, beq_self_eq_true, if_true, if_false, Nat.reduceBEq, Nat.reduceLT, Nat.reduceLeDiff, Nat.reduceAdd, Nat.reduceMul, Nat.reduceEqDiff, Int.reduceEq, Int.reduceLT, Int.reduceLE, eq_self, Int.reduceNeg, Option.isSome_some, h5, h0, h1, ia_25, agg_34, at_nat hlt, hrow, hrow', hcut, hcut', wrap_i64, bin_agg, eq_34, part_3, part_2, eq_3, eq_2]
      exact ⟨_, by omega, i + 1, rfl, by omega, by simp⟩
    · have hd : decide ((i : Int) < (l.length : Int)) = false := by simpa using hlt
      simp (config := { maxSteps := 1000000 }) (disch := omega) only [↓sh, ↓reduceIte, sx, nbeq_ne, dle, relo_eq, wrap_i64, cond_true, cond_false, Option.bind_some, Option.bind_none, Option.map_some, Nat.add_zero, Nat.zero_add, List.getElem?_cons_zero, List.getElem?_cons_succ, List.getElem?_nil, List.getElem?_toArray, List.length_cons, List.length_nil, List.drop_zero, List.drop_succ_cons, List.drop_nil, List.take_zero, List.take_succ_cons, List.take_nil, List.append_nil, List.nil_append, List.cons_append, List.all_cons, List.all_nil, true_and, and_true, Bool.not_true, Bool.not_false, Bool.true_and, Bool.and_true, Bool.false_and, Bool.and_false, Bool.true_or, Bool.or_true, Bool.false_or, Bool.or_false, decide_true, decide_false, beq_self_eq_true, if_true, if_false, Nat.reduceBEq, Nat.reduceLT, Nat.reduceLeDiff, Nat.reduceAdd, Nat.reduceMul, Nat.reduceEqDiff, Int.reduceEq, Int.reduceLT, Int.reduceLE, eq_self, Int.reduceNeg, Option.isSome_some, len_25, h5, h0, h1, hd]
      exact Same.refl _

theorem graph_same (H : Heap) (hlo : H.lo ≤ H.next) (va vb : Value) (g : Graph) (ha : GraphV H va g) (hb : GraphV H vb g) : CallA E (fnv 6) [va, vb] H fun v H' => v = .bool true ∧ Same H H' := by
  obtain ⟨na, ra, rfl, hna, hra⟩ := ha
  obtain ⟨nb, rb, rfl, hnb, hrb⟩ := hb
  have hna' := hna
  have hnb' := hnb
  obtain ⟨a, ca, rfl, ⟨_, hm⟩, hna⟩ := hna
  obtain ⟨b, cb, rfl, _, hnb⟩ := hnb
  refine callA_fn (by kernel_rfl) fn6 rfl rfl ?_
  simp only [Try.f6]
  simp (config := { maxSteps := 1000000 }) (disch := omega) only [↓sh, ↓reduceIte, sx, nbeq_ne, dle, relo_eq, wrap_i64, cond_true, cond_false, Option.bind_some, Option.bind_none, Option.map_some, Nat.add_zero, Nat.zero_add, List.getElem?_cons_zero, List.getElem?_cons_succ, List.getElem?_nil, List.getElem?_toArray, List.length_cons, List.length_nil, List.drop_zero, List.drop_succ_cons, List.drop_nil, List.take_zero, List.take_succ_cons, List.take_nil, List.append_nil, List.nil_append, List.cons_append, List.all_cons, List.all_nil, true_and, and_true, Bool.not_true, Bool.not_false, Bool.true_and, Bool.and_true, Bool.false_and, Bool.and_false, Bool.true_or, Bool.or_true, Bool.false_or, Bool.or_false, decide_true, decide_false, beq_self_eq_true, if_true, if_false, Nat.reduceBEq, Nat.reduceLT, Nat.reduceLeDiff, Nat.reduceAdd, Nat.reduceMul, Nat.reduceEqDiff, Int.reduceEq, Int.reduceLT, Int.reduceLE, eq_self, Int.reduceNeg, Option.isSome_some, len_24, fa_27_0, fa_27_1, agg_24, agg_25, nbeq_ne]
  refine named ((H.newRow [Value.slice a g.nodes.length ca, ra]).newRow [Value.slice b g.nodes.length cb, rb]) (fun H2 e2 => ?_)
  have n2 : H2.next = H.next + 1 + 1 := by simp only [e2, newRow_next]
  have b1 : H2.objs.get H.next = some (.row [Value.slice a g.nodes.length ca, ra] none true) := by simp (disch := omega) only [e2, newRow_get, newRow_next, nbeq_ne, cond_false, beq_self_eq_true, cond_true]
  have b2 : H2.objs.get (H.next + 1) = some (.row [Value.slice b g.nodes.length cb, rb] none true) := by simp (disch := omega) only [e2, newRow_get, newRow_next, nbeq_ne, cond_false, beq_self_eq_true, cond_true]
  have s2 : Same H H2 := by rw [e2]; exact (same_newRow _).newRow _
  rw [← e2]
  refine (vals_same _ _ _ g.roots (hra.mono RVal.mono s2) (hrb.mono RVal.mono s2)).mono ?_
  rintro v H3 ⟨rfl, s3⟩
  simp (config := { maxSteps := 1000000 }) (disch := omega) only [↓sh, ↓reduceIte, sx, nbeq_ne, dle, relo_eq, wrap_i64, cond_true, cond_false, Option.bind_some, Option.bind_none, Option.map_some, Nat.add_zero, Nat.zero_add, List.getElem?_cons_zero, List.getElem?_cons_succ, List.getElem?_nil, List.getElem?_toArray, List.length_cons, List.length_nil, List.drop_zero, List.drop_succ_cons, List.drop_nil, List.take_zero, List.take_succ_cons, List.take_nil, List.append_nil, List.nil_append, List.cons_append, List.all_cons, List.all_nil, true_and, and_true, Bool.not_true, Bool.not_false, Bool.true_and, Bool.and_true, Bool.false_and, Bool.and_false, Bool.true_or, Bool.or_true, Bool.false_or, Bool.or_false, decide_true, decide_false, beq_self_eq_true, if_true, if_false, Nat.reduceBEq, Nat.reduceLT, Nat.reduceLeDiff, Nat.reduceAdd, Nat.reduceMul, Nat.reduceEqDiff, Int.reduceEq, Int.reduceLT, Int.reduceLE, eq_self, Int.reduceNeg, Option.isSome_some]
  refine wp_loop (by kernel_rfl) (fun n T H' => ∃ i : Nat, n = g.nodes.length - i ∧ i ≤ g.nodes.length ∧ T.get 5 = some (.int .i64 i) ∧ T.get 2 = some (ptr H.next 0) ∧ T.get 3 = some (ptr (H.next + 1) 0) ∧ Same H2 H') g.nodes.length ?_ ?_
  · exact ⟨0, by omega, by omega, rfl, rfl, rfl, s3⟩
  · rintro n T H' ⟨i, rfl, hi, h5, h2, h3, s⟩
    have c1 := s.keeps (by omega) b1
    have c2 := s.keeps (by omega) b2
    have hn := s.nxt
    by_cases hlt : i < g.nodes.length
    · have hd : decide ((i : Int) < (g.nodes.length : Int)) = true := by simpa using hlt
      obtain ⟨r, o, cells, gg, t, part, rfl, hr, hrow, hcut, f, w, rfl, hf, hw⟩ := hna i g.nodes[i] (by simp [hlt])
      obtain ⟨r', o', cells', gg', t', part', rfl, hr', hrow', hcut', f', w', rfl, hf', hw'⟩ := hnb i g.nodes[i] (by simp [hlt])
      have hrow := (s2.trans s).keeps hr hrow
      have hrow' := (s2.trans s).keeps hr' hrow'
      simp (config := { maxSteps := 1000000 }) (disch := omega) only [↓sh, ↓reduceIte, sx, nbeq_ne, dle, relo_eq, wrap_i64, cond_true, cond_false, Option.bind_some, Option.bind_none, Option.map_some, Nat.add_zero, Nat.zero_add, List.getElem?_cons_zero, List.getElem?_cons_succ, List.getElem?_nil, List.getElem?_toArray, List.length_cons, List.length_nil, List.drop_zero, List.drop_succ_cons, List.drop_nil, List.take_zero, List.take_succ_cons, List.take_nil, List.append_nil, List.nil_append, List.cons_append, List.all_cons, List.all_nil, true_and, and_true, Bool.not_true, Bool.not_false, Bool.true_and, Bool.and_true, Bool.false_and, Bool.and_false, Bool.true_or, Bool.or_true, Bool.false_or, Bool.or_false, decide_true, decide_false, beq_self_eq_true, if_true, if_false, Nat.reduceBEq, Nat.reduceLT, Nat.reduceLeDiff, Nat.reduceAdd, Nat.reduceMul, Nat.reduceEqDiff, Int.reduceEq, Int.reduceLT, Int.reduceLE, eq_self, Int.reduceNeg, Option.isSome_some, len_24, fa_27_0, agg_24, h5, h2, h3, c1, c2, hd]
      refine wps_draw [(false, []), (false, []), (false, []), (false, []), (false, []), (false, []), (false, []), (false, []), (false, []), (false, []), (false, []), (false, []), (false, [6, 9]), (false, [])] (by kernel_rfl) ?_
      have l1 := (s2.trans s).lo
      simp (config := { maxSteps := 1000000 }) (disch := omega) only [↓sh, ↓reduceIte, sx, nbeq_ne, dle, relo_eq, wrap_i64, cond_true, cond_false, Option.bind_some, Option.bind_none, Option.map_some, Nat.add_zero, Nat.zero_add, List.getElem?_cons_zero, List.getElem?_cons_succ, List.getElem?_nil, List.getElem?_toArray, List.length_cons, List.length_nil, List.drop_zero, List.drop_succ_cons, List.drop_nil, List.take_zero, List.take_succ_cons, List.take_nil, List.append_nil, List.nil_append, List.cons_append, List.all_cons, List.all_nil, true_and, and_true, Bool.not_true, Bool.not_false, Bool.true_and, Bool.and_true, Bool.false_and, Bool.and_false, Bool.true_or, Bool.or_true, Bool.false_or, Bool.or_false, decide_true, decide_false, beq_self_eq_true, if_true, if_false, Nat.reduceBEq, Nat.reduceLT, Nat.reduceLeDiff, Nat.reduceAdd, Nat.reduceMul, Nat.reduceEqDiff, Int.reduceEq, Int.reduceLT, Int.reduceLE, eq_self, Int.reduceNeg, Option.isSome_some, fa_27_0, agg_24, h5, h2, h3, c1, c2, ia_24, agg_46, at_nat hlt, hrow, hrow', hcut, hcut', zero_46, size_46, hf.cell, hf'.cell, hw.cell, hw'.cell, fa_46_0, fa_46_1, fa_46_2, agg_3, agg_25, agg_44]
      refine (vals_same _ _ _ g.nodes[i].fields (hf.mono RVal.mono ((s2.trans s).trans ((((same_newRow _).newRow _).setRow (by omega) _).setRow (by omega) _))) (hf'.mono RVal.mono ((s2.trans s).trans ((((same_newRow _).newRow _).setRow (by omega) _).setRow (by omega) _)))).mono ?_
      rintro v H5 ⟨rfl, s5⟩
      have o5 := s5.objs
      have n5 := s5.nxt
      have l5 := s5.lo
      simp only [newRow_next, setRow_next, newRow_lo, setRow_lo] at o5 n5 l5
      simp (config := { maxSteps := 1000000 }) (disch := omega) only [↓sh, ↓reduceIte, sx, nbeq_ne, dle, relo_eq, wrap_i64, cond_true, cond_false, Option.bind_some, Option.bind_none, Option.map_some, Nat.add_zero, Nat.zero_add, List.getElem?_cons_zero, List.getElem?_cons_succ, List.getElem?_nil, List.getElem?_toArray, List.length_cons, List.length_nil, List.drop_zero, List.drop_succ_cons, List.drop_nil, List.take_zero, List.take_succ_cons, List.take_nil, List.append_nil, List.nil_append, List.cons_append, List.all_cons, List.all_nil, true_and, and_true, Bool.not_true, Bool.not_false, Bool.true_and, Bool.and_true, Bool.false_and, Bool.and_false, Bool.true_or, Bool.or_true, Bool.false_or, Bool.or_false, decide_true, decide_false, beq_self_eq_true, if_true, if_false, Nat.reduceBEq, Nat.reduceLT, Nat.reduceLeDiff, Nat.reduceAdd, Nat.reduceMul, Nat.reduceEqDiff, Int.reduceEq, Int.reduceLT, Int.reduceLE, eq_self, Int.reduceNeg, Option.isSome_some, o5, l5, fa_46_2, agg_44]
      refine (ints_same _ _ _ g.nodes[i].raws (hw.mono (RInt.mono _) ((s2.trans s).trans (((((same_newRow _).newRow _).setRow (by omega) _).setRow (by omega) _).trans s5))) (hw'.mono (RInt.mono _) ((s2.trans s).trans (((((same_newRow _).newRow _).setRow (by omega) _).setRow (by omega) _).trans s5)))).mono ?_
      rintro v H6 ⟨rfl, s6⟩
      simp (config := { maxSteps := 1000000 }) (disch := omega) only [↓sh, ↓reduceIte, sx, nbeq_ne, dle, relo_eq, wrap_i64, cond_true, cond_false, Option.bind_some, Option.bind_none, Option.map_some, Nat.add_zero, Nat.zero_add, List.getElem?_cons_zero, List.getElem?_cons_succ, List.getElem?_nil, List.getElem?_toArray, List.length_cons, List.length_nil, List.drop_zero, List.drop_succ_cons, List.drop_nil, List.take_zero, List.take_succ_cons, List.take_nil, List.append_nil, List.nil_append, List.cons_append, List.all_cons, List.all_nil, true_and, and_true, Bool.not_true, Bool.not_false, Bool.true_and, Bool.and_true, Bool.false_and, Bool.and_false, Bool.true_or, Bool.or_true, Bool.false_or, Bool.or_false, decide_true, decide_false, beq_self_eq_true, if_true, if_false, Nat.reduceBEq, Nat.reduceLT, Nat.reduceLeDiff, Nat.reduceAdd, Nat.reduceMul, Nat.reduceEqDiff, Int.reduceEq, Int.reduceLT, Int.reduceLE, eq_self, Int.reduceNeg, Option.isSome_some, h5]
      exact ⟨_, by omega, i + 1, rfl, by omega, by simp, h2, h3, s.trans (((((same_newRow _).newRow _).setRow (by omega) _).setRow (by omega) _).trans (s5.trans s6))⟩
    · have hd : decide ((i : Int) < (g.nodes.length : Int)) = false := by simpa using hlt
      simp (config := { maxSteps := 1000000 }) (disch := omega) only [↓sh, ↓reduceIte, sx, nbeq_ne, dle, relo_eq, wrap_i64, cond_true, cond_false, Option.bind_some, Option.bind_none, Option.map_some, Nat.add_zero, Nat.zero_add, List.getElem?_cons_zero, List.getElem?_cons_succ, List.getElem?_nil, List.getElem?_toArray, List.length_cons, List.length_nil, List.drop_zero, List.drop_succ_cons, List.drop_nil, List.take_zero, List.take_succ_cons, List.take_nil, List.append_nil, List.nil_append, List.cons_append, List.all_cons, List.all_nil, true_and, and_true, Bool.not_true, Bool.not_false, Bool.true_and, Bool.and_true, Bool.false_and, Bool.and_false, Bool.true_or, Bool.or_true, Bool.false_or, Bool.or_false, decide_true, decide_false, beq_self_eq_true, if_true, if_false, Nat.reduceBEq, Nat.reduceLT, Nat.reduceLeDiff, Nat.reduceAdd, Nat.reduceMul, Nat.reduceEqDiff, Int.reduceEq, Int.reduceLT, Int.reduceLE, eq_self, Int.reduceNeg, Option.isSome_some, len_24, fa_27_0, agg_24, h5, h2, h3, c1, c2, hd]
      exact s2.trans s
end Go.AM
