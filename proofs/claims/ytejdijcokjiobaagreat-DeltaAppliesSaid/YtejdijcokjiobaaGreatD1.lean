/-
  Walks over letters of the functions that the law reaches.
-/
import Derived.Test.YtejdijcokjiobaaGreatAMc
import Derived.Test.YtejdijcokjiobaaGreatTy
namespace Go.AM
attribute [local instance] fnMaps
open Go Go.Proofs
set_option maxRecDepth 100000
set_option maxHeartbeats 1000000
set_option linter.unusedSimpArgs false

structure Cfg where
  semi : Int
  large : Int
  slots : Int
  limit : Int
structure Span where
  at' : Int
  size : Int
structure Slot where
  used : Bool
  gen : Int
  word : Int
structure State where
  cfg : Cfg
  second : Bool
  words : List Int
  top : Int
  table : List Span
  free : List Span
  slots : List Slot
def RSpan : Heap → List Value → Span → Prop := fun _ part x => part = [.int .i64 x.at', .int .i64 x.size]
theorem RSpan.mono : Mono RSpan := fun _ _ _ _ _ h => h
def RSlot : Heap → List Value → Slot → Prop := fun _ part x => part = [.bool x.used, .int .i64 x.gen, .int .u64 x.word]
theorem RSlot.mono : Mono RSlot := fun _ _ _ _ _ h => h
/-- a slice, its row there also when it is empty -/
def SLr {α : Type} (R : Heap → List Value → α → Prop) (z : Nat) (H : Heap) (v : Value) (l : List α) : Prop := SL R z H v l ∧ Rowed H v
theorem SLr.mono {α : Type} {R : Heap → List Value → α → Prop} (hR : Mono R) {z : Nat} {H H' : Heap} {v : Value} {l : List α} (hs : Same H H') (h : SLr R z H v l) : SLr R z H' v l := ⟨h.1.mono hR hs, h.2.same hs⟩
theorem Rowed.ext {H H' : Heap} {v : Value} (h : Rowed H v) (hs : Ext H H') : Rowed H' v := by
  intro a l c e
  rcases h a l c e with h | ⟨r, cells, g, t, h1, h2, h3⟩
  · exact .inl h
  · obtain ⟨t', h4⟩ := hs.rows _ _ _ _ h2 h3
    exact .inr ⟨r, cells, g, t', h1, Nat.lt_of_lt_of_le h2 hs.nxt, h4⟩
theorem SLr.ext {α : Type} {R : Heap → List Value → α → Prop} (hR : Mono R) {z : Nat} {H H' : Heap} {v : Value} {l : List α} (h : SLr R z H v l) (hs : Ext H H') : SLr R z H' v l := ⟨h.1.ext hR hs, h.2.ext hs⟩
theorem OwnG.rowed {b z n : Nat} {H : Heap} {v : Value} {cs : List Value} (h : OwnG b z H v n cs) : Rowed H v := by
  obtain ⟨_, r, g, old, rfl, h1, h2, h3, _⟩ := h
  intro a l c e
  simp only [Value.slice.injEq] at e
  exact .inr ⟨_, _, _, _, e.1.symm, h2, h3⟩
theorem Own.rowed {b z n : Nat} {H : Heap} {v : Value} {cs : List Value} (h : Own b z H v n cs) : Rowed H v := by
  obtain ⟨_, ⟨rfl, _⟩ | ⟨r, rfl, h1, h2, h3⟩⟩ := h
  · intro a l c e
    simp only [Value.slice.injEq] at e
    exact .inl e.1.symm
  · intro a l c e
    simp only [Value.slice.injEq] at e
    rcases h3 with h3 | ⟨g, old, h3, _⟩
    · exact .inr ⟨_, _, _, _, e.1.symm, h2, h3⟩
    · exact .inr ⟨_, _, _, _, e.1.symm, h2, h3⟩
theorem OwnG.since {b z n : Nat} {H : Heap} {v : Value} {cs : List Value} (h : OwnG b z H v n cs) : ∀ a l c, v = .slice a l c → a = none ∨ ∃ r, a = some ⟨r, 0, none⟩ ∧ b ≤ r := by
  obtain ⟨_, r, g, old, rfl, h1, h2, h3, _⟩ := h
  intro a l c e
  simp only [Value.slice.injEq] at e
  exact .inr ⟨_, e.1.symm, h1⟩
theorem Own.since {b z n : Nat} {H : Heap} {v : Value} {cs : List Value} (h : Own b z H v n cs) : ∀ a l c, v = .slice a l c → a = none ∨ ∃ r, a = some ⟨r, 0, none⟩ ∧ b ≤ r := by
  obtain ⟨_, ⟨rfl, _⟩ | ⟨r, rfl, h1, h2, h3⟩⟩ := h
  · intro a l c e
    simp only [Value.slice.injEq] at e
    exact .inl e.1.symm
  · intro a l c e
    simp only [Value.slice.injEq] at e
    exact .inr ⟨_, e.1.symm, h1⟩
/-- a slice of flat elements, its row made since b -/
def SLn {α : Type} (R : Heap → List Value → α → Prop) (b z : Nat) (H : Heap) (v : Value) (l : List α) : Prop := SLr R z H v l ∧ ∀ a l c, v = .slice a l c → a = none ∨ ∃ r, a = some ⟨r, 0, none⟩ ∧ b ≤ r
theorem SLn.nil {α : Type} {R : Heap → List Value → α → Prop} {b z : Nat} {H : Heap} : SLn R b z H (.slice none 0 0) [] :=
  ⟨⟨SL.nil _ _ _, fun a l c e => by simp only [Value.slice.injEq] at e; exact .inl e.1.symm⟩, fun a l c e => by simp only [Value.slice.injEq] at e; exact .inl e.1.symm⟩
theorem SLn.mono {α : Type} {R : Heap → List Value → α → Prop} (hR : Mono R) {b z : Nat} {H H' : Heap} {v : Value} {l : List α} (hs : Same H H') (h : SLn R b z H v l) : SLn R b z H' v l := ⟨h.1.mono hR hs, h.2⟩
theorem SLn.weak {α : Type} {R : Heap → List Value → α → Prop} {b b' z : Nat} {H : Heap} {v : Value} {l : List α} (hb : b' ≤ b) (h : SLn R b z H v l) : SLn R b' z H v l := ⟨h.1, fun a l c e => (h.2 a l c e).imp id fun ⟨r, h1, h2⟩ => ⟨r, h1, Nat.le_trans hb h2⟩⟩
/-- what is below b may change -/
theorem SLn.above {α : Type} {R : Heap → List Value → α → Prop} {b z : Nat} {H H' : Heap} {v : Value} {l : List α} (h : SLn R b z H v l) (hR : ∀ part x, R H part x → R H' part x) (hn : H.next ≤ H'.next) (hs : ∀ x, b ≤ x → x < H.next → H'.objs.get x = H.objs.get x) : SLn R b z H' v l := by
  obtain ⟨⟨⟨a, cap, rfl, hl, h1⟩, h2⟩, h3⟩ := h
  refine ⟨⟨⟨a, cap, rfl, hl, fun i y hi => ?_⟩, fun a' l' c' e => ?_⟩, h3⟩
  · obtain ⟨r, o, cells, g, t, part, rfl, k1, k2, k3, k4⟩ := h1 i y hi
    rcases h3 _ _ _ rfl with e | ⟨r', e, hr⟩
    · cases e
    · simp only [Option.some.injEq, Addr.mk.injEq, and_true] at e
      obtain ⟨rfl, rfl⟩ := e
      exact ⟨_, _, cells, g, t, part, rfl, by omega, by rw [hs _ hr k1]; exact k2, k3, hR _ _ k4⟩
  · rcases h2 a' l' c' e with e' | ⟨r, cells, g, t, e1, k1, k2⟩
    · exact .inl e'
    · rcases h3 a' l' c' e with e' | ⟨r', e', hr⟩
      · exact .inl e'
      · rw [e1] at e'
        simp only [Option.some.injEq, Addr.mk.injEq, and_true] at e'
        subst e'
        exact .inr ⟨_, cells, g, t, e1, by omega, by rw [hs _ hr k1]; exact k2⟩
theorem SLn.setRow {α : Type} {R : Heap → List Value → α → Prop} {b z x : Nat} {H : Heap} {v : Value} {l : List α} {c : List Value} (h : SLn R b z H v l) (hR : ∀ part x', R H part x' → R (H.setRow x c) part x') (hx : x < b) : SLn R b z (H.setRow x c) v l :=
  h.above hR (Nat.le_refl _) fun y hy _ => by rw [setRow_get, nbeq_ne (by omega)]; rfl
def stateCells (s : State) (w t f sl : Value) : List Value := [.int .i64 s.cfg.semi, .int .i64 s.cfg.large, .int .i64 s.cfg.slots, .int .i64 s.cfg.limit, .bool s.second, w, .int .i64 s.top, t, f, sl]
/-- what a state's slices are -/
def StS (H : Heap) (s : State) (w t f sl : Value) : Prop := SLr (RInt .u64) 1 H w s.words ∧ SLr RSpan 2 H t s.table ∧ SLr RSpan 2 H f s.free ∧ SLr RSlot 3 H sl s.slots
theorem StS.mono {H H' : Heap} {s : State} {w t f sl : Value} (h : StS H s w t f sl) (hs : Same H H') : StS H' s w t f sl := ⟨h.1.mono (RInt.mono _) hs, h.2.1.mono RSpan.mono hs, h.2.2.1.mono RSpan.mono hs, h.2.2.2.mono RSlot.mono hs⟩
def StV (H : Heap) (v : Value) (s : State) : Prop := ∃ w t f sl, v = .agg (stateCells s w t f sl).toArray ∧ StS H s w t f sl
theorem StV.mono {H H' : Heap} {v : Value} {s : State} (h : StV H v s) (hs : Same H H') : StV H' v s := by
  obtain ⟨w, t, f, sl, e, h⟩ := h
  exact ⟨w, t, f, sl, e, h.mono hs⟩
theorem cutAll10 (a b c d e f g h i j : Value) : cut [a, b, c, d, e, f, g, h, i, j] 0 10 = some [a, b, c, d, e, f, g, h, i, j] := Eq.trans (cut_eq _ _ _) rfl
theorem cutFirst4 (a b c d : Value) (l : List Value) : cut (a :: b :: c :: d :: l) 0 4 = some [a, b, c, d] := by rw [cut_eq, if_pos (by simp)]; rfl

theorem fn12 : E.fn.get 12 = some Tryz.f12 := by kernel_rfl
theorem words_same (H : Heap) (va vb : Value) (l : List Int) (ha : SL (RInt .u64) 1 H va l) (hb : SL (RInt .u64) 1 H vb l) : CallA E (fnv 12) [va, vb] H fun v H' => v = .bool true ∧ H' = H := by
  obtain ⟨a, ca, rfl, ⟨_, hm⟩, ha⟩ := ha
  obtain ⟨b, cb, rfl, _, hb⟩ := hb
  refine callA_fn (by kernel_rfl) fn12 rfl rfl ?_
  simp only [Tryz.f12]
  simp (config := { maxSteps := 1000000 }) (disch := omega) only [↓sh, ↓reduceIte, sx, nbeq_ne, dle, relo_eq, wrap_i64, cond_true, cond_false, Option.bind_some, Option.bind_none, Option.map_some, Nat.add_zero, Nat.zero_add, List.getElem?_cons_zero, List.getElem?_cons_succ, List.getElem?_nil, List.getElem?_toArray, List.length_cons, List.length_nil, List.drop_zero, List.drop_succ_cons, List.drop_nil, List.take_zero, List.take_succ_cons, List.take_nil, List.append_nil, List.nil_append, List.cons_append, List.all_cons, List.all_nil, true_and, and_true, Bool.not_true, Bool.not_false, Bool.true_and, Bool.and_true, Bool.false_and, Bool.and_false, Bool.true_or, Bool.or_true, Bool.false_or, Bool.or_false, decide_true, decide_false, beq_self_eq_true, if_true, if_false, Nat.reduceBEq, Nat.reduceLT, Nat.reduceLeDiff, Nat.reduceAdd, Nat.reduceMul, Nat.reduceEqDiff, Int.reduceEq, Int.reduceLT, Int.reduceLE, eq_self, Int.reduceNeg, Option.isSome_some, len_24]
  refine wp_loop (by kernel_rfl) (fun n T H' => ∃ i : Nat, n = l.length - i ∧ i ≤ l.length ∧ T.get 5 = some (.int .i64 i) ∧ T.get 0 = some (.slice a l.length ca) ∧ T.get 1 = some (.slice b l.length cb) ∧ H' = H) l.length ?_ ?_
  · exact ⟨0, by omega, by omega, rfl, rfl, rfl, rfl⟩
  · rintro n T H' ⟨i, rfl, hi, h5, h0, h1, rfl⟩
    by_cases hlt : i < l.length
    · have hd : decide ((i : Int) < (l.length : Int)) = true := by simpa using hlt
      obtain ⟨r, o, cells, g, t, part, rfl, hr, hrow, hcut, rfl⟩ := ha i l[i] (by simp [hlt])
      obtain ⟨r', o', cells', g', t', part', rfl, hr', hrow', hcut', rfl⟩ := hb i l[i] (by simp [hlt])
      have hcut := cut1 hcut
      have hcut' := cut1 hcut'
      simp (config := { maxSteps := 1000000 }) (disch := omega) only [↓sh, ↓reduceIte, sx, nbeq_ne, dle, relo_eq, wrap_i64, cond_true, cond_false, Option.bind_some, Option.bind_none, Option.map_some, Nat.add_zero, Nat.zero_add, List.getElem?_cons_zero, List.getElem?_cons_succ, List.getElem?_nil, List.getElem?_toArray, List.length_cons, List.length_nil, List.drop_zero, List.drop_succ_cons, List.drop_nil, List.take_zero, List.take_succ_cons, List.take_nil, List.append_nil, List.nil_append, List.cons_append, List.all_cons, List.all_nil, true_and, and_true, Bool.not_true, Bool.not_false, Bool.true_and, Bool.and_true, Bool.false_and, Bool.and_false, Bool.true_or, Bool.or_true, Bool.false_or, Bool.or_false, decide_true, decide_false, beq_self_eq_true, if_true, if_false, Nat.reduceBEq, Nat.reduceLT, Nat.reduceLeDiff, Nat.reduceAdd, Nat.reduceMul, Nat.reduceEqDiff, Int.reduceEq, Int.reduceLT, Int.reduceLE, eq_self, Int.reduceNeg, Option.isSome_some, len_24, h5, h0, h1, hd]
      refine wps_draw [(false, []), (false, []), (false, []), (false, []), (false, []), (false, []), (false, []), (false, []), (false, [])] (by kernel_rfl) ?_
      simp (config := { maxSteps := 1000000 }) (disch := omega) only [↓sh, ↓reduceIte, sx, nbeq_ne, dle, relo_eq, wrap_i64, cond_true, cond_false, Option.bind_some, Option.bind_none, Option.map_some, Nat.add_zero, Nat.zero_add, List.getElem?_cons_zero, List.getElem?_cons_succ, List.getElem?_nil, List.getElem?_toArray, List.length_cons, List.length_nil, List.drop_zero, List.drop_succ_cons, List.drop_nil, List.take_zero, List.take_succ_cons, List.take_nil, List.append_nil, List.nil_append, List.cons_append, List.all_cons, List.all_nil, true_and, and_true, Bool.not_true, Bool.not_false, Bool.true_and, Bool.and_true, Bool.false_and, Bool.and_false, Bool.true_or, Bool.or_true, Bool.false_or, Bool.or_false, decide_true, decide_false, beq_self_eq_true, if_true, if_false, Nat.reduceBEq, Nat.reduceLT, Nat.reduceLeDiff, Nat.reduceAdd, Nat.reduceMul, Nat.reduceEqDiff, Int.reduceEq, Int.reduceLT, Int.reduceLE, eq_self, Int.reduceNeg, Option.isSome_some, h5, h0, h1, ia_24, agg_41, at_nat hlt, hrow, hrow', hcut, hcut', wrap_i64, beq_self_eq_true]
      exact ⟨_, by omega, i + 1, rfl, by omega, by simp⟩
    · have hd : decide ((i : Int) < (l.length : Int)) = false := by simpa using hlt
      simp (config := { maxSteps := 1000000 }) (disch := omega) only [↓sh, ↓reduceIte, sx, nbeq_ne, dle, relo_eq, wrap_i64, cond_true, cond_false, Option.bind_some, Option.bind_none, Option.map_some, Nat.add_zero, Nat.zero_add, List.getElem?_cons_zero, List.getElem?_cons_succ, List.getElem?_nil, List.getElem?_toArray, List.length_cons, List.length_nil, List.drop_zero, List.drop_succ_cons, List.drop_nil, List.take_zero, List.take_succ_cons, List.take_nil, List.append_nil, List.nil_append, List.cons_append, List.all_cons, List.all_nil, true_and, and_true, Bool.not_true, Bool.not_false, Bool.true_and, Bool.and_true, Bool.false_and, Bool.and_false, Bool.true_or, Bool.or_true, Bool.false_or, Bool.or_false, decide_true, decide_false, beq_self_eq_true, if_true, if_false, Nat.reduceBEq, Nat.reduceLT, Nat.reduceLeDiff, Nat.reduceAdd, Nat.reduceMul, Nat.reduceEqDiff, Int.reduceEq, Int.reduceLT, Int.reduceLE, eq_self, Int.reduceNeg, Option.isSome_some, len_24, h5, h0, h1, hd]
theorem fn14 : E.fn.get 14 = some Tryz.f14 := by kernel_rfl
theorem spans_same (H : Heap) (va vb : Value) (l : List Span) (ha : SL RSpan 2 H va l) (hb : SL RSpan 2 H vb l) : CallA E (fnv 14) [va, vb] H fun v H' => v = .bool true ∧ H' = H := by
  obtain ⟨a, ca, rfl, ⟨_, hm⟩, ha⟩ := ha
  obtain ⟨b, cb, rfl, _, hb⟩ := hb
  refine callA_fn (by kernel_rfl) fn14 rfl rfl ?_
  simp only [Tryz.f14]
  simp (config := { maxSteps := 1000000 }) (disch := omega) only [↓sh, ↓reduceIte, sx, nbeq_ne, dle, relo_eq, wrap_i64, cond_true, cond_false, Option.bind_some, Option.bind_none, Option.map_some, Nat.add_zero, Nat.zero_add, List.getElem?_cons_zero, List.getElem?_cons_succ, List.getElem?_nil, List.getElem?_toArray, List.length_cons, List.length_nil, List.drop_zero, List.drop_succ_cons, List.drop_nil, List.take_zero, List.take_succ_cons, List.take_nil, List.append_nil, List.nil_append, List.cons_append, List.all_cons, List.all_nil, true_and, and_true, Bool.not_true, Bool.not_false, Bool.true_and, Bool.and_true, Bool.false_and, Bool.and_false, Bool.true_or, Bool.or_true, Bool.false_or, Bool.or_false, decide_true, decide_false, beq_self_eq_true, if_true, if_false, Nat.reduceBEq, Nat.reduceLT, Nat.reduceLeDiff, Nat.reduceAdd, Nat.reduceMul, Nat.reduceEqDiff, Int.reduceEq, Int.reduceLT, Int.reduceLE, eq_self, Int.reduceNeg, Option.isSome_some, len_25]
  refine wp_loop (by kernel_rfl) (fun n T H' => ∃ i : Nat, n = l.length - i ∧ i ≤ l.length ∧ T.get 5 = some (.int .i64 i) ∧ T.get 0 = some (.slice a l.length ca) ∧ T.get 1 = some (.slice b l.length cb) ∧ H' = H) l.length ?_ ?_
  · exact ⟨0, by omega, by omega, rfl, rfl, rfl, rfl⟩
  · rintro n T H' ⟨i, rfl, hi, h5, h0, h1, rfl⟩
    by_cases hlt : i < l.length
    · have hd : decide ((i : Int) < (l.length : Int)) = true := by simpa using hlt
      obtain ⟨r, o, cells, g, t, part, rfl, hr, hrow, hcut, rfl⟩ := ha i l[i] (by simp [hlt])
      obtain ⟨r', o', cells', g', t', part', rfl, hr', hrow', hcut', rfl⟩ := hb i l[i] (by simp [hlt])
      simp (config := { maxSteps := 1000000 }) (disch := omega) only [↓sh, ↓reduceIte, sx, nbeq_ne, dle, relo_eq, wrap_i64, cond_true, cond_false, Option.bind_some, Option.bind_none, Option.map_some, Nat.add_zero, Nat.zero_add, List.getElem?_cons_zero, List.getElem?_cons_succ, List.getElem?_nil, List.getElem?_toArray, List.length_cons, List.length_nil, List.drop_zero, List.drop_succ_cons, List.drop_nil, List.take_zero, List.take_succ_cons, List.take_nil, List.append_nil, List.nil_append, List.cons_append, List.all_cons, List.all_nil, true_and, and_true, Bool.not_true, Bool.not_false, Bool.true_and, Bool.and_true, Bool.false_and, Bool.and_false, Bool.true_or, Bool.or_true, Bool.false_or, Bool.or_false, decide_true, decide_false, beq_self_eq_true, if_true, if_false, Nat.reduceBEq, Nat.reduceLT, Nat.reduceLeDiff, Nat.reduceAdd, Nat.reduceMul, Nat.reduceEqDiff, Int.reduceEq, Int.reduceLT, Int.reduceLE, eq_self, Int.reduceNeg, Option.isSome_some, len_25, h5, h0, h1, hd]
      refine wps_draw [(false, []), (false, []), (false, []), (false, []), (false, []), (false, []), (false, []), (false, []), (false, [])] (by kernel_rfl) ?_
      simp (config := { maxSteps := 1000000 }) (disch := omega) only [↓sh, ↓reduceIte, sx, nbeq_ne, dle, relo_eq, wrap_i64, cond_true, cond_false, Option.bind_some, Option.bind_none, Option.map_some, Nat.add_zero, Nat.zero_add, List.getElem?_cons_zero, List.getElem?_cons_succ, List.getElem?_nil, List.getElem?_toArray, List.length_cons, List.length_nil, List.drop_zero, List.drop_succ_cons, List.drop_nil, List.take_zero, List.take_succ_cons, List.take_nil, List.append_nil, List.nil_append, List.cons_append, List.all_cons, List.all_nil, true_and, and_true, Bool.not_true, Bool.not_false, Bool.true_and, Bool.and_true, Bool.false_and, Bool.and_false, Bool.true_or, Bool.or_true, Bool.false_or, Bool.or_false, decide_true, decide_false, beq_self_eq_true, if_true, if_false, Nat.reduceBEq, Nat.reduceLT, Nat.reduceLeDiff, Nat.reduceAdd, Nat.reduceMul, Nat.reduceEqDiff, Int.reduceEq, Int.reduceLT, Int.reduceLE, eq_self, Int.reduceNeg, Option.isSome_some, h5, h0, h1, ia_25, agg_65, at_nat hlt, hrow, hrow', hcut, hcut', wrap_i64, bin_agg, eq_65, part_3, eq_3]
      exact ⟨_, by omega, i + 1, rfl, by omega, by simp⟩
    · have hd : decide ((i : Int) < (l.length : Int)) = false := by simpa using hlt
      simp (config := { maxSteps := 1000000 }) (disch := omega) only [↓sh, ↓reduceIte, sx, nbeq_ne, dle, relo_eq, wrap_i64, cond_true, cond_false, Option.bind_some, Option.bind_none, Option.map_some, Nat.add_zero, Nat.zero_add, List.getElem?_cons_zero, List.getElem?_cons_succ, List.getElem?_nil, List.getElem?_toArray, List.length_cons, List.length_nil, List.drop_zero, List.drop_succ_cons, List.drop_nil, List.take_zero, List.take_succ_cons, List.take_nil, List.append_nil, List.nil_append, List.cons_append, List.all_cons, List.all_nil, true_and, and_true, Bool.not_true, Bool.not_false, Bool.true_and, Bool.and_true, Bool.false_and, Bool.and_false, Bool.true_or, Bool.or_true, Bool.false_or, Bool.or_false, decide_true, decide_false, beq_self_eq_true, if_true, if_false, Nat.reduceBEq, Nat.reduceLT, Nat.reduceLeDiff, Nat.reduceAdd, Nat.reduceMul, Nat.reduceEqDiff, Int.reduceEq, Int.reduceLT, Int.reduceLE, eq_self, Int.reduceNeg, Option.isSome_some, len_25, h5, h0, h1, hd]
theorem fn15 : E.fn.get 15 = some Tryz.f15 := by kernel_rfl
theorem slots_same (H : Heap) (va vb : Value) (l : List Slot) (ha : SL RSlot 3 H va l) (hb : SL RSlot 3 H vb l) : CallA E (fnv 15) [va, vb] H fun v H' => v = .bool true ∧ H' = H := by
  obtain ⟨a, ca, rfl, ⟨_, hm⟩, ha⟩ := ha
  obtain ⟨b, cb, rfl, _, hb⟩ := hb
  refine callA_fn (by kernel_rfl) fn15 rfl rfl ?_
  simp only [Tryz.f15]
  simp (config := { maxSteps := 1000000 }) (disch := omega) only [↓sh, ↓reduceIte, sx, nbeq_ne, dle, relo_eq, wrap_i64, cond_true, cond_false, Option.bind_some, Option.bind_none, Option.map_some, Nat.add_zero, Nat.zero_add, List.getElem?_cons_zero, List.getElem?_cons_succ, List.getElem?_nil, List.getElem?_toArray, List.length_cons, List.length_nil, List.drop_zero, List.drop_succ_cons, List.drop_nil, List.take_zero, List.take_succ_cons, List.take_nil, List.append_nil, List.nil_append, List.cons_append, List.all_cons, List.all_nil, true_and, and_true, Bool.not_true, Bool.not_false, Bool.true_and, Bool.and_true, Bool.false_and, Bool.and_false, Bool.true_or, Bool.or_true, Bool.false_or, Bool.or_false, decide_true, decide_false, beq_self_eq_true, if_true, if_false, Nat.reduceBEq, Nat.reduceLT, Nat.reduceLeDiff, Nat.reduceAdd, Nat.reduceMul, Nat.reduceEqDiff, Int.reduceEq, Int.reduceLT, Int.reduceLE, eq_self, Int.reduceNeg, Option.isSome_some, len_26]
  refine wp_loop (by kernel_rfl) (fun n T H' => ∃ i : Nat, n = l.length - i ∧ i ≤ l.length ∧ T.get 5 = some (.int .i64 i) ∧ T.get 0 = some (.slice a l.length ca) ∧ T.get 1 = some (.slice b l.length cb) ∧ H' = H) l.length ?_ ?_
  · exact ⟨0, by omega, by omega, rfl, rfl, rfl, rfl⟩
  · rintro n T H' ⟨i, rfl, hi, h5, h0, h1, rfl⟩
    by_cases hlt : i < l.length
    · have hd : decide ((i : Int) < (l.length : Int)) = true := by simpa using hlt
      obtain ⟨r, o, cells, g, t, part, rfl, hr, hrow, hcut, rfl⟩ := ha i l[i] (by simp [hlt])
      obtain ⟨r', o', cells', g', t', part', rfl, hr', hrow', hcut', rfl⟩ := hb i l[i] (by simp [hlt])
      simp (config := { maxSteps := 1000000 }) (disch := omega) only [↓sh, ↓reduceIte, sx, nbeq_ne, dle, relo_eq, wrap_i64, cond_true, cond_false, Option.bind_some, Option.bind_none, Option.map_some, Nat.add_zero, Nat.zero_add, List.getElem?_cons_zero, List.getElem?_cons_succ, List.getElem?_nil, List.getElem?_toArray, List.length_cons, List.length_nil, List.drop_zero, List.drop_succ_cons, List.drop_nil, List.take_zero, List.take_succ_cons, List.take_nil, List.append_nil, List.nil_append, List.cons_append, List.all_cons, List.all_nil, true_and, and_true, Bool.not_true, Bool.not_false, Bool.true_and, Bool.and_true, Bool.false_and, Bool.and_false, Bool.true_or, Bool.or_true, Bool.false_or, Bool.or_false, decide_true, decide_false, beq_self_eq_true, if_true, if_false, Nat.reduceBEq, Nat.reduceLT, Nat.reduceLeDiff, Nat.reduceAdd, Nat.reduceMul, Nat.reduceEqDiff, Int.reduceEq, Int.reduceLT, Int.reduceLE, eq_self, Int.reduceNeg, Option.isSome_some, len_26, h5, h0, h1, hd]
      refine wps_draw [(false, []), (false, []), (false, []), (false, []), (false, []), (false, []), (false, []), (false, []), (false, [])] (by kernel_rfl) ?_
      simp (config := { maxSteps := 1000000 }) (disch := omega) only [↓sh, ↓reduceIte, sx, nbeq_ne, dle, relo_eq, wrap_i64, cond_true, cond_false, Option.bind_some, Option.bind_none, Option.map_some, Nat.add_zero, Nat.zero_add, List.getElem?_cons_zero, List.getElem?_cons_succ, List.getElem?_nil, List.getElem?_toArray, List.length_cons, List.length_nil, List.drop_zero, List.drop_succ_cons, List.drop_nil, List.take_zero, List.take_succ_cons, List.take_nil, List.append_nil, List.nil_append, List.cons_append, List.all_cons, List.all_nil, true_and, and_true, Bool.not_true, Bool.not_false, Bool.true_and, Bool.and_true, Bool.false_and, Bool.and_false, Bool.true_or, Bool.or_true, Bool.false_or, Bool.or_false, decide_true, decide_false, beq_self_eq_true, if_true, if_false, Nat.reduceBEq, Nat.reduceLT, Nat.reduceLeDiff, Nat.reduceAdd, Nat.reduceMul, Nat.reduceEqDiff, Int.reduceEq, Int.reduceLT, Int.reduceLE, eq_self, Int.reduceNeg, Option.isSome_some, h5, h0, h1, ia_26, agg_68, at_nat hlt, hrow, hrow', hcut, hcut', wrap_i64, bin_agg, eq_68, part_3, part_4, part_41, eq_3, eq_4, eq_41]
      exact ⟨_, by omega, i + 1, rfl, by omega, by simp⟩
    · have hd : decide ((i : Int) < (l.length : Int)) = false := by simpa using hlt
      simp (config := { maxSteps := 1000000 }) (disch := omega) only [↓sh, ↓reduceIte, sx, nbeq_ne, dle, relo_eq, wrap_i64, cond_true, cond_false, Option.bind_some, Option.bind_none, Option.map_some, Nat.add_zero, Nat.zero_add, List.getElem?_cons_zero, List.getElem?_cons_succ, List.getElem?_nil, List.getElem?_toArray, List.length_cons, List.length_nil, List.drop_zero, List.drop_succ_cons, List.drop_nil, List.take_zero, List.take_succ_cons, List.take_nil, List.append_nil, List.nil_append, List.cons_append, List.all_cons, List.all_nil, true_and, and_true, Bool.not_true, Bool.not_false, Bool.true_and, Bool.and_true, Bool.false_and, Bool.and_false, Bool.true_or, Bool.or_true, Bool.false_or, Bool.or_false, decide_true, decide_false, beq_self_eq_true, if_true, if_false, Nat.reduceBEq, Nat.reduceLT, Nat.reduceLeDiff, Nat.reduceAdd, Nat.reduceMul, Nat.reduceEqDiff, Int.reduceEq, Int.reduceLT, Int.reduceLE, eq_self, Int.reduceNeg, Option.isSome_some, len_26, h5, h0, h1, hd]
theorem fn22 : E.fn.get 22 = some Tryz.f22 := by kernel_rfl
theorem isnil_25 (d : Nat) (a : Addr) (n c n' c' : Nat) : eqV E (d + 1) 25 (.slice (some a) n c) (.slice none n' c') = some false := by kernel_rfl
theorem spans_clone (H : Heap) (hlo : H.lo ≤ H.next) (v : Value) (l : List Span) (hv : SLr RSpan 2 H v l) (hl : l.length ≤ 100000) : CallA E (fnv 22) [v] H fun r H' => SLn RSpan H.next 2 H' r l ∧ Same H H' := by
  obtain ⟨hs, hr⟩ := hv
  have hs0 := hs
  obtain ⟨a, ca, rfl, ⟨_, hm⟩, _⟩ := hs
  refine callA_fn (by kernel_rfl) fn22 rfl rfl ?_
  simp only [Tryz.f22]
  cases a with
  | none =>
    have e : l = [] := by
      obtain ⟨a, c, e, _, h⟩ := hs0
      simp only [Value.slice.injEq] at e
      cases l with
      | nil => rfl
      | cons x l => obtain ⟨r, o, _, _, _, _, h0, _⟩ := h 0 x rfl; rw [h0] at e; cases e.1
    subst e
    simp (config := { maxSteps := 1000000 }) (disch := omega) only [↓sh, ↓reduceIte, sx, nbeq_ne, dle, relo_eq, wrap_i64, cond_true, cond_false, Option.bind_some, Option.bind_none, Option.map_some, Nat.add_zero, Nat.zero_add, List.getElem?_cons_zero, List.getElem?_cons_succ, List.getElem?_nil, List.getElem?_toArray, List.length_cons, List.length_nil, List.drop_zero, List.drop_succ_cons, List.drop_nil, List.take_zero, List.take_succ_cons, List.take_nil, List.append_nil, List.nil_append, List.cons_append, List.all_cons, List.all_nil, true_and, and_true, Bool.not_true, Bool.not_false, Bool.true_and, Bool.and_true, Bool.false_and, Bool.and_false, Bool.true_or, Bool.or_true, Bool.false_or, Bool.or_false, decide_true, decide_false, beq_self_eq_true, if_true, if_false, Nat.reduceBEq, Nat.reduceLT, Nat.reduceLeDiff, Nat.reduceAdd, Nat.reduceMul, Nat.reduceEqDiff, Int.reduceEq, Int.reduceLT, Int.reduceLE, eq_self, Int.reduceNeg, Option.isSome_some, bin_sl, eqnil_25, Option.isNone_none]
    exact ⟨SLn.nil, Same.refl _⟩
  | some a =>
    have sN : Same H (H.newRow []) := same_newRow _
    obtain ⟨a', c', cs, eR, hrd, heR⟩ := (hs0.mono RSpan.mono sN).reading (hr.same sN)
    simp only [Value.slice.injEq, true_and] at eR
    obtain ⟨rfl, rfl⟩ := eR
    have hcs := heR.1
    have hrow0 : (H.newRow []).objs.get H.next = some (.row [] none true) := by simp (disch := omega) only [setRow_get, newRow_get, newRow_next, setRow_next, newRow_lo, setRow_lo, newRow_grps, setRow_grps, newRow_relo, setRow_relo, relo_objs, relo_next, relo_lo, nbeq_ne, cond_false, cond_true, beq_self_eq_true]
    have dN := same_low (b := H.next) sN (Nat.le_refl _)
    have key : ∃ t1 H3, appendT 2 16 (H.newRow []) (.slice (some ⟨H.next, 0, none⟩) 0 0) l.length cs = some (t1, H3) ∧ SLn RSpan H.next 2 H3 t1 l ∧ Down H.next H H3 := by
      by_cases h0 : l.length = 0
      · have e : l = [] := List.eq_nil_of_length_eq_zero h0
        subst e
        have : cs = [] := List.eq_nil_of_length_eq_zero (by simpa using hcs)
        subst this
        refine ⟨_, _, rfl, ⟨⟨⟨_, _, rfl, ⟨Nat.le_refl _, by simp⟩, fun i x h => by simp at h⟩, fun a l c e => ?_⟩, fun a l c e => ?_⟩, dN⟩
        · simp only [Value.slice.injEq] at e
          exact .inr ⟨_, _, _, _, e.1.symm, by simp (disch := omega) only [setRow_get, newRow_get, newRow_next, setRow_next, newRow_lo, setRow_lo, newRow_grps, setRow_grps, newRow_relo, setRow_relo, relo_objs, relo_next, relo_lo, nbeq_ne, cond_false, cond_true, beq_self_eq_true]; omega, hrow0⟩
        · simp only [Value.slice.injEq] at e
          exact .inr ⟨_, e.1.symm, Nat.le_refl _⟩
      · obtain ⟨t1, H3, k1, k2, k3⟩ := app_alone (b := H.next) (z := 2) (bytes := 16) (n := 0) (k := l.length) (new := cs) hrow0 rfl (by simp (disch := omega) only [setRow_get, newRow_get, newRow_next, setRow_next, newRow_lo, setRow_lo, newRow_grps, setRow_grps, newRow_relo, setRow_relo, relo_objs, relo_next, relo_lo, nbeq_ne, cond_false, cond_true, beq_self_eq_true]; omega) h0 hcs (by simp [growOk, beq_dec, ble_dec]; omega)
        rw [List.nil_append, Nat.zero_add] at k2
        exact ⟨t1, H3, k1, ⟨⟨k2.own.reads rfl hm ⟨heR.1, fun i x hi => let ⟨p, q1, q2⟩ := heR.2 i x hi; ⟨p, q1, q2⟩⟩, k2.rowed⟩, k2.since⟩, dN.trans k3⟩
    obtain ⟨t1, H3, hap, hS, hD⟩ := key
    simp (config := { maxSteps := 1000000 }) (disch := omega) only [↓sh, ↓reduceIte, sx, nbeq_ne, dle, relo_eq, wrap_i64, cond_true, cond_false, Option.bind_some, Option.bind_none, Option.map_some, Nat.add_zero, Nat.zero_add, List.getElem?_cons_zero, List.getElem?_cons_succ, List.getElem?_nil, List.getElem?_toArray, List.length_cons, List.length_nil, List.drop_zero, List.drop_succ_cons, List.drop_nil, List.take_zero, List.take_succ_cons, List.take_nil, List.append_nil, List.nil_append, List.cons_append, List.all_cons, List.all_nil, true_and, and_true, Bool.not_true, Bool.not_false, Bool.true_and, Bool.and_true, Bool.false_and, Bool.and_false, Bool.true_or, Bool.or_true, Bool.false_or, Bool.or_false, decide_true, decide_false, beq_self_eq_true, if_true, if_false, Nat.reduceBEq, Nat.reduceLT, Nat.reduceLeDiff, Nat.reduceAdd, Nat.reduceMul, Nat.reduceEqDiff, Int.reduceEq, Int.reduceLT, Int.reduceLE, eq_self, Int.reduceNeg, Option.isSome_some, bin_sl, isnil_25, bs_25, ble_dec, repeat_zero, app_25, appT_25, hrd, hap]
    exact ⟨hS, hD.same (Same.refl _) (Nat.le_refl _)⟩
theorem fn23 : E.fn.get 23 = some Tryz.f23 := by kernel_rfl
theorem isnil_26 (d : Nat) (a : Addr) (n c n' c' : Nat) : eqV E (d + 1) 26 (.slice (some a) n c) (.slice none n' c') = some false := by kernel_rfl
theorem slots_clone (H : Heap) (hlo : H.lo ≤ H.next) (v : Value) (l : List Slot) (hv : SLr RSlot 3 H v l) (hl : l.length ≤ 100000) : CallA E (fnv 23) [v] H fun r H' => SLn RSlot H.next 3 H' r l ∧ Same H H' := by
  obtain ⟨hs, hr⟩ := hv
  have hs0 := hs
  obtain ⟨a, ca, rfl, ⟨_, hm⟩, _⟩ := hs
  refine callA_fn (by kernel_rfl) fn23 rfl rfl ?_
  simp only [Tryz.f23]
  cases a with
  | none =>
    have e : l = [] := by
      obtain ⟨a, c, e, _, h⟩ := hs0
      simp only [Value.slice.injEq] at e
      cases l with
      | nil => rfl
      | cons x l => obtain ⟨r, o, _, _, _, _, h0, _⟩ := h 0 x rfl; rw [h0] at e; cases e.1
    subst e
    simp (config := { maxSteps := 1000000 }) (disch := omega) only [↓sh, ↓reduceIte, sx, nbeq_ne, dle, relo_eq, wrap_i64, cond_true, cond_false, Option.bind_some, Option.bind_none, Option.map_some, Nat.add_zero, Nat.zero_add, List.getElem?_cons_zero, List.getElem?_cons_succ, List.getElem?_nil, List.getElem?_toArray, List.length_cons, List.length_nil, List.drop_zero, List.drop_succ_cons, List.drop_nil, List.take_zero, List.take_succ_cons, List.take_nil, List.append_nil, List.nil_append, List.cons_append, List.all_cons, List.all_nil, true_and, and_true, Bool.not_true, Bool.not_false, Bool.true_and, Bool.and_true, Bool.false_and, Bool.and_false, Bool.true_or, Bool.or_true, Bool.false_or, Bool.or_false, decide_true, decide_false, beq_self_eq_true, if_true, if_false, Nat.reduceBEq, Nat.reduceLT, Nat.reduceLeDiff, Nat.reduceAdd, Nat.reduceMul, Nat.reduceEqDiff, Int.reduceEq, Int.reduceLT, Int.reduceLE, eq_self, Int.reduceNeg, Option.isSome_some, bin_sl, eqnil_26, Option.isNone_none]
    exact ⟨SLn.nil, Same.refl _⟩
  | some a =>
    have sN : Same H (H.newRow []) := same_newRow _
    obtain ⟨a', c', cs, eR, hrd, heR⟩ := (hs0.mono RSlot.mono sN).reading (hr.same sN)
    simp only [Value.slice.injEq, true_and] at eR
    obtain ⟨rfl, rfl⟩ := eR
    have hcs := heR.1
    have hrow0 : (H.newRow []).objs.get H.next = some (.row [] none true) := by simp (disch := omega) only [setRow_get, newRow_get, newRow_next, setRow_next, newRow_lo, setRow_lo, newRow_grps, setRow_grps, newRow_relo, setRow_relo, relo_objs, relo_next, relo_lo, nbeq_ne, cond_false, cond_true, beq_self_eq_true]
    have dN := same_low (b := H.next) sN (Nat.le_refl _)
    have key : ∃ t1 H3, appendT 3 24 (H.newRow []) (.slice (some ⟨H.next, 0, none⟩) 0 0) l.length cs = some (t1, H3) ∧ SLn RSlot H.next 3 H3 t1 l ∧ Down H.next H H3 := by
      by_cases h0 : l.length = 0
      · have e : l = [] := List.eq_nil_of_length_eq_zero h0
        subst e
        have : cs = [] := List.eq_nil_of_length_eq_zero (by simpa using hcs)
        subst this
        refine ⟨_, _, rfl, ⟨⟨⟨_, _, rfl, ⟨Nat.le_refl _, by simp⟩, fun i x h => by simp at h⟩, fun a l c e => ?_⟩, fun a l c e => ?_⟩, dN⟩
        · simp only [Value.slice.injEq] at e
          exact .inr ⟨_, _, _, _, e.1.symm, by simp (disch := omega) only [setRow_get, newRow_get, newRow_next, setRow_next, newRow_lo, setRow_lo, newRow_grps, setRow_grps, newRow_relo, setRow_relo, relo_objs, relo_next, relo_lo, nbeq_ne, cond_false, cond_true, beq_self_eq_true]; omega, hrow0⟩
        · simp only [Value.slice.injEq] at e
          exact .inr ⟨_, e.1.symm, Nat.le_refl _⟩
      · obtain ⟨t1, H3, k1, k2, k3⟩ := app_alone (b := H.next) (z := 3) (bytes := 24) (n := 0) (k := l.length) (new := cs) hrow0 rfl (by simp (disch := omega) only [setRow_get, newRow_get, newRow_next, setRow_next, newRow_lo, setRow_lo, newRow_grps, setRow_grps, newRow_relo, setRow_relo, relo_objs, relo_next, relo_lo, nbeq_ne, cond_false, cond_true, beq_self_eq_true]; omega) h0 hcs (by simp [growOk, beq_dec, ble_dec]; omega)
        rw [List.nil_append, Nat.zero_add] at k2
        exact ⟨t1, H3, k1, ⟨⟨k2.own.reads rfl hm ⟨heR.1, fun i x hi => let ⟨p, q1, q2⟩ := heR.2 i x hi; ⟨p, q1, q2⟩⟩, k2.rowed⟩, k2.since⟩, dN.trans k3⟩
    obtain ⟨t1, H3, hap, hS, hD⟩ := key
    simp (config := { maxSteps := 1000000 }) (disch := omega) only [↓sh, ↓reduceIte, sx, nbeq_ne, dle, relo_eq, wrap_i64, cond_true, cond_false, Option.bind_some, Option.bind_none, Option.map_some, Nat.add_zero, Nat.zero_add, List.getElem?_cons_zero, List.getElem?_cons_succ, List.getElem?_nil, List.getElem?_toArray, List.length_cons, List.length_nil, List.drop_zero, List.drop_succ_cons, List.drop_nil, List.take_zero, List.take_succ_cons, List.take_nil, List.append_nil, List.nil_append, List.cons_append, List.all_cons, List.all_nil, true_and, and_true, Bool.not_true, Bool.not_false, Bool.true_and, Bool.and_true, Bool.false_and, Bool.and_false, Bool.true_or, Bool.or_true, Bool.false_or, Bool.or_false, decide_true, decide_false, beq_self_eq_true, if_true, if_false, Nat.reduceBEq, Nat.reduceLT, Nat.reduceLeDiff, Nat.reduceAdd, Nat.reduceMul, Nat.reduceEqDiff, Int.reduceEq, Int.reduceLT, Int.reduceLE, eq_self, Int.reduceNeg, Option.isSome_some, bin_sl, isnil_26, bs_26, ble_dec, repeat_zero, app_26, appT_26, hrd, hap]
    exact ⟨hS, hD.same (Same.refl _) (Nat.le_refl _)⟩
end Go.AM
