/-
  Walks over letters of the functions that the law reaches.
-/
import Derived.Test.YtejdijcokjiobaaGreatD3
namespace Go.AM
attribute [local instance] fnMaps
open Go Go.Proofs
set_option maxRecDepth 100000
set_option maxHeartbeats 1000000
set_option linter.unusedSimpArgs false
structure Del where
  cfg : Cfg
  second : Bool
  top : Int
  len : Int
  words : List (Int × Int)
  table : List Span
  free : List Span
  slots : List Slot
def RChg : Heap → List Value → (Int × Int) → Prop := fun _ part x => part = [.int .i64 x.1, .int .u64 x.2]
theorem RChg.mono : Mono RChg := fun _ _ _ _ _ h => h
def delCells (d : Del) (w t f sl : Value) : List Value := [.int .i64 d.cfg.semi, .int .i64 d.cfg.large, .int .i64 d.cfg.slots, .int .i64 d.cfg.limit, .bool d.second, .int .i64 d.top, .int .i64 d.len, w, t, f, sl]
def DelS (H : Heap) (d : Del) (w t f sl : Value) : Prop := SLr RChg 2 H w d.words ∧ SLr RSpan 2 H t d.table ∧ SLr RSpan 2 H f d.free ∧ SLr RSlot 3 H sl d.slots
def DelV (H : Heap) (v : Value) (d : Del) : Prop := ∃ w t f sl, v = .agg (delCells d w t f sl).toArray ∧ DelS H d w t f sl
theorem DelS.mono {H H' : Heap} {d : Del} {w t f sl : Value} (h : DelS H d w t f sl) (hs : Same H H') : DelS H' d w t f sl := ⟨h.1.mono RChg.mono hs, h.2.1.mono RSpan.mono hs, h.2.2.1.mono RSpan.mono hs, h.2.2.2.mono RSlot.mono hs⟩
theorem DelV.mono {H H' : Heap} {v : Value} {d : Del} (h : DelV H v d) (hs : Same H H') : DelV H' v d := by
  obtain ⟨w, t, f, sl, e, h⟩ := h
  exact ⟨w, t, f, sl, e, h.mono hs⟩
theorem DelS.lit {H : Heap} {s : Del} {w t f sl : Value} (h : DelS H s w t f sl) : ∃ wa wc ta tc fa fc sa sc, w = .slice wa s.words.length wc ∧ t = .slice ta s.table.length tc ∧ f = .slice fa s.free.length fc ∧ sl = .slice sa s.slots.length sc := by
  obtain ⟨⟨⟨wa, wc, rfl, _⟩, _⟩, ⟨⟨ta, tc, rfl, _⟩, _⟩, ⟨⟨fa, fc, rfl, _⟩, _⟩, ⟨⟨sa, sc, rfl, _⟩, _⟩⟩ := h
  exact ⟨_, _, _, _, _, _, _, _, rfl, rfl, rfl, rfl⟩
theorem callA_named {E : Env} {y : Value} {args : List Value} {H : Heap} {K : Value → Heap → Prop} (h : ∀ H1, H1 = H → CallA E y args H1 K) : CallA E y args H K := h H rfl
theorem wps_named {E : Env} {sz : Nat} {c : Code} {T : Tr Value} {mk : List Nat} {ro : Option Nat} {H : Heap} {Q : Ex → Tr Value → List Nat → Heap → Prop} (h : ∀ T1, T1 = T → WPS E sz c T1 mk ro H Q) : WPS E sz c T mk ro H Q := h T rfl

/-- all is as it was but for two rows -/
structure Keep2 (p q : Nat) (H H' : Heap) : Prop where
  lo : H'.lo = H.lo
  nxt : H.next ≤ H'.next
  objs : ∀ x, x < H.next → x ≠ p → x ≠ q → H'.objs.get x = H.objs.get x
  grps : ∀ x, x < H.next → H'.grps.get x = H.grps.get x
theorem Keep2.refl (p q : Nat) (H : Heap) : Keep2 p q H H := ⟨rfl, Nat.le_refl _, fun _ _ _ _ => rfl, fun _ _ => rfl⟩
theorem Keep2.same {p q : Nat} {H H' H'' : Heap} (h : Keep2 p q H H') (s : Same H' H'') : Keep2 p q H H'' :=
  ⟨s.lo.trans h.lo, Nat.le_trans h.nxt s.nxt, fun x hx h1 h2 => (s.objs x (Nat.lt_of_lt_of_le hx h.nxt)).trans (h.objs x hx h1 h2), fun x hx => (s.grps x (Nat.lt_of_lt_of_le hx h.nxt)).trans (h.grps x hx)⟩
theorem Keep2.setP {p q : Nat} {H H' : Heap} (h : Keep2 p q H H') (c : List Value) : Keep2 p q H (H'.setRow p c) :=
  ⟨h.lo, h.nxt, fun x hx h1 h2 => by rw [setRow_get, nbeq_ne h1]; exact h.objs x hx h1 h2, h.grps⟩
theorem Keep2.setQ {p q : Nat} {H H' : Heap} (h : Keep2 p q H H') (o : AObj) : Keep2 p q H (H'.setObj q o) :=
  ⟨by rw [setO_lo]; exact h.lo, by rw [setO_next]; exact h.nxt, fun x hx h1 h2 => by rw [setO_get, nbeq_ne h2]; exact h.objs x hx h1 h2, fun x hx => by rw [setO_grps]; exact h.grps x hx⟩
theorem Keep2.grown {p q b : Nat} {H H' H'' : Heap} (h : Keep2 p q H H') (hg : Grown b H' H'') (hb : H.next ≤ b) : Keep2 p q H H'' :=
  ⟨hg.lo.trans h.lo, Nat.le_trans h.nxt hg.nxt, fun x hx h1 h2 => ((hg.below x (by omega)).1).trans (h.objs x hx h1 h2), fun x hx => ((hg.below x (by omega)).2).trans (h.grps x hx)⟩
theorem Keep2.out {p q : Nat} {H0 H H' : Heap} (h0 : Same H0 H) (hp : H0.next ≤ p) (hq : H0.next ≤ q) (h : Keep2 p q H H') : Same H0 H' :=
  ⟨h.lo.trans h0.lo, Nat.le_trans h0.nxt h.nxt, fun x hx => (h.objs x (Nat.lt_of_lt_of_le hx h0.nxt) (by omega) (by omega)).trans (h0.objs x hx), fun x hx => (h.grps x (Nat.lt_of_lt_of_le hx h0.nxt)).trans (h0.grps x hx)⟩
theorem Keep2.get {p q x : Nat} {H H' : Heap} {o : AObj} (h : Keep2 p q H H') (hx : x < H.next) (h1 : x ≠ p) (h2 : x ≠ q) (ho : H.objs.get x = some o) : H'.objs.get x = some o := by rw [h.objs x hx h1 h2, ho]
theorem Own.setO {b z n l : Nat} {H : Heap} {v : Value} {cs : List Value} (h : Own b z H v n cs) (hl : l < b) (o : AObj) : Own b z (H.setObj l o) v n cs := by
  rcases h with ⟨hc, h | ⟨r, h0, h1, h2, h3⟩⟩
  · exact ⟨hc, .inl h⟩
  · refine ⟨hc, .inr ⟨r, h0, h1, by rw [setO_next]; exact h2, ?_⟩⟩
    rcases h3 with h3 | ⟨g, old, h3, h4, h5, h6⟩
    · exact .inl (by rw [setO_get, nbeq_ne (by omega)]; exact h3)
    · exact .inr ⟨g, old, by rw [setO_get, nbeq_ne (by omega)]; exact h3, h4, by rw [setO_next]; exact h5, by rw [setO_grps]; exact h6⟩
theorem Same.step {X2 X3 X4 : Heap} {n : Nat} (h : Same X2 (X3.relo X2.lo)) (h' : Same (X3.relo n) X4) : Same X2 (X4.relo X2.lo) :=
  ⟨rfl, Nat.le_trans h.nxt h'.nxt, fun x hx => (h'.objs x (Nat.lt_of_lt_of_le hx h.nxt)).trans (h.objs x hx), fun x hx => (h'.grps x (Nat.lt_of_lt_of_le hx h.nxt)).trans (h.grps x hx)⟩
theorem ext_relo {X2 X3 : Heap} {k : Nat} (h : Ext X2 (X3.relo k)) (n : Nat) : Ext X2 (X3.relo n) := ⟨h.nxt, h.rows⟩
theorem SLn.lit {α : Type} {R : Heap → List Value → α → Prop} {b z : Nat} {H : Heap} {v : Value} {l : List α} (h : SLn R b z H v l) : ∃ a c, v = .slice a l.length c := by
  obtain ⟨⟨⟨a, c, e, _⟩, _⟩, _⟩ := h
  exact ⟨a, c, e⟩
theorem SLn.relo {α : Type} {R : Heap → List Value → α → Prop} (hR : Mono R) {b z : Nat} {X : Heap} {v : Value} {l : List α} (h : SLn R b z X v l) (n : Nat) : SLn R b z (X.relo n) v l := ⟨h.1.ext hR ⟨Nat.le_refl _, fun _ _ _ t _ h => ⟨t, h⟩⟩, h.2⟩
def chgI (x : Nat × Int) : Int × Int := (x.1, x.2)

theorem of_ok (H : Heap) (hlo : H.lo ≤ H.next) (va vb : Value) (a b : State) (ha : StV H va a) (hb : StV H vb b) (hw : b.words.length ≤ 400) (ht : b.table.length ≤ 400) (hf : b.free.length ≤ 400) (hsl : b.slots.length ≤ 400) : CallA E (fnv 7) [va, vb] H fun r H' => DelV H' r ⟨b.cfg, b.second, b.top, b.words.length, (chgList a.words 0 b.words).map chgI, b.table, b.free, b.slots⟩ ∧ Same H H' := by
  obtain ⟨w, t, f, sl, rfl, hA⟩ := ha
  obtain ⟨wa, wc, ta, tc, fa, fc, sa, sc, rfl, rfl, rfl, rfl⟩ := hA.lit
  obtain ⟨w, t, f, sl, rfl, hB⟩ := hb
  obtain ⟨wb, wd, tb, td, fb, fd, sb, sd, rfl, rfl, rfl, rfl⟩ := hB.lit
  have hma : a.words.length ≤ 9223372036854775807 := by obtain ⟨⟨⟨_, _, _, ⟨_, h⟩, _⟩, _⟩, _⟩ := hA; exact h
  refine callA_marks (by kernel_rfl) fn7 rfl rfl ?_
  simp only [Tryz.f7, stateCells]
  simp (config := { maxSteps := 1000000 }) (disch := omega) only [↓sh, ↓reduceIte, sx, nbeq_ne, dle, relo_eq, wrap_i64, cond_true, cond_false, Option.bind_some, Option.bind_none, Option.map_some, Nat.add_zero, Nat.zero_add, List.getElem?_cons_zero, List.getElem?_cons_succ, List.getElem?_nil, List.getElem?_toArray, List.length_cons, List.length_nil, List.drop_zero, List.drop_succ_cons, List.drop_nil, List.take_zero, List.take_succ_cons, List.take_nil, List.append_nil, List.nil_append, List.cons_append, List.all_cons, List.all_nil, true_and, and_true, Bool.not_true, Bool.not_false, Bool.true_and, Bool.and_true, Bool.false_and, Bool.and_false, Bool.true_or, Bool.or_true, Bool.false_or, Bool.or_false, decide_true, decide_false, beq_self_eq_true, if_true, if_false, Nat.reduceBEq, Nat.reduceLT, Nat.reduceLeDiff, Nat.reduceAdd, Nat.reduceMul, Nat.reduceEqDiff, Int.reduceEq, Int.reduceLT, Int.reduceLE, eq_self, Int.reduceNeg, Option.isSome_some, cutAll1, cutAll2, cutAll3, cutAll10, cutAll11, cutFirst4, fa_28_0, fa_28_1, fa_28_2, fa_28_3, fa_28_4, fa_28_5, fa_28_6, fa_33_0, fa_33_1, fa_33_2, fa_33_3, fa_33_4, fa_33_5, fa_33_6, fa_33_7, fa_43_0, fa_43_1, agg_28, size_28, zero_28, lit_28, agg_33, size_33, zero_33, lit_33, agg_43, size_43, zero_43, lit_43, agg_23, agg_4, agg_3, agg_41, agg_24, agg_25, agg_26, agg_31, size_23, size_24, size_25, size_26, size_31, len_24, len_25, len_26, len_31, len_40, ia_24, bs_24, app_24, appT_24, ia_31, bs_31, app_31, appT_31, ia_40, bs_40, app_40, appT_40, ble_dec, repeat_succ, repeat_zero]
  refine callA_named (fun H1 e1 => ?_)
  have n1 : H1.next = H.next + 1 + 1 + 1 + 1 := by rw [e1]; simp (disch := omega) only [setRow_get, newRow_get, newRow_next, setRow_next, newRow_lo, setRow_lo, newRow_grps, setRow_grps, newRow_relo, setRow_relo, relo_objs, relo_next, relo_lo, nbeq_ne, cond_false, cond_true, beq_self_eq_true]
  have l1 : H1.lo = H.lo := by rw [e1]; simp (disch := omega) only [setRow_get, newRow_get, newRow_next, setRow_next, newRow_lo, setRow_lo, newRow_grps, setRow_grps, newRow_relo, setRow_relo, relo_objs, relo_next, relo_lo, nbeq_ne, cond_false, cond_true, beq_self_eq_true]
  have gB : H1.objs.get (H.next + 1) = some (.row [Value.int .i64 b.cfg.semi, Value.int .i64 b.cfg.large, Value.int .i64 b.cfg.slots, Value.int .i64 b.cfg.limit, Value.bool b.second, Value.slice wb b.words.length wd, Value.int .i64 b.top, Value.slice tb b.table.length td, Value.slice fb b.free.length fd, Value.slice sb b.slots.length sd] none true) := by rw [e1]; simp (disch := omega) only [setRow_get, newRow_get, newRow_next, setRow_next, newRow_lo, setRow_lo, newRow_grps, setRow_grps, newRow_relo, setRow_relo, relo_objs, relo_next, relo_lo, nbeq_ne, cond_false, cond_true, beq_self_eq_true]
  have gR : H1.objs.get (H.next + 1 + 1) = some (.row [Value.int .i64 0, Value.int .i64 0, Value.int .i64 0, Value.int .i64 0, Value.bool false, Value.int .i64 0, Value.int .i64 0, Value.slice none 0 0, Value.slice none 0 0, Value.slice none 0 0, Value.slice none 0 0] none true) := by rw [e1]; simp (disch := omega) only [setRow_get, newRow_get, newRow_next, setRow_next, newRow_lo, setRow_lo, newRow_grps, setRow_grps, newRow_relo, setRow_relo, relo_objs, relo_next, relo_lo, nbeq_ne, cond_false, cond_true, beq_self_eq_true]
  have gD : H1.objs.get (H.next + 1 + 1 + 1) = some (.row [Value.int .i64 b.cfg.semi, Value.int .i64 b.cfg.large, Value.int .i64 b.cfg.slots, Value.int .i64 b.cfg.limit, Value.bool b.second, Value.int .i64 b.top, Value.int .i64 b.words.length, .slice none 0 0, (.slice none 0 0), (.slice none 0 0), (.slice none 0 0)] none true) := by rw [e1]; simp (disch := omega) only [setRow_get, newRow_get, newRow_next, setRow_next, newRow_lo, setRow_lo, newRow_grps, setRow_grps, newRow_relo, setRow_relo, relo_objs, relo_next, relo_lo, nbeq_ne, cond_false, cond_true, beq_self_eq_true]
  have s1 : Same H H1 := by rw [e1]; exact ((((same_newRow _).newRow _).newRow _).newRow _).setRow (by omega) _
  clear e1
  refine (changes_ok H1 (by omega) _ _ _ _ _ _).mono ?_
  rintro r H2 ⟨rfl, e2⟩
  have n2 : H2.next = H1.next + 1 + 1 := by rw [e2]; simp (disch := omega) only [setRow_get, newRow_get, newRow_next, setRow_next, newRow_lo, setRow_lo, newRow_grps, setRow_grps, newRow_relo, setRow_relo, relo_objs, relo_next, relo_lo, nbeq_ne, cond_false, cond_true, beq_self_eq_true]
  have l2 : H2.lo = H1.lo := by rw [e2]; simp (disch := omega) only [setRow_get, newRow_get, newRow_next, setRow_next, newRow_lo, setRow_lo, newRow_grps, setRow_grps, newRow_relo, setRow_relo, relo_objs, relo_next, relo_lo, nbeq_ne, cond_false, cond_true, beq_self_eq_true]
  have ka : H2.objs.get H1.next = some (.row [Value.slice wa a.words.length wc] none true) := by rw [e2]; simp (disch := omega) only [setRow_get, newRow_get, newRow_next, setRow_next, newRow_lo, setRow_lo, newRow_grps, setRow_grps, newRow_relo, setRow_relo, relo_objs, relo_next, relo_lo, nbeq_ne, cond_false, cond_true, beq_self_eq_true]
  have kb : H2.objs.get (H1.next + 1) = some (.row [Value.slice wb b.words.length wd] none true) := by rw [e2]; simp (disch := omega) only [setRow_get, newRow_get, newRow_next, setRow_next, newRow_lo, setRow_lo, newRow_grps, setRow_grps, newRow_relo, setRow_relo, relo_objs, relo_next, relo_lo, nbeq_ne, cond_false, cond_true, beq_self_eq_true]
  have s2 : Same H1 H2 := by rw [e2]; exact (same_newRow _).newRow _
  clear e2
  refine wps_named (fun T1 eT => ?_)
  have h3 : T1.get 3 = some (ptr (H.next + 1) 0) := by rw [eT]; simp (config := { maxSteps := 1000000 }) (disch := omega) only [↓sh, ↓reduceIte, sx, nbeq_ne, dle, relo_eq, wrap_i64, cond_true, cond_false, Option.bind_some, Option.bind_none, Option.map_some, Nat.add_zero, Nat.zero_add, List.getElem?_cons_zero, List.getElem?_cons_succ, List.getElem?_nil, List.getElem?_toArray, List.length_cons, List.length_nil, List.drop_zero, List.drop_succ_cons, List.drop_nil, List.take_zero, List.take_succ_cons, List.take_nil, List.append_nil, List.nil_append, List.cons_append, List.all_cons, List.all_nil, true_and, and_true, Bool.not_true, Bool.not_false, Bool.true_and, Bool.and_true, Bool.false_and, Bool.and_false, Bool.true_or, Bool.or_true, Bool.false_or, Bool.or_false, decide_true, decide_false, beq_self_eq_true, if_true, if_false, Nat.reduceBEq, Nat.reduceLT, Nat.reduceLeDiff, Nat.reduceAdd, Nat.reduceMul, Nat.reduceEqDiff, Int.reduceEq, Int.reduceLT, Int.reduceLE, eq_self, Int.reduceNeg, Option.isSome_some]
  have h4 : T1.get 4 = some (ptr (H.next + 1 + 1) 0) := by rw [eT]; simp (config := { maxSteps := 1000000 }) (disch := omega) only [↓sh, ↓reduceIte, sx, nbeq_ne, dle, relo_eq, wrap_i64, cond_true, cond_false, Option.bind_some, Option.bind_none, Option.map_some, Nat.add_zero, Nat.zero_add, List.getElem?_cons_zero, List.getElem?_cons_succ, List.getElem?_nil, List.getElem?_toArray, List.length_cons, List.length_nil, List.drop_zero, List.drop_succ_cons, List.drop_nil, List.take_zero, List.take_succ_cons, List.take_nil, List.append_nil, List.nil_append, List.cons_append, List.all_cons, List.all_nil, true_and, and_true, Bool.not_true, Bool.not_false, Bool.true_and, Bool.and_true, Bool.false_and, Bool.and_false, Bool.true_or, Bool.or_true, Bool.false_or, Bool.or_false, decide_true, decide_false, beq_self_eq_true, if_true, if_false, Nat.reduceBEq, Nat.reduceLT, Nat.reduceLeDiff, Nat.reduceAdd, Nat.reduceMul, Nat.reduceEqDiff, Int.reduceEq, Int.reduceLT, Int.reduceLE, eq_self, Int.reduceNeg, Option.isSome_some]
  have h5 : T1.get 5 = some (ptr (H.next + 1 + 1 + 1) 0) := by rw [eT]; simp (config := { maxSteps := 1000000 }) (disch := omega) only [↓sh, ↓reduceIte, sx, nbeq_ne, dle, relo_eq, wrap_i64, cond_true, cond_false, Option.bind_some, Option.bind_none, Option.map_some, Nat.add_zero, Nat.zero_add, List.getElem?_cons_zero, List.getElem?_cons_succ, List.getElem?_nil, List.getElem?_toArray, List.length_cons, List.length_nil, List.drop_zero, List.drop_succ_cons, List.drop_nil, List.take_zero, List.take_succ_cons, List.take_nil, List.append_nil, List.nil_append, List.cons_append, List.all_cons, List.all_nil, true_and, and_true, Bool.not_true, Bool.not_false, Bool.true_and, Bool.and_true, Bool.false_and, Bool.and_false, Bool.true_or, Bool.or_true, Bool.false_or, Bool.or_false, decide_true, decide_false, beq_self_eq_true, if_true, if_false, Nat.reduceBEq, Nat.reduceLT, Nat.reduceLeDiff, Nat.reduceAdd, Nat.reduceMul, Nat.reduceEqDiff, Int.reduceEq, Int.reduceLT, Int.reduceLE, eq_self, Int.reduceNeg, Option.isSome_some]
  have h21 : T1.get 21 = some (.func (.func 38) #[] #[ptr (H1.next + 1) 0, ptr H1.next 0]) := by rw [eT]; simp (config := { maxSteps := 1000000 }) (disch := omega) only [↓sh, ↓reduceIte, sx, nbeq_ne, dle, relo_eq, wrap_i64, cond_true, cond_false, Option.bind_some, Option.bind_none, Option.map_some, Nat.add_zero, Nat.zero_add, List.getElem?_cons_zero, List.getElem?_cons_succ, List.getElem?_nil, List.getElem?_toArray, List.length_cons, List.length_nil, List.drop_zero, List.drop_succ_cons, List.drop_nil, List.take_zero, List.take_succ_cons, List.take_nil, List.append_nil, List.nil_append, List.cons_append, List.all_cons, List.all_nil, true_and, and_true, Bool.not_true, Bool.not_false, Bool.true_and, Bool.and_true, Bool.false_and, Bool.and_false, Bool.true_or, Bool.or_true, Bool.false_or, Bool.or_false, decide_true, decide_false, beq_self_eq_true, if_true, if_false, Nat.reduceBEq, Nat.reduceLT, Nat.reduceLeDiff, Nat.reduceAdd, Nat.reduceMul, Nat.reduceEqDiff, Int.reduceEq, Int.reduceLT, Int.reduceLE, eq_self, Int.reduceNeg, Option.isSome_some]
  clear eT
  refine wps_range (g := 38) (first := #[]) (cap := #[ptr (H1.next + 1) 0, ptr H1.next 0]) (by rw [ev_tmp]; exact h21) (by kernel_rfl) ?_
  generalize eas : (Code.region 3 _ _) = asg
  generalize ebo : (Code.block 1 _) = bo
  refine named (H2.toRange 42 T1 [22] asg bo) (fun H4 e4 => ?_)
  have n4 : H4.next = H2.next + 1 + 1 := by rw [e4, Heap.toRange, add_next, add_next]
  have l4 : H4.lo = H2.lo := by rw [e4, Heap.toRange, add_lo, add_lo]
  have s4 : Same H2 H4 := by rw [e4, Heap.toRange]; exact (same_add _ _).trans (same_add _ _)
  have r4 : H4.objs.get (H2.next + 1) = some (.loop .ready none 42 T1 [22] asg bo H2.next) := by rw [e4, Heap.toRange, addO_get, add_next, nbeq_eq rfl]; rfl
  have d4 : H4.objs.get H2.next = some .defers := by rw [e4, Heap.toRange, addO_get, add_next, nbeq_ne (by omega), cond_false, addO_get, nbeq_eq rfl]; rfl
  rw [← e4]
  clear e4
  have s14 := s2.trans s4
  have s04 := s1.trans s14
  have gB := s14.keeps (by omega) gB
  have gR := s14.keeps (by omega) gR
  have gD := s14.keeps (by omega) gD
  have ka := s4.keeps (by omega) ka
  have kb := s4.keeps (by omega) kb
  have hmw := chg_len a.words b.words 0
  refine (chg_each H4 (H1.next + 1) H1.next a.words b.words wa wb wc wd (by omega) hma _
    (fun rest X => Keep2 (H.next + 1 + 1 + 1) (H2.next + 1) H4 X ∧ X.objs.get (H2.next + 1) = some (.loop .ready none 42 T1 [22] asg bo H2.next) ∧ ∃ v L cs, X.objs.get (H.next + 1 + 1 + 1) = some (.row [Value.int .i64 b.cfg.semi, Value.int .i64 b.cfg.large, Value.int .i64 b.cfg.slots, Value.int .i64 b.cfg.limit, Value.bool b.second, Value.int .i64 b.top, Value.int .i64 b.words.length, v, (.slice none 0 0), (.slice none 0 0), (.slice none 0 0)] none true) ∧ L ++ rest = chgList a.words 0 b.words ∧ Own H4.next 2 X v (L.map chgI).length cs ∧ Elems RChg 2 X cs (L.map chgI))
    (fun _ => False) ?_ ?_ ?_).mono ?_
  · rintro rest X ⟨hk, _⟩
    have hs := hk.out s04 (by omega) (by omega)
    exact ⟨hk.get (by omega) (by omega) (by omega) kb, hk.get (by omega) (by omega) (by omega) ka, (hB.mono hs).1.1, (hA.mono hs).1.1⟩
  · rintro i w rest X ⟨hk, hq, v, L, cs, hD, hL, ho, he⟩
    have lX := hk.lo
    have nX := hk.nxt
    refine callA_yield (by kernel_rfl) hq (by omega) (T := T1.set 22 (.agg #[.int .i64 ((i : Nat) : Int), .int .u64 w])) rfl ?_
    rw [← eas]
    simp (config := { maxSteps := 1000000 }) (disch := omega) only [↓sh, ↓reduceIte, sx, nbeq_ne, dle, relo_eq, wrap_i64, cond_true, cond_false, Option.bind_some, Option.bind_none, Option.map_some, Nat.add_zero, Nat.zero_add, List.getElem?_cons_zero, List.getElem?_cons_succ, List.getElem?_nil, List.getElem?_toArray, List.length_cons, List.length_nil, List.drop_zero, List.drop_succ_cons, List.drop_nil, List.take_zero, List.take_succ_cons, List.take_nil, List.append_nil, List.nil_append, List.cons_append, List.all_cons, List.all_nil, true_and, and_true, Bool.not_true, Bool.not_false, Bool.true_and, Bool.and_true, Bool.false_and, Bool.and_false, Bool.true_or, Bool.or_true, Bool.false_or, Bool.or_false, decide_true, decide_false, beq_self_eq_true, if_true, if_false, Nat.reduceBEq, Nat.reduceLT, Nat.reduceLeDiff, Nat.reduceAdd, Nat.reduceMul, Nat.reduceEqDiff, Int.reduceEq, Int.reduceLT, Int.reduceLE, eq_self, Int.reduceNeg, Option.isSome_some, cutAll1, cutAll2, cutAll3, cutAll10, cutAll11, cutFirst4, fa_28_0, fa_28_1, fa_28_2, fa_28_3, fa_28_4, fa_28_5, fa_28_6, fa_33_0, fa_33_1, fa_33_2, fa_33_3, fa_33_4, fa_33_5, fa_33_6, fa_33_7, fa_43_0, fa_43_1, agg_28, size_28, zero_28, lit_28, agg_33, size_33, zero_33, lit_33, agg_43, size_43, zero_43, lit_43, agg_23, agg_4, agg_3, agg_41, agg_24, agg_25, agg_26, agg_31, size_23, size_24, size_25, size_26, size_31, len_24, len_25, len_26, len_31, len_40, ia_24, bs_24, app_24, appT_24, ia_31, bs_31, app_31, appT_31, ia_40, bs_40, app_40, appT_40, ble_dec, repeat_succ, repeat_zero]
    refine ⟨_, loop_busy ((same_box X _ _).keeps (by omega) hq), ?_⟩
    refine named (Heap.setObj ((X.newRow [Value.int .i64 0, Value.int .u64 0]).setRow X.next [Value.int .i64 ((i : Nat) : Int), Value.int .u64 w]) (H2.next + 1) (.loop .busy none 42 T1 [22] asg bo H2.next)) (fun X2 e2 => ?_)
    have sx2 := same_box X [Value.int .i64 0, Value.int .u64 0] [Value.int .i64 ((i : Nat) : Int), Value.int .u64 w]
    have hk2 : Keep2 (H.next + 1 + 1 + 1) (H2.next + 1) H4 X2 := by rw [e2]; exact (hk.same sx2).setQ _
    have lX2 := hk2.lo
    have p1 : X2.objs.get (H2.next + 1) = some (.loop .busy none 42 T1 [22] asg bo H2.next) := by rw [e2, setO_get, nbeq_eq rfl]; rfl
    have pD : X2.objs.get (H.next + 1 + 1 + 1) = some (.row [Value.int .i64 b.cfg.semi, Value.int .i64 b.cfg.large, Value.int .i64 b.cfg.slots, Value.int .i64 b.cfg.limit, Value.bool b.second, Value.int .i64 b.top, Value.int .i64 b.words.length, v, (.slice none 0 0), (.slice none 0 0), (.slice none 0 0)] none true) := by rw [e2, setO_get, nbeq_ne (by omega), cond_false]; exact sx2.keeps (by omega) hD
    have pC : X2.objs.get X.next = some (.row [Value.int .i64 ((i : Nat) : Int), Value.int .u64 w] none true) := by rw [e2, setO_get, nbeq_ne (by omega), cond_false]; simp (disch := omega) only [setRow_get, newRow_get, newRow_next, setRow_next, newRow_lo, setRow_lo, newRow_grps, setRow_grps, newRow_relo, setRow_relo, relo_objs, relo_next, relo_lo, nbeq_ne, cond_false, cond_true, beq_self_eq_true]
    have nX2 : X2.next = X.next + 1 := by rw [e2, setO_next]; simp (disch := omega) only [setRow_get, newRow_get, newRow_next, setRow_next, newRow_lo, setRow_lo, newRow_grps, setRow_grps, newRow_relo, setRow_relo, relo_objs, relo_next, relo_lo, nbeq_ne, cond_false, cond_true, beq_self_eq_true]
    have ho2 : Own H4.next 2 X2 v (L.map chgI).length cs := by rw [e2]; exact (ho.same sx2).setO (by omega) _
    rw [eas, ← e2, ← ebo]
    simp (config := { maxSteps := 1000000 }) (disch := omega) only [↓sh, ↓reduceIte, sx, nbeq_ne, dle, relo_eq, wrap_i64, cond_true, cond_false, Option.bind_some, Option.bind_none, Option.map_some, Nat.add_zero, Nat.zero_add, List.getElem?_cons_zero, List.getElem?_cons_succ, List.getElem?_nil, List.getElem?_toArray, List.length_cons, List.length_nil, List.drop_zero, List.drop_succ_cons, List.drop_nil, List.take_zero, List.take_succ_cons, List.take_nil, List.append_nil, List.nil_append, List.cons_append, List.all_cons, List.all_nil, true_and, and_true, Bool.not_true, Bool.not_false, Bool.true_and, Bool.and_true, Bool.false_and, Bool.and_false, Bool.true_or, Bool.or_true, Bool.false_or, Bool.or_false, decide_true, decide_false, beq_self_eq_true, if_true, if_false, Nat.reduceBEq, Nat.reduceLT, Nat.reduceLeDiff, Nat.reduceAdd, Nat.reduceMul, Nat.reduceEqDiff, Int.reduceEq, Int.reduceLT, Int.reduceLE, eq_self, Int.reduceNeg, Option.isSome_some, cutAll1, cutAll2, cutAll3, cutAll10, cutAll11, cutFirst4, fa_28_0, fa_28_1, fa_28_2, fa_28_3, fa_28_4, fa_28_5, fa_28_6, fa_33_0, fa_33_1, fa_33_2, fa_33_3, fa_33_4, fa_33_5, fa_33_6, fa_33_7, fa_43_0, fa_43_1, agg_28, size_28, zero_28, lit_28, agg_33, size_33, zero_33, lit_33, agg_43, size_43, zero_43, lit_43, agg_23, agg_4, agg_3, agg_41, agg_24, agg_25, agg_26, agg_31, size_23, size_24, size_25, size_26, size_31, len_24, len_25, len_26, len_31, len_40, ia_24, bs_24, app_24, appT_24, ia_31, bs_31, app_31, appT_31, ia_40, bs_40, app_40, appT_40, ble_dec, repeat_succ, repeat_zero, h5, pD, pC]
    have sc : Same X2 (X2.newRow [Value.int .i64 ((i : Nat) : Int), Value.int .u64 w]) := same_newRow _
    have hLl : (L.map chgI).length ≤ 400 := by
      rw [List.length_map]
      rw [← hL, List.length_append] at hmw
      omega
    have hLl2 : L.length ≤ 400 := by simpa using hLl
    obtain ⟨X5, hap, ho5, hg5, _⟩ := append_own (bytes := 16) (k := 1) (new := [Value.int .i64 ((i : Nat) : Int), Value.int .u64 w]) (ho2.same sc) (by simp (disch := omega) only [setRow_get, newRow_get, newRow_next, setRow_next, newRow_lo, setRow_lo, newRow_grps, setRow_grps, newRow_relo, setRow_relo, relo_objs, relo_next, relo_lo, nbeq_ne, cond_false, cond_true, beq_self_eq_true]; omega) (by simp (disch := omega) only [setRow_get, newRow_get, newRow_next, setRow_next, newRow_lo, setRow_lo, newRow_grps, setRow_grps, newRow_relo, setRow_relo, relo_objs, relo_next, relo_lo, nbeq_ne, cond_false, cond_true, beq_self_eq_true]; omega) (by omega) rfl rfl (by simp [growOk, beq_dec, ble_dec]; omega)
    have l5 := hg5.lo
    simp only [newRow_lo] at l5
    simp only [newRow_next] at ho5
    have pD5 : X5.objs.get (H.next + 1 + 1 + 1) = _ := ((hg5.below _ (by omega)).1).trans (sc.keeps (by omega) pD)
    have p15 : X5.objs.get (H2.next + 1) = _ := ((hg5.below _ (by omega)).1).trans (sc.keeps (by omega) p1)
    simp (config := { maxSteps := 1000000 }) (disch := omega) only [↓sh, ↓reduceIte, sx, nbeq_ne, dle, relo_eq, wrap_i64, cond_true, cond_false, Option.bind_some, Option.bind_none, Option.map_some, Nat.add_zero, Nat.zero_add, List.getElem?_cons_zero, List.getElem?_cons_succ, List.getElem?_nil, List.getElem?_toArray, List.length_cons, List.length_nil, List.drop_zero, List.drop_succ_cons, List.drop_nil, List.take_zero, List.take_succ_cons, List.take_nil, List.append_nil, List.nil_append, List.cons_append, List.all_cons, List.all_nil, true_and, and_true, Bool.not_true, Bool.not_false, Bool.true_and, Bool.and_true, Bool.false_and, Bool.and_false, Bool.true_or, Bool.or_true, Bool.false_or, Bool.or_false, decide_true, decide_false, beq_self_eq_true, if_true, if_false, Nat.reduceBEq, Nat.reduceLT, Nat.reduceLeDiff, Nat.reduceAdd, Nat.reduceMul, Nat.reduceEqDiff, Int.reduceEq, Int.reduceLT, Int.reduceLE, eq_self, Int.reduceNeg, Option.isSome_some, hap, h5, pD5, cutAll1, cutAll2, cutAll3, cutAll10, cutAll11, cutFirst4, fa_28_0, fa_28_1, fa_28_2, fa_28_3, fa_28_4, fa_28_5, fa_28_6, fa_33_0, fa_33_1, fa_33_2, fa_33_3, fa_33_4, fa_33_5, fa_33_6, fa_33_7, fa_43_0, fa_43_1, agg_28, size_28, zero_28, lit_28, agg_33, size_33, zero_33, lit_33, agg_43, size_43, zero_43, lit_43, agg_23, agg_4, agg_3, agg_41, agg_24, agg_25, agg_26, agg_31, size_23, size_24, size_25, size_26, size_31, len_24, len_25, len_26, len_31, len_40, ia_24, bs_24, app_24, appT_24, ia_31, bs_31, app_31, appT_31, ia_40, bs_40, app_40, appT_40, ble_dec, repeat_succ, repeat_zero]
    have u1 : (X5.setRow (H.next + 1 + 1 + 1) [Value.int .i64 b.cfg.semi, Value.int .i64 b.cfg.large, Value.int .i64 b.cfg.slots, Value.int .i64 b.cfg.limit, Value.bool b.second, Value.int .i64 b.top, Value.int .i64 b.words.length, (.slice (some ⟨X2.next + 1, 0, none⟩) ((L.map chgI).length + 1) ((L.map chgI).length + 1)), (.slice none 0 0), (.slice none 0 0), (.slice none 0 0)]).objs.get (H2.next + 1) = some (.loop .busy none 42 T1 [22] asg bo H2.next) := by rw [setRow_get, nbeq_ne (by omega)]; exact p15
    refine ⟨_, loop_end u1, Or.inl ⟨rfl, (((hk2.same sc).grown hg5 (Nat.le_refl _)).setP _).setQ _, ?_, (.slice (some ⟨X2.next + 1, 0, none⟩) ((L.map chgI).length + 1) ((L.map chgI).length + 1)), L ++ [(i, w)], cs ++ [Value.int .i64 ((i : Nat) : Int), Value.int .u64 w], ?_, by rw [List.append_assoc]; exact hL, ?_, ?_⟩⟩
    · rw [setO_get, nbeq_eq rfl, ebo]; rfl
    · rw [setO_get, nbeq_ne (by omega), cond_false, setRow_get, nbeq_eq rfl]; rfl
    · rw [List.map_append, List.length_append]; exact (ho5.setRow (by omega)).setO (by omega) _
    · rw [List.map_append]
      have := Elems.snoc (H := X5) (part := [Value.int .i64 ((i : Nat) : Int), Value.int .u64 w]) (x := chgI (i, w)) (R := RChg) (z := 2) ⟨he.1, he.2⟩ rfl rfl
      exact ⟨this.1, this.2⟩
  · exact ⟨Keep2.refl _ _ _, r4, .slice none 0 0, [], [], gD, rfl, Own.nil _ _ _, Elems.nil _ _ _⟩
  · rintro r X (⟨hk, hq, v, L, cs, hD, hL, ho, he⟩ | hF)
    · rw [List.append_nil] at hL
      have lX := hk.lo
      have nX := hk.nxt
      refine ⟨_, _, hq, by simp, Or.inl ⟨rfl, ?_⟩⟩
      refine named (Heap.setObj X (H2.next + 1) (.loop .exhausted none 42 T1 [22] asg bo H2.next)) (fun X2 e2 => ?_)
      have hk2 : Keep2 (H.next + 1 + 1 + 1) (H2.next + 1) H4 X2 := by rw [e2]; exact hk.setQ _
      have lX2 := hk2.lo
      have nX2 := hk2.nxt
      have gD2 : X2.objs.get (H.next + 1 + 1 + 1) = some (.row [Value.int .i64 b.cfg.semi, Value.int .i64 b.cfg.large, Value.int .i64 b.cfg.slots, Value.int .i64 b.cfg.limit, Value.bool b.second, Value.int .i64 b.top, Value.int .i64 b.words.length, v, (.slice none 0 0), (.slice none 0 0), (.slice none 0 0)] none true) := by rw [e2, setO_get, nbeq_ne (by omega)]; exact hD
      have gB2 := hk2.get (by omega) (by omega) (by omega) gB
      have gR2 := hk2.get (by omega) (by omega) (by omega) gR
      have gd2 := hk2.get (by omega) (by omega) (by omega) d4
      have ho2 : Own H4.next 2 X2 v (L.map chgI).length cs := by rw [e2]; exact ho.setO (by omega) _
      have s02 := hk2.out s04 (by omega) (by omega)
      have hB2 := hB.mono s02
      rw [← e2]
      clear hD hq hk e2
      rw [← hL] at hmw
      have hW : SLn RChg H4.next 2 X2 v (L.map chgI) := ⟨⟨ho2.reads rfl (by rw [List.length_map]; omega) ⟨he.1, he.2⟩, ho2.rowed⟩, ho2.since⟩
      obtain ⟨xv, cv, ev⟩ : ∃ xv cv, v = .slice xv (L.map chgI).length cv := by obtain ⟨⟨⟨a, c, e, _⟩, _⟩, _⟩ := hW; exact ⟨a, c, e⟩
      subst ev
      have xr : ∀ (Y : Heap) (n : Nat), Ext Y (Y.relo n) := fun Y n => ⟨Nat.le_refl _, fun x c g t _ h => ⟨t, h⟩⟩
      have hBs := hB2
      refine wps_draw [(false, []), (false, []), (true, []), (false, []), (false, []), (true, []), (false, []), (false, []), (false, []), (false, []), (false, []), (false, []), (false, []), (false, []), (false, [])] (by kernel_rfl) ?_
      simp (config := { maxSteps := 1000000 }) (disch := omega) only [↓sh, ↓reduceIte, sx, nbeq_ne, dle, relo_eq, wrap_i64, cond_true, cond_false, Option.bind_some, Option.bind_none, Option.map_some, Nat.add_zero, Nat.zero_add, List.getElem?_cons_zero, List.getElem?_cons_succ, List.getElem?_nil, List.getElem?_toArray, List.length_cons, List.length_nil, List.drop_zero, List.drop_succ_cons, List.drop_nil, List.take_zero, List.take_succ_cons, List.take_nil, List.append_nil, List.nil_append, List.cons_append, List.all_cons, List.all_nil, true_and, and_true, Bool.not_true, Bool.not_false, Bool.true_and, Bool.and_true, Bool.false_and, Bool.and_false, Bool.true_or, Bool.or_true, Bool.false_or, Bool.or_false, decide_true, decide_false, beq_self_eq_true, if_true, if_false, Nat.reduceBEq, Nat.reduceLT, Nat.reduceLeDiff, Nat.reduceAdd, Nat.reduceMul, Nat.reduceEqDiff, Int.reduceEq, Int.reduceLT, Int.reduceLE, eq_self, Int.reduceNeg, Option.isSome_some, cutAll1, cutAll2, cutAll3, cutAll10, cutAll11, cutFirst4, fa_28_0, fa_28_1, fa_28_2, fa_28_3, fa_28_4, fa_28_5, fa_28_6, fa_33_0, fa_33_1, fa_33_2, fa_33_3, fa_33_4, fa_33_5, fa_33_6, fa_33_7, fa_43_0, fa_43_1, agg_28, size_28, zero_28, lit_28, agg_33, size_33, zero_33, lit_33, agg_43, size_43, zero_43, lit_43, agg_23, agg_4, agg_3, agg_41, agg_24, agg_25, agg_26, agg_31, size_23, size_24, size_25, size_26, size_31, len_24, len_25, len_26, len_31, len_40, ia_24, bs_24, app_24, appT_24, ia_31, bs_31, app_31, appT_31, ia_40, bs_40, app_40, appT_40, ble_dec, repeat_succ, repeat_zero, h3, h5, gB2]
      refine (spans_clone (X2.relo X2.next) (Nat.le_refl _) _ b.table (hB2.2.1.ext RSpan.mono (xr _ _)) (by omega)).mono ?_
      rintro t1 X3 ⟨c1, s3⟩
      replace s3 := s3.relo
      have n3 := s3.nxt
      simp only [relo_next] at n3
      have gB3 : X3.objs.get (H.next + 1) = _ := s3.keeps (by omega) gB2
      simp (config := { maxSteps := 1000000 }) (disch := omega) only [↓sh, ↓reduceIte, sx, nbeq_ne, dle, relo_eq, wrap_i64, cond_true, cond_false, Option.bind_some, Option.bind_none, Option.map_some, Nat.add_zero, Nat.zero_add, List.getElem?_cons_zero, List.getElem?_cons_succ, List.getElem?_nil, List.getElem?_toArray, List.length_cons, List.length_nil, List.drop_zero, List.drop_succ_cons, List.drop_nil, List.take_zero, List.take_succ_cons, List.take_nil, List.append_nil, List.nil_append, List.cons_append, List.all_cons, List.all_nil, true_and, and_true, Bool.not_true, Bool.not_false, Bool.true_and, Bool.and_true, Bool.false_and, Bool.and_false, Bool.true_or, Bool.or_true, Bool.false_or, Bool.or_false, decide_true, decide_false, beq_self_eq_true, if_true, if_false, Nat.reduceBEq, Nat.reduceLT, Nat.reduceLeDiff, Nat.reduceAdd, Nat.reduceMul, Nat.reduceEqDiff, Int.reduceEq, Int.reduceLT, Int.reduceLE, eq_self, Int.reduceNeg, Option.isSome_some, cutAll1, cutAll2, cutAll3, cutAll10, cutAll11, cutFirst4, fa_28_0, fa_28_1, fa_28_2, fa_28_3, fa_28_4, fa_28_5, fa_28_6, fa_33_0, fa_33_1, fa_33_2, fa_33_3, fa_33_4, fa_33_5, fa_33_6, fa_33_7, fa_43_0, fa_43_1, agg_28, size_28, zero_28, lit_28, agg_33, size_33, zero_33, lit_33, agg_43, size_43, zero_43, lit_43, agg_23, agg_4, agg_3, agg_41, agg_24, agg_25, agg_26, agg_31, size_23, size_24, size_25, size_26, size_31, len_24, len_25, len_26, len_31, len_40, ia_24, bs_24, app_24, appT_24, ia_31, bs_31, app_31, appT_31, ia_40, bs_40, app_40, appT_40, ble_dec, repeat_succ, repeat_zero, h3, h5, gB3]
      refine (spans_clone (X3.relo X3.next) (Nat.le_refl _) _ b.free (hB2.2.2.1.ext RSpan.mono (ext_relo s3.ext _)) (by omega)).mono ?_
      rintro t2 X4 ⟨c2, s4⟩
      have s34 := s4
      replace s4 := s3.step s4
      have n4 := s4.nxt
      simp only [relo_next] at n4
      have gB4 : X4.objs.get (H.next + 1) = _ := s4.keeps (by omega) gB2
      simp (config := { maxSteps := 1000000 }) (disch := omega) only [↓sh, ↓reduceIte, sx, nbeq_ne, dle, relo_eq, wrap_i64, cond_true, cond_false, Option.bind_some, Option.bind_none, Option.map_some, Nat.add_zero, Nat.zero_add, List.getElem?_cons_zero, List.getElem?_cons_succ, List.getElem?_nil, List.getElem?_toArray, List.length_cons, List.length_nil, List.drop_zero, List.drop_succ_cons, List.drop_nil, List.take_zero, List.take_succ_cons, List.take_nil, List.append_nil, List.nil_append, List.cons_append, List.all_cons, List.all_nil, true_and, and_true, Bool.not_true, Bool.not_false, Bool.true_and, Bool.and_true, Bool.false_and, Bool.and_false, Bool.true_or, Bool.or_true, Bool.false_or, Bool.or_false, decide_true, decide_false, beq_self_eq_true, if_true, if_false, Nat.reduceBEq, Nat.reduceLT, Nat.reduceLeDiff, Nat.reduceAdd, Nat.reduceMul, Nat.reduceEqDiff, Int.reduceEq, Int.reduceLT, Int.reduceLE, eq_self, Int.reduceNeg, Option.isSome_some, cutAll1, cutAll2, cutAll3, cutAll10, cutAll11, cutFirst4, fa_28_0, fa_28_1, fa_28_2, fa_28_3, fa_28_4, fa_28_5, fa_28_6, fa_33_0, fa_33_1, fa_33_2, fa_33_3, fa_33_4, fa_33_5, fa_33_6, fa_33_7, fa_43_0, fa_43_1, agg_28, size_28, zero_28, lit_28, agg_33, size_33, zero_33, lit_33, agg_43, size_43, zero_43, lit_43, agg_23, agg_4, agg_3, agg_41, agg_24, agg_25, agg_26, agg_31, size_23, size_24, size_25, size_26, size_31, len_24, len_25, len_26, len_31, len_40, ia_24, bs_24, app_24, appT_24, ia_31, bs_31, app_31, appT_31, ia_40, bs_40, app_40, appT_40, ble_dec, repeat_succ, repeat_zero, h3, h5, gB4]
      refine (slots_clone (X4.relo X2.lo) (by simp (disch := omega) only [setRow_get, newRow_get, newRow_next, setRow_next, newRow_lo, setRow_lo, newRow_grps, setRow_grps, newRow_relo, setRow_relo, relo_objs, relo_next, relo_lo, nbeq_ne, cond_false, cond_true, beq_self_eq_true]; omega) _ b.slots (hB2.2.2.2.ext RSlot.mono (ext_relo s4.ext _)) (by omega)).mono ?_
      rintro t3 X5 ⟨c3, s5⟩
      have s45 := s5
      replace s5 := s4.trans s5
      have n5 := s45.nxt
      have l5 := s5.lo
      simp only [relo_next] at n5
      have gD5 : X5.objs.get (H.next + 1 + 1 + 1) = _ := s5.keeps (by omega) gD2
      obtain ⟨xt, ct, rfl⟩ := c1.lit
      obtain ⟨xf, cf, rfl⟩ := c2.lit
      obtain ⟨xs, cx, rfl⟩ := c3.lit
      have gR5 := s5.keeps (by omega) gR2
      have gd5 := s5.keeps (by omega) gd2
      simp (config := { maxSteps := 1000000 }) (disch := omega) only [↓sh, ↓reduceIte, sx, nbeq_ne, dle, relo_eq, wrap_i64, cond_true, cond_false, Option.bind_some, Option.bind_none, Option.map_some, Nat.add_zero, Nat.zero_add, List.getElem?_cons_zero, List.getElem?_cons_succ, List.getElem?_nil, List.getElem?_toArray, List.length_cons, List.length_nil, List.drop_zero, List.drop_succ_cons, List.drop_nil, List.take_zero, List.take_succ_cons, List.take_nil, List.append_nil, List.nil_append, List.cons_append, List.all_cons, List.all_nil, true_and, and_true, Bool.not_true, Bool.not_false, Bool.true_and, Bool.and_true, Bool.false_and, Bool.and_false, Bool.true_or, Bool.or_true, Bool.false_or, Bool.or_false, decide_true, decide_false, beq_self_eq_true, if_true, if_false, Nat.reduceBEq, Nat.reduceLT, Nat.reduceLeDiff, Nat.reduceAdd, Nat.reduceMul, Nat.reduceEqDiff, Int.reduceEq, Int.reduceLT, Int.reduceLE, eq_self, Int.reduceNeg, Option.isSome_some, cutAll1, cutAll2, cutAll3, cutAll10, cutAll11, cutFirst4, fa_28_0, fa_28_1, fa_28_2, fa_28_3, fa_28_4, fa_28_5, fa_28_6, fa_33_0, fa_33_1, fa_33_2, fa_33_3, fa_33_4, fa_33_5, fa_33_6, fa_33_7, fa_43_0, fa_43_1, agg_28, size_28, zero_28, lit_28, agg_33, size_33, zero_33, lit_33, agg_43, size_43, zero_43, lit_43, agg_23, agg_4, agg_3, agg_41, agg_24, agg_25, agg_26, agg_31, size_23, size_24, size_25, size_26, size_31, len_24, len_25, len_26, len_31, len_40, ia_24, bs_24, app_24, appT_24, ia_31, bs_31, app_31, appT_31, ia_40, bs_40, app_40, appT_40, ble_dec, repeat_succ, repeat_zero, h3, h4, h5, gD5, gR5]
      have v1 := (((((c1.weak (b' := H4.next) (by simp (disch := omega) only [setRow_get, newRow_get, newRow_next, setRow_next, newRow_lo, setRow_lo, newRow_grps, setRow_grps, newRow_relo, setRow_relo, relo_objs, relo_next, relo_lo, nbeq_ne, cond_false, cond_true, beq_self_eq_true]; omega)).relo RSpan.mono X3.next).mono RSpan.mono s34).relo RSpan.mono X2.lo).mono RSpan.mono s45)
      have v2 := ((c2.weak (b' := H4.next) (by simp (disch := omega) only [setRow_get, newRow_get, newRow_next, setRow_next, newRow_lo, setRow_lo, newRow_grps, setRow_grps, newRow_relo, setRow_relo, relo_objs, relo_next, relo_lo, nbeq_ne, cond_false, cond_true, beq_self_eq_true]; omega)).relo RSpan.mono X2.lo).mono RSpan.mono s45
      have v3 := c3.weak (b' := H4.next) (by simp (disch := omega) only [setRow_get, newRow_get, newRow_next, setRow_next, newRow_lo, setRow_lo, newRow_grps, setRow_grps, newRow_relo, setRow_relo, relo_objs, relo_next, relo_lo, nbeq_ne, cond_false, cond_true, beq_self_eq_true]; omega)
      have v0 := hW.mono RChg.mono s5
      have s05 := s02.trans s5
      have hy : ∀ x, x ≠ H.next + 1 + 1 + 1 → x ≠ H.next + 1 + 1 → ∀ c1 c2 c3 c4, ((((X5.setRow (H.next + 1 + 1 + 1) c1).setRow (H.next + 1 + 1 + 1) c2).setRow (H.next + 1 + 1 + 1) c3).setRow (H.next + 1 + 1) c4).objs.get x = X5.objs.get x := by
        intro x h1 h2 c1 c2 c3 c4
        rw [setRow_get, nbeq_ne h2, cond_false, setRow_get, nbeq_ne h1, cond_false, setRow_get, nbeq_ne h1, cond_false, setRow_get, nbeq_ne h1, cond_false]
      generalize eX : Heap.setRow _ (H.next + 1 + 1) _ = X7
      have hy7 : ∀ x, x ≠ H.next + 1 + 1 + 1 → x ≠ H.next + 1 + 1 → X7.objs.get x = X5.objs.get x := by
        intro x h1 h2
        rw [← eX]
        exact hy x h1 h2 _ _ _ _
      have w2 : X7.objs.get H2.next = some .defers := by rw [hy7 _ (by omega) (by omega)]; exact gd5
      have w3 : (X7.objs.del H2.next).get (H.next + 1 + 1) = some (.row [Value.int .i64 b.cfg.semi, Value.int .i64 b.cfg.large, Value.int .i64 b.cfg.slots, Value.int .i64 b.cfg.limit, Value.bool b.second, Value.int .i64 b.top, Value.int .i64 b.words.length, (.slice xv (L.map chgI).length cv), (.slice xt b.table.length ct), (.slice xf b.free.length cf), (.slice xs b.slots.length cx)] none true) := by rw [delO_get _ _ _ (by omega), ← eX, setRow_get, nbeq_eq rfl]; rfl
      clear eX hy
      refine ⟨_, kill1 w2 (by omega), ?_⟩
      simp (config := { maxSteps := 1000000 }) (disch := omega) only [↓sh, ↓reduceIte, sx, nbeq_ne, dle, relo_eq, wrap_i64, cond_true, cond_false, Option.bind_some, Option.bind_none, Option.map_some, Nat.add_zero, Nat.zero_add, List.getElem?_cons_zero, List.getElem?_cons_succ, List.getElem?_nil, List.getElem?_toArray, List.length_cons, List.length_nil, List.drop_zero, List.drop_succ_cons, List.drop_nil, List.take_zero, List.take_succ_cons, List.take_nil, List.append_nil, List.nil_append, List.cons_append, List.all_cons, List.all_nil, true_and, and_true, Bool.not_true, Bool.not_false, Bool.true_and, Bool.and_true, Bool.false_and, Bool.and_false, Bool.true_or, Bool.or_true, Bool.false_or, Bool.or_false, decide_true, decide_false, beq_self_eq_true, if_true, if_false, Nat.reduceBEq, Nat.reduceLT, Nat.reduceLeDiff, Nat.reduceAdd, Nat.reduceMul, Nat.reduceEqDiff, Int.reduceEq, Int.reduceLT, Int.reduceLE, eq_self, Int.reduceNeg, Option.isSome_some, cutAll1, cutAll2, cutAll3, cutAll10, cutAll11, cutFirst4, fa_28_0, fa_28_1, fa_28_2, fa_28_3, fa_28_4, fa_28_5, fa_28_6, fa_33_0, fa_33_1, fa_33_2, fa_33_3, fa_33_4, fa_33_5, fa_33_6, fa_33_7, fa_43_0, fa_43_1, agg_28, size_28, zero_28, lit_28, agg_33, size_33, zero_33, lit_33, agg_43, size_43, zero_43, lit_43, agg_23, agg_4, agg_3, agg_41, agg_24, agg_25, agg_26, agg_31, size_23, size_24, size_25, size_26, size_31, len_24, len_25, len_26, len_31, len_40, ia_24, bs_24, app_24, appT_24, ia_31, bs_31, app_31, appT_31, ia_40, bs_40, app_40, appT_40, ble_dec, repeat_succ, repeat_zero, w3]
      have hab : ∀ x, H4.next ≤ x → x < X5.next → (X7.objs.del H2.next).get x = X5.objs.get x := by
        intro x h1 _
        rw [delO_get _ _ _ (by omega), hy7 _ (by omega) (by omega)]
      refine ⟨⟨_, _, _, _, rfl, ?_, ?_, ?_, ?_⟩, ?_⟩
      · rw [← hL]
        exact (v0.above (H' := ⟨X7.objs.del H2.next, X5.grps, X5.next, X5.lo⟩) (fun _ _ h => h) (Nat.le_refl _) hab).1
      · exact (v1.above (H' := ⟨X7.objs.del H2.next, X5.grps, X5.next, X5.lo⟩) (fun _ _ h => h) (Nat.le_refl _) hab).1
      · exact (v2.above (H' := ⟨X7.objs.del H2.next, X5.grps, X5.next, X5.lo⟩) (fun _ _ h => h) (Nat.le_refl _) hab).1
      · exact (v3.above (H' := ⟨X7.objs.del H2.next, X5.grps, X5.next, X5.lo⟩) (fun _ _ h => h) (Nat.le_refl _) hab).1
      · refine ⟨s05.lo, s05.nxt, fun x hx => ?_, s05.grps⟩
        show (X7.objs.del H2.next).get x = _
        rw [delO_get _ _ _ (by omega), hy7 _ (by omega) (by omega)]
        exact s05.objs x hx
    · exact hF.elim
end Go.AM
