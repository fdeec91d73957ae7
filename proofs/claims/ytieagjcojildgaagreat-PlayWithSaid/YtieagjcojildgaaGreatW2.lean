/-
  Walks over letters of the functions that the law reaches.
-/
import Derived.Test.YtieagjcojildgaaGreatW1
namespace Go.AM
attribute [local instance] fnMaps
open Go Go.Proofs
set_option maxRecDepth 100000
set_option maxHeartbeats 1000000
set_option linter.unusedSimpArgs false
theorem fn5 : E.fn.get 5 = some Tryz.f5 := by kernel_rfl
theorem fn6 : E.fn.get 6 = some Tryz.f6 := by kernel_rfl

structure Val where
  kind : Int
  x : Int
structure Op where
  d : Int
  h : Int
  g : Int
  i : Int
  v : Val
  w : Int
  kind : Int
  fields : Int
  raws : Int
  policy : Int
def Op.cells (o : Op) : List Value := [.int .i64 o.d, .int .i64 o.h, .int .i64 o.g, .int .i64 o.i, .int .i64 o.v.kind, .int .i64 o.v.x, .int .u64 o.w, .int .i64 o.kind, .int .i64 o.fields, .int .i64 o.raws, .int .u8 o.policy]
def RW : Heap → List Value → Op → Prop := fun _ part o => part = o.cells ∧ (-9223372036854775808 ≤ o.d ∧ o.d ≤ 9223372036854775807)
theorem RW.mono : Mono RW := fun _ _ _ _ _ h => h
theorem grow_ops {n : Nat} (h : n ≤ 100000000) : growOk 11 88 n = true := by
  unfold growOk
  rw [Nat.ble_eq_true_of_le (by omega : n * 88 ≤ 10000000000), Nat.ble_eq_true_of_le (by omega : n ≤ 1000000000)]
  rfl
/-- one op more -/
theorem app_op {b : Nat} {H' : Heap} {v : Value} {L : List Op} {cs : List Value} (o : Op) (hr : -9223372036854775808 ≤ o.d ∧ o.d ≤ 9223372036854775807) (ho : Own b 11 H' v L.length cs) (he : Elems RW 11 H' cs L) (hb : b ≤ H'.next) (hlo : H'.lo ≤ b) (hL : L.length < 100000000) :
    ∃ s' cs' H4, appendT 11 88 (H'.newRow o.cells) v 1 o.cells = some (s', H4) ∧ Own b 11 H4 s' (L ++ [o]).length cs' ∧ Elems RW 11 H4 cs' (L ++ [o]) ∧ Grown b H' H4 := by
  have sc : Same H' (H'.newRow o.cells) := same_newRow _
  obtain ⟨H4, hap, ho4, hg4, _⟩ := append_own (bytes := 88) (k := 1) (new := o.cells) (ho.same sc) (by rw [newRow_next]; omega) (by rw [newRow_lo]; exact hlo) (by omega) rfl rfl (grow_ops (by omega))
  refine ⟨_, _, _, hap, ?_, (he.ext RW.mono (sc.ext.trans hg4.ext)).snoc rfl ⟨rfl, hr⟩, (grown_same sc hb).trans hg4⟩
  rw [List.length_append]
  exact ho4

/-! ### A row of policies -/
def PSL (H : Heap) (v : Value) (p : List Int) : Prop := ∃ a cap, v = .slice a p.length cap ∧ p.length ≤ cap ∧ (p ≠ [] → ∃ r o cells t, a = some ⟨r, o, none⟩ ∧ r < H.next ∧ H.objs.get r = some (.row cells none t) ∧ ∀ i x, p[i]? = some x → cells[o + i]? = some (.int .u8 x))
theorem PSL.same {H H' : Heap} {v : Value} {p : List Int} (h : PSL H v p) (s : Same H H') : PSL H' v p := by
  obtain ⟨a, cap, h1, h2, h3⟩ := h
  refine ⟨a, cap, h1, h2, fun hp => ?_⟩
  obtain ⟨r, o, cells, t, h4, h5, h6, h7⟩ := h3 hp
  exact ⟨r, o, cells, t, h4, Nat.lt_of_lt_of_le h5 s.nxt, s.keeps h5 h6, h7⟩
theorem slice_eq (H : Heap) (r o n c : Nat) : sliceV E H 23 (.slice (some ⟨r, o, none⟩) n c) (some (.int .i64 1)) none none = (bif !Nat.ble n c then none else (bounds n c (some (.int .i64 1)) none none).bind fun b =>
      match H.objs.get r with
      | some (.row _ none _) => some (.slice (some ⟨r, bif Nat.beq b.2.2 b.1 then o else o + b.1 * 1, none⟩) (b.2.1 - b.1) (b.2.2 - b.1))
      | some (.row _ (some (_, z)) _) =>
        bif Nat.beq z 1 then some (.slice (some ⟨r, bif false && Nat.beq b.2.2 b.1 then o else o + b.1 * 1, none⟩) (b.2.1 - b.1) (b.2.2 - b.1)) else none
      | _ => none) := by kernel_rfl
theorem to_nat {k n : Nat} (h : k ≤ n) : to? (k : Int) n = some k := by
  show (bif Nat.ble k n then some k else none) = some k
  rw [Nat.ble_eq_true_of_le h]; rfl
/-- its first one, and the rest -/
theorem PSL.cons {H : Heap} {v : Value} {x : Int} {q : List Int} (h : PSL H v (x :: q)) : ∃ r o cells t cap v', v = .slice (some ⟨r, o, none⟩) (q.length + 1) cap ∧ (r < H.next ∧ H.objs.get r = some (.row cells none t)) ∧ cells[o]? = some (.int .u8 x) ∧ PSL H v' q ∧ ∀ X, Same H X → sliceV E X 23 v (some (.int .i64 1)) none none = some v' := by
  obtain ⟨a, cap, rfl, h2, h3⟩ := h
  obtain ⟨r, o, cells, t, rfl, h5, h6, h7⟩ := h3 (by simp)
  simp only [List.length_cons] at h2 ⊢
  refine ⟨r, o, cells, t, cap, .slice (some ⟨r, bif Nat.beq cap 1 then o else o + 1 * 1, none⟩) q.length (cap - 1), rfl, ⟨h5, h6⟩, ?_, ⟨_, cap - 1, rfl, by omega, fun hq => ⟨r, _, cells, t, rfl, h5, h6, fun i y hy => ?_⟩⟩, fun X s => ?_⟩
  · simpa using h7 0 x rfl
  · have hlt := (List.getElem?_eq_some_iff.1 hy).1
    have hb : Nat.beq cap 1 = false := by cases hc : Nat.beq cap 1; rfl; simp at hc; omega
    rw [hb]
    have := h7 (i + 1) y (by simpa using hy)
    rw [show o + (i + 1) = o + 1 * 1 + i by omega] at this
    exact this
  · rw [slice_eq]
    have h1 : (!Nat.ble (q.length + 1) cap) = false := by rw [Nat.ble_eq_true_of_le h2]; rfl
    have hbd : bounds (q.length + 1) cap (some (.int .i64 1)) none none = some (1, q.length + 1, cap) := by
      have e1 : to? 1 (q.length + 1) = some 1 := to_nat (k := 1) (by omega)
      simp only [bounds, Option.bind_some, e1]
    rw [h1, hbd, s.keeps h5 h6]
    rfl

def takenN (l : List Op) : Nat → Nat
  | 0 => 0
  | i + 1 => (match l[i]? with | some o => if takes o.d then takenN l i + 1 else takenN l i | none => takenN l i)
def withOp (o : Op) (x : Int) : Op := { o with policy := x }
def polAt (p : List Int) (k : Nat) : Int := (p[k]?).getD 0
def withF (l : List Op) (p : List Int) : Nat → List Op
  | 0 => []
  | i + 1 => withF l p i ++ (match l[i]? with | some o => [if takes o.d then withOp o (polAt p (takenN l i)) else o] | none => [])
theorem taken_yes {l : List Op} {i : Nat} (h : i < l.length) (ht : takes l[i].d = true) : takenN l (i + 1) = takenN l i + 1 := by simp only [takenN, List.getElem?_eq_getElem h, if_pos ht]
theorem taken_no {l : List Op} {i : Nat} (h : i < l.length) (ht : takes l[i].d = false) : takenN l (i + 1) = takenN l i := by simp only [takenN, List.getElem?_eq_getElem h, ht]; rfl
theorem with_yes {l : List Op} {p : List Int} {i : Nat} (h : i < l.length) (ht : takes l[i].d = true) : withF l p (i + 1) = withF l p i ++ [withOp l[i] (polAt p (takenN l i))] := by simp only [withF, List.getElem?_eq_getElem h, if_pos ht]
theorem with_no {l : List Op} {p : List Int} {i : Nat} (h : i < l.length) (ht : takes l[i].d = false) : withF l p (i + 1) = withF l p i ++ [l[i]] := by simp only [withF, List.getElem?_eq_getElem h, ht]; rfl
theorem with_len (l : List Op) (p : List Int) : ∀ i, i ≤ l.length → (withF l p i).length = i
  | 0, _ => rfl
  | i + 1, h => by
    have hi : i < l.length := h
    simp only [withF, List.getElem?_eq_getElem hi, List.length_append, with_len l p i (by omega), List.length_cons, List.length_nil]
theorem taken_le (l : List Op) : ∀ i, takenN l i ≤ i
  | 0 => Nat.le_refl _
  | i + 1 => by
    have := taken_le l i
    simp only [takenN]
    cases l[i]? with
    | none => simp only; omega
    | some o =>
      cases ht : takes o.d with
      | true => simp only [ht, if_true]; omega
      | false => simp only [ht, Bool.false_eq_true, if_false]; omega
theorem drop_nil_pol {p : List Int} {k : Nat} (h : p.drop k = []) : polAt p k = 0 := by
  have := List.drop_eq_nil_iff.1 h
  simp [polAt, List.getElem?_eq_none this]
theorem drop_cons_pol {p q : List Int} {k : Nat} {x : Int} (h : p.drop k = x :: q) : polAt p k = x ∧ p.drop (k + 1) = q := by
  have h1 : p[k]? = some x := by
    have := congrArg (fun l => l[0]?) h
    simpa using this
  refine ⟨by simp [polAt, h1], ?_⟩
  rw [← List.drop_drop, h]; rfl
theorem evO_no (T : Tr Value) : evO T none = some none := Eq.trans rfl rfl
theorem evO_so (T : Tr Value) (x : Operand) : evO T (some x) = (ev T x).bind fun v => some (some v) := Eq.trans rfl rfl
theorem at0 (n : Nat) : at? 0 (n + 1) = some 0 := at_nat (i := 0) (by omega)
theorem len_pos (n : Nat) : decide ((0 : Int) < ((n + 1 : Nat) : Int)) = true := by simp

theorem with_ok (H : Heap) (hlo : H.lo ≤ H.next) (va vp : Value) (l : List Op) (p : List Int) (ha : SL RW 11 H va l) (hp : PSL H vp p) (hl100 : l.length ≤ 100) (hp200 : p.length ≤ 200) : CallA E (fnv 5) [va, vp] H fun v H' => SL RW 11 H' v (withF l p l.length) ∧ Same H H' := by
  obtain ⟨a, ca, rfl, ⟨_, hm⟩, hl⟩ := ha
  refine callA_fn (by kernel_rfl) fn5 rfl rfl ?_
  simp only [Tryz.f5]
  simp (config := { maxSteps := 1000000 }) (disch := omega) only [↓sh, ↓reduceIte, sx, nbeq_ne, dle, relo_eq, wrap_i64, cond_true, cond_false, Option.bind_some, Option.bind_none, Option.map_some, Nat.add_zero, Nat.zero_add, List.getElem?_cons_zero, List.getElem?_cons_succ, List.getElem?_nil, List.getElem?_toArray, List.length_cons, List.length_nil, List.drop_zero, List.drop_succ_cons, List.drop_nil, List.take_zero, List.take_succ_cons, List.take_nil, List.append_nil, List.nil_append, List.cons_append, List.all_cons, List.all_nil, true_and, and_true, Bool.not_true, Bool.not_false, Bool.true_and, Bool.and_true, Bool.false_and, Bool.and_false, Bool.true_or, Bool.or_true, Bool.false_or, Bool.or_false, decide_true, decide_false, beq_self_eq_true, if_true, if_false, Nat.reduceBEq, Nat.reduceLT, Nat.reduceLeDiff, Nat.reduceAdd, Nat.reduceMul, Nat.reduceEqDiff, Int.reduceEq, Int.reduceLT, Int.reduceLE, eq_self, Int.reduceNeg, Option.isSome_some, len_22, len_23, ia_22, ia_23, agg_30, size_30, zero_30, fa_30_0, fa_30_9, agg_3, agg_5, size_5, bs_22, app_22, appT_22, cutAll11, ble_dec, repeat_succ, repeat_zero, Op.cells]
  refine wp_loopQ (by kernel_rfl) (fun n T X => ∃ (i : Nat) (v vq : Value) (cs : List Value), n = l.length - i ∧ i ≤ l.length ∧ T.get 10 = some (.int .i64 i) ∧ T.get 9 = some (.int .i64 l.length) ∧ T.get 8 = some (.slice a l.length ca) ∧ T.get 5 = some v ∧ T.get 1 = some vq ∧ PSL H vq (p.drop (takenN l i)) ∧ Same H X ∧ Own H.next 11 X v (withF l p i).length cs ∧ Elems RW 11 X cs (withF l p i)) l.length ?_ ?_
  · exact ⟨0, _, vp, [], by omega, by omega, rfl, rfl, rfl, rfl, rfl, hp, Same.refl _, Own.nil _ _ _, Elems.nil _ _ _⟩
  rintro n T X ⟨i, v, vq, cs, rfl, hi, h10, h9, h8, h5, h1, hq, sm, ho, he⟩ Qs hQ hQr hQe
  have n1 := sm.nxt
  have l1 := sm.lo
  have wl := with_len l p i hi
  by_cases hlt : i < l.length
  · have hd : decide ((i : Int) < (l.length : Int)) = true := by simpa using hlt
    obtain ⟨r, o, cells, gg, t, part, rfl, hr, hrow, hcut, rfl, hrd⟩ := hl i l[i] (by simp [hlt])
    have hrow := sm.keeps hr hrow
    simp only [Op.cells] at hcut
    simp (config := { maxSteps := 1000000 }) (disch := omega) only [↓sh, ↓reduceIte, sx, nbeq_ne, dle, relo_eq, wrap_i64, cond_true, cond_false, Option.bind_some, Option.bind_none, Option.map_some, Nat.add_zero, Nat.zero_add, List.getElem?_cons_zero, List.getElem?_cons_succ, List.getElem?_nil, List.getElem?_toArray, List.length_cons, List.length_nil, List.drop_zero, List.drop_succ_cons, List.drop_nil, List.take_zero, List.take_succ_cons, List.take_nil, List.append_nil, List.nil_append, List.cons_append, List.all_cons, List.all_nil, true_and, and_true, Bool.not_true, Bool.not_false, Bool.true_and, Bool.and_true, Bool.false_and, Bool.and_false, Bool.true_or, Bool.or_true, Bool.false_or, Bool.or_false, decide_true, decide_false, beq_self_eq_true, if_true, if_false, Nat.reduceBEq, Nat.reduceLT, Nat.reduceLeDiff, Nat.reduceAdd, Nat.reduceMul, Nat.reduceEqDiff, Int.reduceEq, Int.reduceLT, Int.reduceLE, eq_self, Int.reduceNeg, Option.isSome_some, len_22, len_23, ia_22, ia_23, agg_30, size_30, zero_30, fa_30_0, fa_30_9, agg_3, agg_5, size_5, bs_22, app_22, appT_22, cutAll11, ble_dec, repeat_succ, repeat_zero, Op.cells, h10, h9, h8, h5, h1, hd, at_nat hlt, hrow, hcut]
    refine (uses_ok _ (by simp (disch := omega) only [setRow_get, newRow_get, newRow_next, setRow_next, newRow_lo, setRow_lo, newRow_grps, setRow_grps, newRow_relo, setRow_relo, relo_objs, relo_next, relo_lo, nbeq_ne, cond_false, cond_true, beq_self_eq_true]; omega) l[i].d hrd).mono ?_
    rintro v2 X2 ⟨rfl, s2⟩
    have n2 := s2.nxt
    have l2 := s2.lo
    simp (disch := omega) only [setRow_get, newRow_get, newRow_next, setRow_next, newRow_lo, setRow_lo, newRow_grps, setRow_grps, newRow_relo, setRow_relo, relo_objs, relo_next, relo_lo, nbeq_ne, cond_false, cond_true, beq_self_eq_true] at n2 l2
    have a2 := s2.objs X.next (by simp (disch := omega) only [setRow_get, newRow_get, newRow_next, setRow_next, newRow_lo, setRow_lo, newRow_grps, setRow_grps, newRow_relo, setRow_relo, relo_objs, relo_next, relo_lo, nbeq_ne, cond_false, cond_true, beq_self_eq_true]; omega)
    simp (disch := omega) only [setRow_get, newRow_get, newRow_next, setRow_next, newRow_lo, setRow_lo, newRow_grps, setRow_grps, newRow_relo, setRow_relo, relo_objs, relo_next, relo_lo, nbeq_ne, cond_false, cond_true, beq_self_eq_true] at a2
    have sX : Same X X2 := (same_box _ _ _).trans s2
    refine (contains_ok _ _).mono ?_
    rintro v3 X3 ⟨rfl, rfl⟩
    simp only [hasP_uses]
    cases hk : takes l[i].d with
    | false =>
      simp (config := { maxSteps := 1000000 }) (disch := omega) only [↓sh, ↓reduceIte, sx, nbeq_ne, dle, relo_eq, wrap_i64, cond_true, cond_false, Option.bind_some, Option.bind_none, Option.map_some, Nat.add_zero, Nat.zero_add, List.getElem?_cons_zero, List.getElem?_cons_succ, List.getElem?_nil, List.getElem?_toArray, List.length_cons, List.length_nil, List.drop_zero, List.drop_succ_cons, List.drop_nil, List.take_zero, List.take_succ_cons, List.take_nil, List.append_nil, List.nil_append, List.cons_append, List.all_cons, List.all_nil, true_and, and_true, Bool.not_true, Bool.not_false, Bool.true_and, Bool.and_true, Bool.false_and, Bool.and_false, Bool.true_or, Bool.or_true, Bool.false_or, Bool.or_false, decide_true, decide_false, beq_self_eq_true, if_true, if_false, Nat.reduceBEq, Nat.reduceLT, Nat.reduceLeDiff, Nat.reduceAdd, Nat.reduceMul, Nat.reduceEqDiff, Int.reduceEq, Int.reduceLT, Int.reduceLE, eq_self, Int.reduceNeg, Option.isSome_some, len_22, len_23, ia_22, ia_23, agg_30, size_30, zero_30, fa_30_0, fa_30_9, agg_3, agg_5, size_5, bs_22, app_22, appT_22, cutAll11, ble_dec, repeat_succ, repeat_zero, Op.cells, a2, hk, h5, h10]
      obtain ⟨s', cs', H4, hap, ho4, he4, hg4⟩ := app_op l[i] hrd (ho.same sX) (he.ext RW.mono sX.ext) (by omega) (by omega) (by omega)
      simp only [Op.cells] at hap
      simp (config := { maxSteps := 1000000 }) (disch := omega) only [↓sh, ↓reduceIte, sx, nbeq_ne, dle, relo_eq, wrap_i64, cond_true, cond_false, Option.bind_some, Option.bind_none, Option.map_some, Nat.add_zero, Nat.zero_add, List.getElem?_cons_zero, List.getElem?_cons_succ, List.getElem?_nil, List.getElem?_toArray, List.length_cons, List.length_nil, List.drop_zero, List.drop_succ_cons, List.drop_nil, List.take_zero, List.take_succ_cons, List.take_nil, List.append_nil, List.nil_append, List.cons_append, List.all_cons, List.all_nil, true_and, and_true, Bool.not_true, Bool.not_false, Bool.true_and, Bool.and_true, Bool.false_and, Bool.and_false, Bool.true_or, Bool.or_true, Bool.false_or, Bool.or_false, decide_true, decide_false, beq_self_eq_true, if_true, if_false, Nat.reduceBEq, Nat.reduceLT, Nat.reduceLeDiff, Nat.reduceAdd, Nat.reduceMul, Nat.reduceEqDiff, Int.reduceEq, Int.reduceLT, Int.reduceLE, eq_self, Int.reduceNeg, Option.isSome_some, hap, h10]
      refine hQ _ _ (l.length - (i + 1)) (by omega) ?_
      rw [← with_no hlt hk] at ho4 he4
      rw [← taken_no hlt hk] at hq
      refine ⟨i + 1, s', vq, cs', rfl, by omega, ?_, ?_, ?_, ?_, ?_, hq, hg4.same (sm.trans sX) (Nat.le_refl _), ho4, he4⟩ <;> simp (config := { maxSteps := 1000000 }) (disch := omega) only [↓sh, ↓reduceIte, sx, nbeq_ne, dle, relo_eq, wrap_i64, cond_true, cond_false, Option.bind_some, Option.bind_none, Option.map_some, Nat.add_zero, Nat.zero_add, List.getElem?_cons_zero, List.getElem?_cons_succ, List.getElem?_nil, List.getElem?_toArray, List.length_cons, List.length_nil, List.drop_zero, List.drop_succ_cons, List.drop_nil, List.take_zero, List.take_succ_cons, List.take_nil, List.append_nil, List.nil_append, List.cons_append, List.all_cons, List.all_nil, true_and, and_true, Bool.not_true, Bool.not_false, Bool.true_and, Bool.and_true, Bool.false_and, Bool.and_false, Bool.true_or, Bool.or_true, Bool.false_or, Bool.or_false, decide_true, decide_false, beq_self_eq_true, if_true, if_false, Nat.reduceBEq, Nat.reduceLT, Nat.reduceLeDiff, Nat.reduceAdd, Nat.reduceMul, Nat.reduceEqDiff, Int.reduceEq, Int.reduceLT, Int.reduceLE, eq_self, Int.reduceNeg, Option.isSome_some, h10, h9, h8, h5, h1, Int.natCast_add, Int.natCast_one]
    | true =>
      have sN : ∀ z, Same X (X3.setRow X.next z) := fun z => sX.setRow (Nat.le_refl _) _
      cases hqq : p.drop (takenN l i) with
      | nil =>
        obtain ⟨hpol, hpn⟩ : polAt p (takenN l i) = 0 ∧ p.drop (takenN l i + 1) = [] := ⟨drop_nil_pol hqq, by rw [← List.drop_drop, hqq]; rfl⟩
        rw [hqq] at hq
        have hq0 := hq
        obtain ⟨aq, cq, rfl, _⟩ := hq
        simp only [List.length_nil] at h1 hq0
        have d0 : decide ((0 : Int) < ((0 : Nat) : Int)) = false := rfl
        simp (config := { maxSteps := 1000000 }) (disch := omega) only [↓sh, ↓reduceIte, sx, nbeq_ne, dle, relo_eq, wrap_i64, cond_true, cond_false, Option.bind_some, Option.bind_none, Option.map_some, Nat.add_zero, Nat.zero_add, List.getElem?_cons_zero, List.getElem?_cons_succ, List.getElem?_nil, List.getElem?_toArray, List.length_cons, List.length_nil, List.drop_zero, List.drop_succ_cons, List.drop_nil, List.take_zero, List.take_succ_cons, List.take_nil, List.append_nil, List.nil_append, List.cons_append, List.all_cons, List.all_nil, true_and, and_true, Bool.not_true, Bool.not_false, Bool.true_and, Bool.and_true, Bool.false_and, Bool.and_false, Bool.true_or, Bool.or_true, Bool.false_or, Bool.or_false, decide_true, decide_false, beq_self_eq_true, if_true, if_false, Nat.reduceBEq, Nat.reduceLT, Nat.reduceLeDiff, Nat.reduceAdd, Nat.reduceMul, Nat.reduceEqDiff, Int.reduceEq, Int.reduceLT, Int.reduceLE, eq_self, Int.reduceNeg, Option.isSome_some, len_22, len_23, ia_22, ia_23, agg_30, size_30, zero_30, fa_30_0, fa_30_9, agg_3, agg_5, size_5, bs_22, app_22, appT_22, cutAll11, ble_dec, repeat_succ, repeat_zero, Op.cells, a2, hk, h5, h10, h1, d0]
        obtain ⟨s', cs', H4, hap, ho4, he4, hg4⟩ := app_op (withOp l[i] 0) hrd (ho.same (sN (withOp l[i] 0).cells)) (he.ext RW.mono (sN (withOp l[i] 0).cells).ext) (by simp (disch := omega) only [setRow_get, newRow_get, newRow_next, setRow_next, newRow_lo, setRow_lo, newRow_grps, setRow_grps, newRow_relo, setRow_relo, relo_objs, relo_next, relo_lo, nbeq_ne, cond_false, cond_true, beq_self_eq_true]; omega) (by simp (disch := omega) only [setRow_get, newRow_get, newRow_next, setRow_next, newRow_lo, setRow_lo, newRow_grps, setRow_grps, newRow_relo, setRow_relo, relo_objs, relo_next, relo_lo, nbeq_ne, cond_false, cond_true, beq_self_eq_true]; omega) (by omega)
        simp only [Op.cells, withOp] at hap
        simp (config := { maxSteps := 1000000 }) (disch := omega) only [↓sh, ↓reduceIte, sx, nbeq_ne, dle, relo_eq, wrap_i64, cond_true, cond_false, Option.bind_some, Option.bind_none, Option.map_some, Nat.add_zero, Nat.zero_add, List.getElem?_cons_zero, List.getElem?_cons_succ, List.getElem?_nil, List.getElem?_toArray, List.length_cons, List.length_nil, List.drop_zero, List.drop_succ_cons, List.drop_nil, List.take_zero, List.take_succ_cons, List.take_nil, List.append_nil, List.nil_append, List.cons_append, List.all_cons, List.all_nil, true_and, and_true, Bool.not_true, Bool.not_false, Bool.true_and, Bool.and_true, Bool.false_and, Bool.and_false, Bool.true_or, Bool.or_true, Bool.false_or, Bool.or_false, decide_true, decide_false, beq_self_eq_true, if_true, if_false, Nat.reduceBEq, Nat.reduceLT, Nat.reduceLeDiff, Nat.reduceAdd, Nat.reduceMul, Nat.reduceEqDiff, Int.reduceEq, Int.reduceLT, Int.reduceLE, eq_self, Int.reduceNeg, Option.isSome_some, hap, h10]
        refine hQ _ _ (l.length - (i + 1)) (by omega) ?_
        rw [← hpol, ← with_yes hlt hk] at ho4 he4
        refine ⟨i + 1, s', _, cs', rfl, by omega, ?_, ?_, ?_, ?_, ?_, (by rw [taken_yes hlt hk, hpn]; exact hq0), hg4.same (sm.trans (sN _)) (Nat.le_refl _), ho4, he4⟩ <;> simp (config := { maxSteps := 1000000 }) (disch := omega) only [↓sh, ↓reduceIte, sx, nbeq_ne, dle, relo_eq, wrap_i64, cond_true, cond_false, Option.bind_some, Option.bind_none, Option.map_some, Nat.add_zero, Nat.zero_add, List.getElem?_cons_zero, List.getElem?_cons_succ, List.getElem?_nil, List.getElem?_toArray, List.length_cons, List.length_nil, List.drop_zero, List.drop_succ_cons, List.drop_nil, List.take_zero, List.take_succ_cons, List.take_nil, List.append_nil, List.nil_append, List.cons_append, List.all_cons, List.all_nil, true_and, and_true, Bool.not_true, Bool.not_false, Bool.true_and, Bool.and_true, Bool.false_and, Bool.and_false, Bool.true_or, Bool.or_true, Bool.false_or, Bool.or_false, decide_true, decide_false, beq_self_eq_true, if_true, if_false, Nat.reduceBEq, Nat.reduceLT, Nat.reduceLeDiff, Nat.reduceAdd, Nat.reduceMul, Nat.reduceEqDiff, Int.reduceEq, Int.reduceLT, Int.reduceLE, eq_self, Int.reduceNeg, Option.isSome_some, h10, h9, h8, h5, h1, Int.natCast_add, Int.natCast_one]
      | cons x q =>
        obtain ⟨hpol, hpn⟩ := drop_cons_pol hqq
        rw [hqq] at hq
        obtain ⟨rp, op, pc, pt, cq, v', rfl, ⟨p1, p2⟩, p3, p4, p5⟩ := hq.cons
        have p2 := (sm.trans sX).keeps p1 p2
        have dl := len_pos q.length
        have sN2 : ∀ z z', Same X ((X3.setRow X.next z).setRow X.next z') := fun z z' => (sN z).setRow (Nat.le_refl _) _
        have p6 := p5 (X3.setRow X.next (withOp l[i] 0).cells) (sm.trans (sN _))
        simp only [withOp, Op.cells] at p6
        simp (config := { maxSteps := 1000000 }) (disch := omega) only [↓sh, ↓reduceIte, sx, nbeq_ne, dle, relo_eq, wrap_i64, cond_true, cond_false, Option.bind_some, Option.bind_none, Option.map_some, Nat.add_zero, Nat.zero_add, List.getElem?_cons_zero, List.getElem?_cons_succ, List.getElem?_nil, List.getElem?_toArray, List.length_cons, List.length_nil, List.drop_zero, List.drop_succ_cons, List.drop_nil, List.take_zero, List.take_succ_cons, List.take_nil, List.append_nil, List.nil_append, List.cons_append, List.all_cons, List.all_nil, true_and, and_true, Bool.not_true, Bool.not_false, Bool.true_and, Bool.and_true, Bool.false_and, Bool.and_false, Bool.true_or, Bool.or_true, Bool.false_or, Bool.or_false, decide_true, decide_false, beq_self_eq_true, if_true, if_false, Nat.reduceBEq, Nat.reduceLT, Nat.reduceLeDiff, Nat.reduceAdd, Nat.reduceMul, Nat.reduceEqDiff, Int.reduceEq, Int.reduceLT, Int.reduceLE, eq_self, Int.reduceNeg, Option.isSome_some, len_22, len_23, ia_22, ia_23, agg_30, size_30, zero_30, fa_30_0, fa_30_9, agg_3, agg_5, size_5, bs_22, app_22, appT_22, cutAll11, ble_dec, repeat_succ, repeat_zero, Op.cells, a2, hk, h5, h10, h1, dl]
        refine wps_draw [(false, [], []), (false, [], []), (false, [], []), (false, [], []), (false, [], []), (false, [], []), (false, [4], []), (false, [], [])] (by kernel_rfl) ?_
        simp (config := { maxSteps := 1000000 }) (disch := omega) only [↓sh, ↓reduceIte, sx, nbeq_ne, dle, relo_eq, wrap_i64, cond_true, cond_false, Option.bind_some, Option.bind_none, Option.map_some, Nat.add_zero, Nat.zero_add, List.getElem?_cons_zero, List.getElem?_cons_succ, List.getElem?_nil, List.getElem?_toArray, List.length_cons, List.length_nil, List.drop_zero, List.drop_succ_cons, List.drop_nil, List.take_zero, List.take_succ_cons, List.take_nil, List.append_nil, List.nil_append, List.cons_append, List.all_cons, List.all_nil, true_and, and_true, Bool.not_true, Bool.not_false, Bool.true_and, Bool.and_true, Bool.false_and, Bool.and_false, Bool.true_or, Bool.or_true, Bool.false_or, Bool.or_false, decide_true, decide_false, beq_self_eq_true, if_true, if_false, Nat.reduceBEq, Nat.reduceLT, Nat.reduceLeDiff, Nat.reduceAdd, Nat.reduceMul, Nat.reduceEqDiff, Int.reduceEq, Int.reduceLT, Int.reduceLE, eq_self, Int.reduceNeg, Option.isSome_some, len_22, len_23, ia_22, ia_23, agg_30, size_30, zero_30, fa_30_0, fa_30_9, agg_3, agg_5, size_5, bs_22, app_22, appT_22, cutAll11, ble_dec, repeat_succ, repeat_zero, Op.cells, a2, hk, h5, h10, h1, at0, p2, p3, p6, Nat.zero_mul, evO_no, evO_so]
        obtain ⟨s', cs', H4, hap, ho4, he4, hg4⟩ := app_op (withOp l[i] x) hrd (ho.same (sN2 (withOp l[i] 0).cells (withOp l[i] x).cells)) (he.ext RW.mono (sN2 (withOp l[i] 0).cells (withOp l[i] x).cells).ext) (by simp (disch := omega) only [setRow_get, newRow_get, newRow_next, setRow_next, newRow_lo, setRow_lo, newRow_grps, setRow_grps, newRow_relo, setRow_relo, relo_objs, relo_next, relo_lo, nbeq_ne, cond_false, cond_true, beq_self_eq_true]; omega) (by simp (disch := omega) only [setRow_get, newRow_get, newRow_next, setRow_next, newRow_lo, setRow_lo, newRow_grps, setRow_grps, newRow_relo, setRow_relo, relo_objs, relo_next, relo_lo, nbeq_ne, cond_false, cond_true, beq_self_eq_true]; omega) (by omega)
        simp only [Op.cells, withOp] at hap
        simp (config := { maxSteps := 1000000 }) (disch := omega) only [↓sh, ↓reduceIte, sx, nbeq_ne, dle, relo_eq, wrap_i64, cond_true, cond_false, Option.bind_some, Option.bind_none, Option.map_some, Nat.add_zero, Nat.zero_add, List.getElem?_cons_zero, List.getElem?_cons_succ, List.getElem?_nil, List.getElem?_toArray, List.length_cons, List.length_nil, List.drop_zero, List.drop_succ_cons, List.drop_nil, List.take_zero, List.take_succ_cons, List.take_nil, List.append_nil, List.nil_append, List.cons_append, List.all_cons, List.all_nil, true_and, and_true, Bool.not_true, Bool.not_false, Bool.true_and, Bool.and_true, Bool.false_and, Bool.and_false, Bool.true_or, Bool.or_true, Bool.false_or, Bool.or_false, decide_true, decide_false, beq_self_eq_true, if_true, if_false, Nat.reduceBEq, Nat.reduceLT, Nat.reduceLeDiff, Nat.reduceAdd, Nat.reduceMul, Nat.reduceEqDiff, Int.reduceEq, Int.reduceLT, Int.reduceLE, eq_self, Int.reduceNeg, Option.isSome_some, hap, h10]
        refine hQ _ _ (l.length - (i + 1)) (by omega) ?_
        rw [← hpol, ← with_yes hlt hk] at ho4 he4
        refine ⟨i + 1, s', _, cs', rfl, by omega, ?_, ?_, ?_, ?_, ?_, (by rw [taken_yes hlt hk, hpn]; exact p4), hg4.same (sm.trans (sN2 _ _)) (Nat.le_refl _), ho4, he4⟩ <;> simp (config := { maxSteps := 1000000 }) (disch := omega) only [↓sh, ↓reduceIte, sx, nbeq_ne, dle, relo_eq, wrap_i64, cond_true, cond_false, Option.bind_some, Option.bind_none, Option.map_some, Nat.add_zero, Nat.zero_add, List.getElem?_cons_zero, List.getElem?_cons_succ, List.getElem?_nil, List.getElem?_toArray, List.length_cons, List.length_nil, List.drop_zero, List.drop_succ_cons, List.drop_nil, List.take_zero, List.take_succ_cons, List.take_nil, List.append_nil, List.nil_append, List.cons_append, List.all_cons, List.all_nil, true_and, and_true, Bool.not_true, Bool.not_false, Bool.true_and, Bool.and_true, Bool.false_and, Bool.and_false, Bool.true_or, Bool.or_true, Bool.false_or, Bool.or_false, decide_true, decide_false, beq_self_eq_true, if_true, if_false, Nat.reduceBEq, Nat.reduceLT, Nat.reduceLeDiff, Nat.reduceAdd, Nat.reduceMul, Nat.reduceEqDiff, Int.reduceEq, Int.reduceLT, Int.reduceLE, eq_self, Int.reduceNeg, Option.isSome_some, h10, h9, h8, h5, h1, Int.natCast_add, Int.natCast_one]
  have hd : decide ((i : Int) < (l.length : Int)) = false := by simpa using hlt
  simp (config := { maxSteps := 1000000 }) (disch := omega) only [↓sh, ↓reduceIte, sx, nbeq_ne, dle, relo_eq, wrap_i64, cond_true, cond_false, Option.bind_some, Option.bind_none, Option.map_some, Nat.add_zero, Nat.zero_add, List.getElem?_cons_zero, List.getElem?_cons_succ, List.getElem?_nil, List.getElem?_toArray, List.length_cons, List.length_nil, List.drop_zero, List.drop_succ_cons, List.drop_nil, List.take_zero, List.take_succ_cons, List.take_nil, List.append_nil, List.nil_append, List.cons_append, List.all_cons, List.all_nil, true_and, and_true, Bool.not_true, Bool.not_false, Bool.true_and, Bool.and_true, Bool.false_and, Bool.and_false, Bool.true_or, Bool.or_true, Bool.false_or, Bool.or_false, decide_true, decide_false, beq_self_eq_true, if_true, if_false, Nat.reduceBEq, Nat.reduceLT, Nat.reduceLeDiff, Nat.reduceAdd, Nat.reduceMul, Nat.reduceEqDiff, Int.reduceEq, Int.reduceLT, Int.reduceLE, eq_self, Int.reduceNeg, Option.isSome_some, len_22, len_23, ia_22, ia_23, agg_30, size_30, zero_30, fa_30_0, fa_30_9, agg_3, agg_5, size_5, bs_22, app_22, appT_22, cutAll11, ble_dec, repeat_succ, repeat_zero, Op.cells, h10, h9, h8, h5, h1, hd]
  refine hQe _ _ _ _ ?_
  have ei : i = l.length := by omega
  subst ei
  simp (config := { maxSteps := 1000000 }) (disch := omega) only [↓sh, ↓reduceIte, sx, nbeq_ne, dle, relo_eq, wrap_i64, cond_true, cond_false, Option.bind_some, Option.bind_none, Option.map_some, Nat.add_zero, Nat.zero_add, List.getElem?_cons_zero, List.getElem?_cons_succ, List.getElem?_nil, List.getElem?_toArray, List.length_cons, List.length_nil, List.drop_zero, List.drop_succ_cons, List.drop_nil, List.take_zero, List.take_succ_cons, List.take_nil, List.append_nil, List.nil_append, List.cons_append, List.all_cons, List.all_nil, true_and, and_true, Bool.not_true, Bool.not_false, Bool.true_and, Bool.and_true, Bool.false_and, Bool.and_false, Bool.true_or, Bool.or_true, Bool.false_or, Bool.or_false, decide_true, decide_false, beq_self_eq_true, if_true, if_false, Nat.reduceBEq, Nat.reduceLT, Nat.reduceLeDiff, Nat.reduceAdd, Nat.reduceMul, Nat.reduceEqDiff, Int.reduceEq, Int.reduceLT, Int.reduceLE, eq_self, Int.reduceNeg, Option.isSome_some, len_22, len_23, ia_22, ia_23, agg_30, size_30, zero_30, fa_30_0, fa_30_9, agg_3, agg_5, size_5, bs_22, app_22, appT_22, cutAll11, ble_dec, repeat_succ, repeat_zero, Op.cells, h5]
  exact ⟨ho.reads rfl (by omega) he, sm⟩
