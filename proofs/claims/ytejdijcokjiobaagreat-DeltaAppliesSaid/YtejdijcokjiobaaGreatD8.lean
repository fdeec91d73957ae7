/-
  Walks over letters of the functions that the law reaches.
-/
import Derived.Test.YtejdijcokjiobaaGreatD7
namespace Go.AM
attribute [local instance] fnMaps
open Go Go.Proofs
set_option maxRecDepth 100000
set_option maxHeartbeats 1000000
set_option linter.unusedSimpArgs false
theorem chg_pair (a : List Int) : ∀ (l : List Int) (i : Nat), (chgList a i l).Pairwise (fun x y => x.1 < y.1)
  | [], i => by simp [chgList]
  | y :: l, i => by
    rw [chgList]
    split
    · exact chg_pair a l (i + 1)
    · refine List.pairwise_cons.2 ⟨fun x hx => ?_, chg_pair a l (i + 1)⟩
      have := (chg_mem hx).1
      show i < x.1
      omega
theorem base_cons (a : List Int) (i n : Nat) : base (a.drop i) (n + 1) = (a[i]?.getD 0) :: base (a.drop (i + 1)) n := by
  by_cases h : i < a.length
  · rw [List.drop_eq_getElem_cons h, base, List.take_succ_cons, List.getElem?_eq_getElem h]
    simp only [Option.getD_some, List.cons_append, base, List.length_cons, List.length_drop]
    congr 3
    omega
  · rw [List.drop_eq_nil_of_le (by omega), List.drop_eq_nil_of_le (by omega), List.getElem?_eq_none (by omega)]
    simp [base, List.replicate_succ]
theorem applyW_chg (a : List Int) : ∀ (l P : List Int) (i : Nat), P.length = i → applyW (P ++ base (a.drop i) l.length) ((chgList a i l).map chgI) = P ++ l
  | [], P, i, _ => by simp [chgList, applyW, base]
  | y :: l, P, i, hP => by
    rw [List.length_cons, base_cons, chgList]
    split
    · rename_i h
      rw [h, Option.getD_some]
      have := applyW_chg a l (P ++ [y]) (i + 1) (by simp [hP])
      simpa using this
    · have := applyW_chg a l (P ++ [y]) (i + 1) (by simp [hP])
      rw [List.map_cons, applyW, List.foldl_cons]
      have e : (P ++ (a[i]?.getD 0) :: base (a.drop (i + 1)) l.length).set (chgI (i, y)).1.toNat (chgI (i, y)).2 = P ++ y :: base (a.drop (i + 1)) l.length := by
        show List.set _ ((i : Int)).toNat y = _
        rw [Int.toNat_natCast, List.set_append_right _ _ (by omega), hP, Nat.sub_self, List.set_cons_zero]
      rw [e]
      rw [List.append_assoc, List.append_assoc] at this
      exact this
theorem badAt_no {n x : Int} (h0 : 0 ≤ x) (h : x < n) : badAt n x = false := by
  rw [badAt, show decide (x < 0) = false by rw [decide_eq_false_iff_not]; omega, show decide (n ≤ x) = false by rw [decide_eq_false_iff_not]; omega]
  rfl
theorem right_of (a b : State) (h : b.words.length ≤ 400) : rightD (delOf a b).len ((delOf a b).words.map (·.1)) = 0 := by
  show rightD (b.words.length : Nat) (((chgList a.words 0 b.words).map chgI).map (·.1)) = 0
  have e1 : decide (((b.words.length : Nat) : Int) < 0) = false := by rw [decide_eq_false_iff_not]; omega
  have e2 : decide (98304 < ((b.words.length : Nat) : Int)) = false := by rw [decide_eq_false_iff_not]; omega
  have e3 : (((chgList a.words 0 b.words).map chgI).map (·.1)).any (badAt (b.words.length : Nat)) = false := by
    rw [List.any_eq_false]
    intro x hx
    simp only [List.mem_map] at hx
    obtain ⟨_, ⟨y, hy, rfl⟩, rfl⟩ := hx
    have hm := (chg_mem hy).2
    rw [Nat.sub_zero] at hm
    have := (List.getElem?_eq_some_iff.1 hm).1
    have hno : badAt ((b.words.length : Nat) : Int) (y.1 : Int) = false := badAt_no (by omega) (by omega)
    show ¬ badAt ((b.words.length : Nat) : Int) (y.1 : Int) = true
    rw [hno]
    simp
  have e4 : incr (((chgList a.words 0 b.words).map chgI).map (·.1)) = true := by
    refine incr_yes fun i hi => ?_
    simp only [List.length_map] at hi
    have := List.pairwise_iff_getElem.1 (chg_pair a.words b.words 0) i (i + 1) (by omega) hi (by omega)
    simp only [List.getElem_map, chgI]
    omega
  simp only [rightD, e1, e2, e3, e4]
  rfl
theorem applied_of (a b : State) (h : b.words.length ≤ 400) : applied a (delOf a b) = b := by
  rw [applied, if_pos (right_of a b h)]
  have : applyW (base a.words b.words.length) ((chgList a.words 0 b.words).map chgI) = b.words := by
    have := applyW_chg a.words b.words [] 0 rfl
    simpa using this
  show State.mk b.cfg b.second (applyW (base a.words ((b.words.length : Nat) : Int).toNat) ((chgList a.words 0 b.words).map chgI)) b.top b.table b.free b.slots = b
  rw [Int.toNat_natCast, this]

theorem deltaof_law (H : Heap) (hlo : H.lo ≤ H.next) (va vb : Value) (a b : State) (ha : StV H va a) (hb : StV H vb b) : CallA E (fnv 3) [va, vb] H fun v _ => v = .bool true := by
  have hav := ha
  have hbv := hb
  obtain ⟨w, t, f, sl, rfl, hA⟩ := ha
  obtain ⟨wa, wc, ta, tc, fa, fc, sa, sc, rfl, rfl, rfl, rfl⟩ := hA.lit
  obtain ⟨w, t, f, sl, rfl, hB⟩ := hb
  obtain ⟨wb, wd, tb, td, fb, fd, sb, sd, rfl, rfl, rfl, rfl⟩ := hB.lit
  refine callA_fn (by kernel_rfl) fn3 rfl rfl ?_
  simp only [Tryz.f3, stateCells]
  simp (config := { maxSteps := 1000000 }) (disch := omega) only [↓sh, ↓reduceIte, sx, nbeq_ne, dle, relo_eq, wrap_i64, cond_true, cond_false, Option.bind_some, Option.bind_none, Option.map_some, Nat.add_zero, Nat.zero_add, List.getElem?_cons_zero, List.getElem?_cons_succ, List.getElem?_nil, List.getElem?_toArray, List.length_cons, List.length_nil, List.drop_zero, List.drop_succ_cons, List.drop_nil, List.take_zero, List.take_succ_cons, List.take_nil, List.append_nil, List.nil_append, List.cons_append, List.all_cons, List.all_nil, true_and, and_true, Bool.not_true, Bool.not_false, Bool.true_and, Bool.and_true, Bool.false_and, Bool.and_false, Bool.true_or, Bool.or_true, Bool.false_or, Bool.or_false, decide_true, decide_false, beq_self_eq_true, if_true, if_false, Nat.reduceBEq, Nat.reduceLT, Nat.reduceLeDiff, Nat.reduceAdd, Nat.reduceMul, Nat.reduceEqDiff, Int.reduceEq, Int.reduceLT, Int.reduceLE, eq_self, Int.reduceNeg, Option.isSome_some, cutAll1, cutAll2, cutAll3, cutAll10, cutAll11, cutFirst4, fa_28_0, fa_28_1, fa_28_2, fa_28_3, fa_28_4, fa_28_5, fa_28_6, fa_33_0, fa_33_1, fa_33_2, fa_33_3, fa_33_4, fa_33_5, fa_33_6, fa_33_7, fa_43_0, fa_43_1, agg_28, size_28, zero_28, lit_28, agg_33, size_33, zero_33, lit_33, agg_43, size_43, zero_43, lit_43, agg_23, agg_4, agg_3, agg_41, agg_24, agg_25, agg_26, agg_31, size_41, size_23, size_24, size_25, size_26, size_31, len_24, len_25, len_26, len_31, len_40, ia_24, bs_24, app_24, appT_24, ia_31, bs_31, app_31, appT_31, ia_40, bs_40, app_40, appT_40, ble_dec, repeat_succ, repeat_zero]
  refine callA_named (fun H1 e1 => ?_)
  have n1 : H1.next = H.next + 1 + 1 := by rw [e1]; simp (disch := omega) only [setRow_get, newRow_get, newRow_next, setRow_next, newRow_lo, setRow_lo, newRow_grps, setRow_grps, newRow_relo, setRow_relo, relo_objs, relo_next, relo_lo, nbeq_ne, cond_false, cond_true, beq_self_eq_true]
  have l1 : H1.lo = H.lo := by rw [e1]; simp (disch := omega) only [setRow_get, newRow_get, newRow_next, setRow_next, newRow_lo, setRow_lo, newRow_grps, setRow_grps, newRow_relo, setRow_relo, relo_objs, relo_next, relo_lo, nbeq_ne, cond_false, cond_true, beq_self_eq_true]
  have gA : H1.objs.get H.next = some (.row [Value.int .i64 a.cfg.semi, Value.int .i64 a.cfg.large, Value.int .i64 a.cfg.slots, Value.int .i64 a.cfg.limit, Value.bool a.second, Value.slice wa a.words.length wc, Value.int .i64 a.top, Value.slice ta a.table.length tc, Value.slice fa a.free.length fc, Value.slice sa a.slots.length sc] none true) := by rw [e1]; simp (disch := omega) only [setRow_get, newRow_get, newRow_next, setRow_next, newRow_lo, setRow_lo, newRow_grps, setRow_grps, newRow_relo, setRow_relo, relo_objs, relo_next, relo_lo, nbeq_ne, cond_false, cond_true, beq_self_eq_true]
  have gB : H1.objs.get (H.next + 1) = some (.row [Value.int .i64 b.cfg.semi, Value.int .i64 b.cfg.large, Value.int .i64 b.cfg.slots, Value.int .i64 b.cfg.limit, Value.bool b.second, Value.slice wb b.words.length wd, Value.int .i64 b.top, Value.slice tb b.table.length td, Value.slice fb b.free.length fd, Value.slice sb b.slots.length sd] none true) := by rw [e1]; simp (disch := omega) only [setRow_get, newRow_get, newRow_next, setRow_next, newRow_lo, setRow_lo, newRow_grps, setRow_grps, newRow_relo, setRow_relo, relo_objs, relo_next, relo_lo, nbeq_ne, cond_false, cond_true, beq_self_eq_true]
  have s1 : Same H H1 := by rw [e1]; exact (same_newRow _).newRow _
  clear e1
  refine (large_ok H1 (by omega) _ a (hav.mono s1)).mono ?_
  rintro r H2 ⟨rfl, s2⟩
  have n2 := s2.nxt
  have l2 := s2.lo
  have s12 := s1.trans s2
  have gA := s2.keeps (by omega) gA
  have gB := s2.keeps (by omega) gB
  cases xa : largeS a
  case true =>
    simp (config := { maxSteps := 1000000 }) (disch := omega) only [↓sh, ↓reduceIte, sx, nbeq_ne, dle, relo_eq, wrap_i64, cond_true, cond_false, Option.bind_some, Option.bind_none, Option.map_some, Nat.add_zero, Nat.zero_add, List.getElem?_cons_zero, List.getElem?_cons_succ, List.getElem?_nil, List.getElem?_toArray, List.length_cons, List.length_nil, List.drop_zero, List.drop_succ_cons, List.drop_nil, List.take_zero, List.take_succ_cons, List.take_nil, List.append_nil, List.nil_append, List.cons_append, List.all_cons, List.all_nil, true_and, and_true, Bool.not_true, Bool.not_false, Bool.true_and, Bool.and_true, Bool.false_and, Bool.and_false, Bool.true_or, Bool.or_true, Bool.false_or, Bool.or_false, decide_true, decide_false, beq_self_eq_true, if_true, if_false, Nat.reduceBEq, Nat.reduceLT, Nat.reduceLeDiff, Nat.reduceAdd, Nat.reduceMul, Nat.reduceEqDiff, Int.reduceEq, Int.reduceLT, Int.reduceLE, eq_self, Int.reduceNeg, Option.isSome_some, cutAll1, cutAll2, cutAll3, cutAll10, cutAll11, cutFirst4, fa_28_0, fa_28_1, fa_28_2, fa_28_3, fa_28_4, fa_28_5, fa_28_6, fa_33_0, fa_33_1, fa_33_2, fa_33_3, fa_33_4, fa_33_5, fa_33_6, fa_33_7, fa_43_0, fa_43_1, agg_28, size_28, zero_28, lit_28, agg_33, size_33, zero_33, lit_33, agg_43, size_43, zero_43, lit_43, agg_23, agg_4, agg_3, agg_41, agg_24, agg_25, agg_26, agg_31, size_41, size_23, size_24, size_25, size_26, size_31, len_24, len_25, len_26, len_31, len_40, ia_24, bs_24, app_24, appT_24, ia_31, bs_31, app_31, appT_31, ia_40, bs_40, app_40, appT_40, ble_dec, repeat_succ, repeat_zero]
    refine (awake_ok _).mono ?_
    rintro v Hd ⟨rfl, rfl⟩
    try simp (config := { maxSteps := 1000000 }) (disch := omega) only [↓sh, ↓reduceIte, sx, nbeq_ne, dle, relo_eq, wrap_i64, cond_true, cond_false, Option.bind_some, Option.bind_none, Option.map_some, Nat.add_zero, Nat.zero_add, List.getElem?_cons_zero, List.getElem?_cons_succ, List.getElem?_nil, List.getElem?_toArray, List.length_cons, List.length_nil, List.drop_zero, List.drop_succ_cons, List.drop_nil, List.take_zero, List.take_succ_cons, List.take_nil, List.append_nil, List.nil_append, List.cons_append, List.all_cons, List.all_nil, true_and, and_true, Bool.not_true, Bool.not_false, Bool.true_and, Bool.and_true, Bool.false_and, Bool.and_false, Bool.true_or, Bool.or_true, Bool.false_or, Bool.or_false, decide_true, decide_false, beq_self_eq_true, if_true, if_false, Nat.reduceBEq, Nat.reduceLT, Nat.reduceLeDiff, Nat.reduceAdd, Nat.reduceMul, Nat.reduceEqDiff, Int.reduceEq, Int.reduceLT, Int.reduceLE, eq_self, Int.reduceNeg, Option.isSome_some]
  simp (config := { maxSteps := 1000000 }) (disch := omega) only [↓sh, ↓reduceIte, sx, nbeq_ne, dle, relo_eq, wrap_i64, cond_true, cond_false, Option.bind_some, Option.bind_none, Option.map_some, Nat.add_zero, Nat.zero_add, List.getElem?_cons_zero, List.getElem?_cons_succ, List.getElem?_nil, List.getElem?_toArray, List.length_cons, List.length_nil, List.drop_zero, List.drop_succ_cons, List.drop_nil, List.take_zero, List.take_succ_cons, List.take_nil, List.append_nil, List.nil_append, List.cons_append, List.all_cons, List.all_nil, true_and, and_true, Bool.not_true, Bool.not_false, Bool.true_and, Bool.and_true, Bool.false_and, Bool.and_false, Bool.true_or, Bool.or_true, Bool.false_or, Bool.or_false, decide_true, decide_false, beq_self_eq_true, if_true, if_false, Nat.reduceBEq, Nat.reduceLT, Nat.reduceLeDiff, Nat.reduceAdd, Nat.reduceMul, Nat.reduceEqDiff, Int.reduceEq, Int.reduceLT, Int.reduceLE, eq_self, Int.reduceNeg, Option.isSome_some, cutAll1, cutAll2, cutAll3, cutAll10, cutAll11, cutFirst4, fa_28_0, fa_28_1, fa_28_2, fa_28_3, fa_28_4, fa_28_5, fa_28_6, fa_33_0, fa_33_1, fa_33_2, fa_33_3, fa_33_4, fa_33_5, fa_33_6, fa_33_7, fa_43_0, fa_43_1, agg_28, size_28, zero_28, lit_28, agg_33, size_33, zero_33, lit_33, agg_43, size_43, zero_43, lit_43, agg_23, agg_4, agg_3, agg_41, agg_24, agg_25, agg_26, agg_31, size_41, size_23, size_24, size_25, size_26, size_31, len_24, len_25, len_26, len_31, len_40, ia_24, bs_24, app_24, appT_24, ia_31, bs_31, app_31, appT_31, ia_40, bs_40, app_40, appT_40, ble_dec, repeat_succ, repeat_zero, gB]
  refine (large_ok H2 (by omega) _ b (hbv.mono s12)).mono ?_
  rintro r H3 ⟨rfl, s3⟩
  have n3 := s3.nxt
  have l3 := s3.lo
  have s13 := s12.trans s3
  have gA := s3.keeps (by omega) gA
  have gB := s3.keeps (by omega) gB
  cases xb : largeS b
  case true =>
    simp (config := { maxSteps := 1000000 }) (disch := omega) only [↓sh, ↓reduceIte, sx, nbeq_ne, dle, relo_eq, wrap_i64, cond_true, cond_false, Option.bind_some, Option.bind_none, Option.map_some, Nat.add_zero, Nat.zero_add, List.getElem?_cons_zero, List.getElem?_cons_succ, List.getElem?_nil, List.getElem?_toArray, List.length_cons, List.length_nil, List.drop_zero, List.drop_succ_cons, List.drop_nil, List.take_zero, List.take_succ_cons, List.take_nil, List.append_nil, List.nil_append, List.cons_append, List.all_cons, List.all_nil, true_and, and_true, Bool.not_true, Bool.not_false, Bool.true_and, Bool.and_true, Bool.false_and, Bool.and_false, Bool.true_or, Bool.or_true, Bool.false_or, Bool.or_false, decide_true, decide_false, beq_self_eq_true, if_true, if_false, Nat.reduceBEq, Nat.reduceLT, Nat.reduceLeDiff, Nat.reduceAdd, Nat.reduceMul, Nat.reduceEqDiff, Int.reduceEq, Int.reduceLT, Int.reduceLE, eq_self, Int.reduceNeg, Option.isSome_some, cutAll1, cutAll2, cutAll3, cutAll10, cutAll11, cutFirst4, fa_28_0, fa_28_1, fa_28_2, fa_28_3, fa_28_4, fa_28_5, fa_28_6, fa_33_0, fa_33_1, fa_33_2, fa_33_3, fa_33_4, fa_33_5, fa_33_6, fa_33_7, fa_43_0, fa_43_1, agg_28, size_28, zero_28, lit_28, agg_33, size_33, zero_33, lit_33, agg_43, size_43, zero_43, lit_43, agg_23, agg_4, agg_3, agg_41, agg_24, agg_25, agg_26, agg_31, size_41, size_23, size_24, size_25, size_26, size_31, len_24, len_25, len_26, len_31, len_40, ia_24, bs_24, app_24, appT_24, ia_31, bs_31, app_31, appT_31, ia_40, bs_40, app_40, appT_40, ble_dec, repeat_succ, repeat_zero]
    refine (awake_ok _).mono ?_
    rintro v Hd ⟨rfl, rfl⟩
    try simp (config := { maxSteps := 1000000 }) (disch := omega) only [↓sh, ↓reduceIte, sx, nbeq_ne, dle, relo_eq, wrap_i64, cond_true, cond_false, Option.bind_some, Option.bind_none, Option.map_some, Nat.add_zero, Nat.zero_add, List.getElem?_cons_zero, List.getElem?_cons_succ, List.getElem?_nil, List.getElem?_toArray, List.length_cons, List.length_nil, List.drop_zero, List.drop_succ_cons, List.drop_nil, List.take_zero, List.take_succ_cons, List.take_nil, List.append_nil, List.nil_append, List.cons_append, List.all_cons, List.all_nil, true_and, and_true, Bool.not_true, Bool.not_false, Bool.true_and, Bool.and_true, Bool.false_and, Bool.and_false, Bool.true_or, Bool.or_true, Bool.false_or, Bool.or_false, decide_true, decide_false, beq_self_eq_true, if_true, if_false, Nat.reduceBEq, Nat.reduceLT, Nat.reduceLeDiff, Nat.reduceAdd, Nat.reduceMul, Nat.reduceEqDiff, Int.reduceEq, Int.reduceLT, Int.reduceLE, eq_self, Int.reduceNeg, Option.isSome_some]
  obtain ⟨hb1, hb2, hb3, hb4⟩ := large_no xb
  simp (config := { maxSteps := 1000000 }) (disch := omega) only [↓sh, ↓reduceIte, sx, nbeq_ne, dle, relo_eq, wrap_i64, cond_true, cond_false, Option.bind_some, Option.bind_none, Option.map_some, Nat.add_zero, Nat.zero_add, List.getElem?_cons_zero, List.getElem?_cons_succ, List.getElem?_nil, List.getElem?_toArray, List.length_cons, List.length_nil, List.drop_zero, List.drop_succ_cons, List.drop_nil, List.take_zero, List.take_succ_cons, List.take_nil, List.append_nil, List.nil_append, List.cons_append, List.all_cons, List.all_nil, true_and, and_true, Bool.not_true, Bool.not_false, Bool.true_and, Bool.and_true, Bool.false_and, Bool.and_false, Bool.true_or, Bool.or_true, Bool.false_or, Bool.or_false, decide_true, decide_false, beq_self_eq_true, if_true, if_false, Nat.reduceBEq, Nat.reduceLT, Nat.reduceLeDiff, Nat.reduceAdd, Nat.reduceMul, Nat.reduceEqDiff, Int.reduceEq, Int.reduceLT, Int.reduceLE, eq_self, Int.reduceNeg, Option.isSome_some, cutAll1, cutAll2, cutAll3, cutAll10, cutAll11, cutFirst4, fa_28_0, fa_28_1, fa_28_2, fa_28_3, fa_28_4, fa_28_5, fa_28_6, fa_33_0, fa_33_1, fa_33_2, fa_33_3, fa_33_4, fa_33_5, fa_33_6, fa_33_7, fa_43_0, fa_43_1, agg_28, size_28, zero_28, lit_28, agg_33, size_33, zero_33, lit_33, agg_43, size_43, zero_43, lit_43, agg_23, agg_4, agg_3, agg_41, agg_24, agg_25, agg_26, agg_31, size_41, size_23, size_24, size_25, size_26, size_31, len_24, len_25, len_26, len_31, len_40, ia_24, bs_24, app_24, appT_24, ia_31, bs_31, app_31, appT_31, ia_40, bs_40, app_40, appT_40, ble_dec, repeat_succ, repeat_zero, gA, gB]
  refine (of_ok H3 (by omega) _ _ a b (hav.mono s13) (hbv.mono s13) (by omega) (by omega) (by omega) (by omega)).mono ?_
  rintro r H4 ⟨hDv, s4⟩
  have n4 := s4.nxt
  have l4 := s4.lo
  have s14 := s13.trans s4
  have gA := s4.keeps (by omega) gA
  have gB := s4.keeps (by omega) gB
  replace hDv : DelV H4 r (delOf a b) := hDv
  have hDv0 := hDv
  obtain ⟨w, t, f, sl, rfl, hD⟩ := hDv
  obtain ⟨we, wf, te, tf, fe, ff, se, sf, rfl, rfl, rfl, rfl⟩ := hD.lit
  simp only [delCells]
  simp (config := { maxSteps := 1000000 }) (disch := omega) only [↓sh, ↓reduceIte, sx, nbeq_ne, dle, relo_eq, wrap_i64, cond_true, cond_false, Option.bind_some, Option.bind_none, Option.map_some, Nat.add_zero, Nat.zero_add, List.getElem?_cons_zero, List.getElem?_cons_succ, List.getElem?_nil, List.getElem?_toArray, List.length_cons, List.length_nil, List.drop_zero, List.drop_succ_cons, List.drop_nil, List.take_zero, List.take_succ_cons, List.take_nil, List.append_nil, List.nil_append, List.cons_append, List.all_cons, List.all_nil, true_and, and_true, Bool.not_true, Bool.not_false, Bool.true_and, Bool.and_true, Bool.false_and, Bool.and_false, Bool.true_or, Bool.or_true, Bool.false_or, Bool.or_false, decide_true, decide_false, beq_self_eq_true, if_true, if_false, Nat.reduceBEq, Nat.reduceLT, Nat.reduceLeDiff, Nat.reduceAdd, Nat.reduceMul, Nat.reduceEqDiff, Int.reduceEq, Int.reduceLT, Int.reduceLE, eq_self, Int.reduceNeg, Option.isSome_some, cutAll1, cutAll2, cutAll3, cutAll10, cutAll11, cutFirst4, fa_28_0, fa_28_1, fa_28_2, fa_28_3, fa_28_4, fa_28_5, fa_28_6, fa_33_0, fa_33_1, fa_33_2, fa_33_3, fa_33_4, fa_33_5, fa_33_6, fa_33_7, fa_43_0, fa_43_1, agg_28, size_28, zero_28, lit_28, agg_33, size_33, zero_33, lit_33, agg_43, size_43, zero_43, lit_43, agg_23, agg_4, agg_3, agg_41, agg_24, agg_25, agg_26, agg_31, size_41, size_23, size_24, size_25, size_26, size_31, len_24, len_25, len_26, len_31, len_40, ia_24, bs_24, app_24, appT_24, ia_31, bs_31, app_31, appT_31, ia_40, bs_40, app_40, appT_40, ble_dec, repeat_succ, repeat_zero, gA, gB]
  refine callA_named (fun H5 e5 => ?_)
  have n5 : H5.next = H4.next + 1 := by rw [e5]; simp (disch := omega) only [setRow_get, newRow_get, newRow_next, setRow_next, newRow_lo, setRow_lo, newRow_grps, setRow_grps, newRow_relo, setRow_relo, relo_objs, relo_next, relo_lo, nbeq_ne, cond_false, cond_true, beq_self_eq_true]
  have l5 : H5.lo = H4.lo := by rw [e5]; simp (disch := omega) only [setRow_get, newRow_get, newRow_next, setRow_next, newRow_lo, setRow_lo, newRow_grps, setRow_grps, newRow_relo, setRow_relo, relo_objs, relo_next, relo_lo, nbeq_ne, cond_false, cond_true, beq_self_eq_true]
  have gE : H5.objs.get H4.next = some (.row (delCells (delOf a b) (.slice we (delOf a b).words.length wf) (.slice te (delOf a b).table.length tf) (.slice fe (delOf a b).free.length ff) (.slice se (delOf a b).slots.length sf)) none true) := by rw [e5, setRow_get, nbeq_eq rfl]; rfl
  have s5 : Same H4 H5 := by rw [e5]; exact same_box _ _ _
  clear e5
  have s15 := s14.trans s5
  have gA := s5.keeps (by omega) gA
  have gB := s5.keeps (by omega) gB
  have hlen : (delOf a b).words.length ≤ 400 := by
    show ((chgList a.words 0 b.words).map chgI).length ≤ 400
    rw [List.length_map]
    have := chg_len a.words b.words 0
    omega
  refine (apply_ok H5 (by omega) _ _ a (delOf a b) (hav.mono s15) (hDv0.mono s5) hlen (show b.table.length ≤ 400 by omega) (show b.free.length ≤ 400 by omega) (show b.slots.length ≤ 400 by omega)).mono ?_
  rintro r H6 ⟨⟨sv, rfl, hS⟩, s6⟩
  rw [right_of a b hb1, applied_of a b hb1] at *
  have n6 := s6.nxt
  have l6 := s6.lo
  have s16 := s15.trans s6
  have gA := s6.keeps (by omega) gA
  have gB := s6.keeps (by omega) gB
  have gE := s6.keeps (by omega) gE
  have hSv := hS
  obtain ⟨w, t, f, sl, rfl, hS⟩ := hS
  obtain ⟨wg, wh', tg, th, fg, fh, sg, sh', rfl, rfl, rfl, rfl⟩ := hS.lit
  simp only [stateCells, delCells] at gE ⊢
  simp (config := { maxSteps := 1000000 }) (disch := omega) only [↓sh, ↓reduceIte, sx, nbeq_ne, dle, relo_eq, wrap_i64, cond_true, cond_false, Option.bind_some, Option.bind_none, Option.map_some, Nat.add_zero, Nat.zero_add, List.getElem?_cons_zero, List.getElem?_cons_succ, List.getElem?_nil, List.getElem?_toArray, List.length_cons, List.length_nil, List.drop_zero, List.drop_succ_cons, List.drop_nil, List.take_zero, List.take_succ_cons, List.take_nil, List.append_nil, List.nil_append, List.cons_append, List.all_cons, List.all_nil, true_and, and_true, Bool.not_true, Bool.not_false, Bool.true_and, Bool.and_true, Bool.false_and, Bool.and_false, Bool.true_or, Bool.or_true, Bool.false_or, Bool.or_false, decide_true, decide_false, beq_self_eq_true, if_true, if_false, Nat.reduceBEq, Nat.reduceLT, Nat.reduceLeDiff, Nat.reduceAdd, Nat.reduceMul, Nat.reduceEqDiff, Int.reduceEq, Int.reduceLT, Int.reduceLE, eq_self, Int.reduceNeg, Option.isSome_some, cutAll1, cutAll2, cutAll3, cutAll10, cutAll11, cutFirst4, fa_28_0, fa_28_1, fa_28_2, fa_28_3, fa_28_4, fa_28_5, fa_28_6, fa_33_0, fa_33_1, fa_33_2, fa_33_3, fa_33_4, fa_33_5, fa_33_6, fa_33_7, fa_43_0, fa_43_1, agg_28, size_28, zero_28, lit_28, agg_33, size_33, zero_33, lit_33, agg_43, size_43, zero_43, lit_43, agg_23, agg_4, agg_3, agg_41, agg_24, agg_25, agg_26, agg_31, size_41, size_23, size_24, size_25, size_26, size_31, len_24, len_25, len_26, len_31, len_40, ia_24, bs_24, app_24, appT_24, ia_31, bs_31, app_31, appT_31, ia_40, bs_40, app_40, appT_40, ble_dec, repeat_succ, repeat_zero, gA, gB, gE]
  refine callA_named (fun H7 e7 => ?_)
  have n7 : H7.next = H6.next + 1 := by rw [e7]; simp (disch := omega) only [setRow_get, newRow_get, newRow_next, setRow_next, newRow_lo, setRow_lo, newRow_grps, setRow_grps, newRow_relo, setRow_relo, relo_objs, relo_next, relo_lo, nbeq_ne, cond_false, cond_true, beq_self_eq_true]
  have l7 : H7.lo = H6.lo := by rw [e7]; simp (disch := omega) only [setRow_get, newRow_get, newRow_next, setRow_next, newRow_lo, setRow_lo, newRow_grps, setRow_grps, newRow_relo, setRow_relo, relo_objs, relo_next, relo_lo, nbeq_ne, cond_false, cond_true, beq_self_eq_true]
  have gC : H7.objs.get H6.next = some (.row [Value.int .i64 b.cfg.semi, Value.int .i64 b.cfg.large, Value.int .i64 b.cfg.slots, Value.int .i64 b.cfg.limit, Value.bool b.second, Value.slice wg b.words.length wh', Value.int .i64 b.top, Value.slice tg b.table.length th, Value.slice fg b.free.length fh, Value.slice sg b.slots.length sh'] none true) := by rw [e7]; simp (disch := omega) only [setRow_get, newRow_get, newRow_next, setRow_next, newRow_lo, setRow_lo, newRow_grps, setRow_grps, newRow_relo, setRow_relo, relo_objs, relo_next, relo_lo, nbeq_ne, cond_false, cond_true, beq_self_eq_true]
  have s7 : Same H6 H7 := by rw [e7]; exact same_box _ _ _
  clear e7
  have s17 := s16.trans s7
  have gB := s7.keeps (by omega) gB
  have sD7 := (s5.trans s6).trans s7
  refine (is_ok H7 (by omega) _ _ _ a b (hDv0.mono sD7) (hav.mono s17) (hbv.mono s17) (by omega)).mono ?_
  rintro r H8 ⟨rfl, s8⟩
  have n8 := s8.nxt
  have l8 := s8.lo
  have s18 := s17.trans s8
  have gB := s8.keeps (by omega) gB
  have gC := s8.keeps (by omega) gC
  simp (config := { maxSteps := 1000000 }) (disch := omega) only [↓sh, ↓reduceIte, sx, nbeq_ne, dle, relo_eq, wrap_i64, cond_true, cond_false, Option.bind_some, Option.bind_none, Option.map_some, Nat.add_zero, Nat.zero_add, List.getElem?_cons_zero, List.getElem?_cons_succ, List.getElem?_nil, List.getElem?_toArray, List.length_cons, List.length_nil, List.drop_zero, List.drop_succ_cons, List.drop_nil, List.take_zero, List.take_succ_cons, List.take_nil, List.append_nil, List.nil_append, List.cons_append, List.all_cons, List.all_nil, true_and, and_true, Bool.not_true, Bool.not_false, Bool.true_and, Bool.and_true, Bool.false_and, Bool.and_false, Bool.true_or, Bool.or_true, Bool.false_or, Bool.or_false, decide_true, decide_false, beq_self_eq_true, if_true, if_false, Nat.reduceBEq, Nat.reduceLT, Nat.reduceLeDiff, Nat.reduceAdd, Nat.reduceMul, Nat.reduceEqDiff, Int.reduceEq, Int.reduceLT, Int.reduceLE, eq_self, Int.reduceNeg, Option.isSome_some, cutAll1, cutAll2, cutAll3, cutAll10, cutAll11, cutFirst4, fa_28_0, fa_28_1, fa_28_2, fa_28_3, fa_28_4, fa_28_5, fa_28_6, fa_33_0, fa_33_1, fa_33_2, fa_33_3, fa_33_4, fa_33_5, fa_33_6, fa_33_7, fa_43_0, fa_43_1, agg_28, size_28, zero_28, lit_28, agg_33, size_33, zero_33, lit_33, agg_43, size_43, zero_43, lit_43, agg_23, agg_4, agg_3, agg_41, agg_24, agg_25, agg_26, agg_31, size_41, size_23, size_24, size_25, size_26, size_31, len_24, len_25, len_26, len_31, len_40, ia_24, bs_24, app_24, appT_24, ia_31, bs_31, app_31, appT_31, ia_40, bs_40, app_40, appT_40, ble_dec, repeat_succ, repeat_zero, gB, gC]
  refine (state_same H8 (by omega) _ _ b (hSv.mono (s7.trans s8)) (hbv.mono s18)).mono ?_
  rintro r H9 ⟨rfl, s9⟩
  simp (config := { maxSteps := 1000000 }) (disch := omega) only [↓sh, ↓reduceIte, sx, nbeq_ne, dle, relo_eq, wrap_i64, cond_true, cond_false, Option.bind_some, Option.bind_none, Option.map_some, Nat.add_zero, Nat.zero_add, List.getElem?_cons_zero, List.getElem?_cons_succ, List.getElem?_nil, List.getElem?_toArray, List.length_cons, List.length_nil, List.drop_zero, List.drop_succ_cons, List.drop_nil, List.take_zero, List.take_succ_cons, List.take_nil, List.append_nil, List.nil_append, List.cons_append, List.all_cons, List.all_nil, true_and, and_true, Bool.not_true, Bool.not_false, Bool.true_and, Bool.and_true, Bool.false_and, Bool.and_false, Bool.true_or, Bool.or_true, Bool.false_or, Bool.or_false, decide_true, decide_false, beq_self_eq_true, if_true, if_false, Nat.reduceBEq, Nat.reduceLT, Nat.reduceLeDiff, Nat.reduceAdd, Nat.reduceMul, Nat.reduceEqDiff, Int.reduceEq, Int.reduceLT, Int.reduceLE, eq_self, Int.reduceNeg, Option.isSome_some, cutAll1, cutAll2, cutAll3, cutAll10, cutAll11, cutFirst4, fa_28_0, fa_28_1, fa_28_2, fa_28_3, fa_28_4, fa_28_5, fa_28_6, fa_33_0, fa_33_1, fa_33_2, fa_33_3, fa_33_4, fa_33_5, fa_33_6, fa_33_7, fa_43_0, fa_43_1, agg_28, size_28, zero_28, lit_28, agg_33, size_33, zero_33, lit_33, agg_43, size_43, zero_43, lit_43, agg_23, agg_4, agg_3, agg_41, agg_24, agg_25, agg_26, agg_31, size_41, size_23, size_24, size_25, size_26, size_31, len_24, len_25, len_26, len_31, len_40, ia_24, bs_24, app_24, appT_24, ia_31, bs_31, app_31, appT_31, ia_40, bs_40, app_40, appT_40, ble_dec, repeat_succ, repeat_zero]
  refine (awake_ok _).mono ?_
  rintro v Hd ⟨rfl, rfl⟩
  try simp (config := { maxSteps := 1000000 }) (disch := omega) only [↓sh, ↓reduceIte, sx, nbeq_ne, dle, relo_eq, wrap_i64, cond_true, cond_false, Option.bind_some, Option.bind_none, Option.map_some, Nat.add_zero, Nat.zero_add, List.getElem?_cons_zero, List.getElem?_cons_succ, List.getElem?_nil, List.getElem?_toArray, List.length_cons, List.length_nil, List.drop_zero, List.drop_succ_cons, List.drop_nil, List.take_zero, List.take_succ_cons, List.take_nil, List.append_nil, List.nil_append, List.cons_append, List.all_cons, List.all_nil, true_and, and_true, Bool.not_true, Bool.not_false, Bool.true_and, Bool.and_true, Bool.false_and, Bool.and_false, Bool.true_or, Bool.or_true, Bool.false_or, Bool.or_false, decide_true, decide_false, beq_self_eq_true, if_true, if_false, Nat.reduceBEq, Nat.reduceLT, Nat.reduceLeDiff, Nat.reduceAdd, Nat.reduceMul, Nat.reduceEqDiff, Int.reduceEq, Int.reduceLT, Int.reduceLE, eq_self, Int.reduceNeg, Option.isSome_some]
end Go.AM
