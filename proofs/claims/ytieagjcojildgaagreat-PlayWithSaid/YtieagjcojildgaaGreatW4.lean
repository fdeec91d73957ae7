/-
  Walks over letters of the functions that the law reaches.
-/
import Derived.Test.YtieagjcojildgaaGreatW3
namespace Go.AM
attribute [local instance] fnMaps
open Go Go.Proofs
set_option maxRecDepth 100000
set_option maxHeartbeats 1000000
set_option linter.unusedSimpArgs false
theorem fn3 : E.fn.get 3 = some Tryz.f3 := by kernel_rfl
theorem awake_ok (H : Heap) : CallA E (fnv 4) [] H fun v H' => v = .bool true ∧ H' = H := ⟨0, .bool true, H, by kernel_rfl, rfl, rfl⟩
theorem cut45 (a b c d e f g h i j k : Value) : cut [a, b, c, d, e, f, g, h, i, j, k] 4 2 = some [e, f] := Eq.trans (cut_eq _ _ _) rfl
theorem elems_cells {H : Heap} : ∀ {l : List Op} {cs : List Value}, Elems RW 11 H cs l → cs.all isCell = true := by
  intro l cs h
  rw [List.all_eq_true]
  intro v hv
  obtain ⟨n, hn⟩ := List.mem_iff_getElem?.1 hv
  have hlt := (List.getElem?_eq_some_iff.1 hn).1
  have hlen := h.1
  have hq : n / 11 < l.length := by omega
  obtain ⟨part, h1, h2, _⟩ := h.2 (n / 11) l[n / 11] (by simp [hq])
  obtain ⟨h3, rfl⟩ := cut_inv h1
  have h4 : ((cs.drop (n / 11 * 11)).take 11)[n % 11]? = some v := by
    rw [List.getElem?_take, if_pos (by omega), List.getElem?_drop, show n / 11 * 11 + n % 11 = n by omega, hn]
  rw [h2] at h4
  have h5 : (l[n / 11]).cells.all isCell = true := rfl
  exact List.all_eq_true.1 h5 v (List.mem_of_getElem? h4)
theorem playWith_ok (H : Heap) (hlo : H.lo ≤ H.next) (va vp : Value) (l : List Op) (p : List Int) (ha : SL RW 11 H va l) (hra : Rowed H va) (hp : PSL H vp p) : CallA E (fnv 3) [va, vp] H fun v _ => v = .bool true := by
  obtain ⟨pa, pcap, rfl, hp2, hp3⟩ := id hp
  have s1 : Same H (H.newRow []) := same_newRow _
  obtain ⟨a, ca, cs0, rfl, hread1, he0⟩ := (ha.ext RW.mono s1.ext).reading (hra.same s1)
  refine callA_fn (by kernel_rfl) fn3 rfl rfl ?_
  simp only [Tryz.f3]
  cases x1 : decide (100 < (l.length : Int))
  case true =>
    simp (config := { maxSteps := 1000000 }) (disch := omega) only [↓sh, ↓reduceIte, sx, nbeq_ne, dle, relo_eq, wrap_i64, cond_true, cond_false, Option.bind_some, Option.bind_none, Option.map_some, Nat.add_zero, Nat.zero_add, List.getElem?_cons_zero, List.getElem?_cons_succ, List.getElem?_nil, List.getElem?_toArray, List.length_cons, List.length_nil, List.drop_zero, List.drop_succ_cons, List.drop_nil, List.take_zero, List.take_succ_cons, List.take_nil, List.append_nil, List.nil_append, List.cons_append, List.all_cons, List.all_nil, true_and, and_true, Bool.not_true, Bool.not_false, Bool.true_and, Bool.and_true, Bool.false_and, Bool.and_false, Bool.true_or, Bool.or_true, Bool.false_or, Bool.or_false, decide_true, decide_false, beq_self_eq_true, if_true, if_false, Nat.reduceBEq, Nat.reduceLT, Nat.reduceLeDiff, Nat.reduceAdd, Nat.reduceMul, Nat.reduceEqDiff, Int.reduceEq, Int.reduceLT, Int.reduceLE, eq_self, Int.reduceNeg, Option.isSome_some, len_22, len_23, ia_22, agg_30, size_30, bs_22, app_22, appT_22, ble_dec, repeat_succ, repeat_zero, x1]
    refine (awake_ok _).mono ?_
    rintro v Hd ⟨rfl, rfl⟩
    try simp (config := { maxSteps := 1000000 }) (disch := omega) only [↓sh, ↓reduceIte, sx, nbeq_ne, dle, relo_eq, wrap_i64, cond_true, cond_false, Option.bind_some, Option.bind_none, Option.map_some, Nat.add_zero, Nat.zero_add, List.getElem?_cons_zero, List.getElem?_cons_succ, List.getElem?_nil, List.getElem?_toArray, List.length_cons, List.length_nil, List.drop_zero, List.drop_succ_cons, List.drop_nil, List.take_zero, List.take_succ_cons, List.take_nil, List.append_nil, List.nil_append, List.cons_append, List.all_cons, List.all_nil, true_and, and_true, Bool.not_true, Bool.not_false, Bool.true_and, Bool.and_true, Bool.false_and, Bool.and_false, Bool.true_or, Bool.or_true, Bool.false_or, Bool.or_false, decide_true, decide_false, beq_self_eq_true, if_true, if_false, Nat.reduceBEq, Nat.reduceLT, Nat.reduceLeDiff, Nat.reduceAdd, Nat.reduceMul, Nat.reduceEqDiff, Int.reduceEq, Int.reduceLT, Int.reduceLE, eq_self, Int.reduceNeg, Option.isSome_some]
  cases x2 : decide (200 < (p.length : Int))
  case true =>
    simp (config := { maxSteps := 1000000 }) (disch := omega) only [↓sh, ↓reduceIte, sx, nbeq_ne, dle, relo_eq, wrap_i64, cond_true, cond_false, Option.bind_some, Option.bind_none, Option.map_some, Nat.add_zero, Nat.zero_add, List.getElem?_cons_zero, List.getElem?_cons_succ, List.getElem?_nil, List.getElem?_toArray, List.length_cons, List.length_nil, List.drop_zero, List.drop_succ_cons, List.drop_nil, List.take_zero, List.take_succ_cons, List.take_nil, List.append_nil, List.nil_append, List.cons_append, List.all_cons, List.all_nil, true_and, and_true, Bool.not_true, Bool.not_false, Bool.true_and, Bool.and_true, Bool.false_and, Bool.and_false, Bool.true_or, Bool.or_true, Bool.false_or, Bool.or_false, decide_true, decide_false, beq_self_eq_true, if_true, if_false, Nat.reduceBEq, Nat.reduceLT, Nat.reduceLeDiff, Nat.reduceAdd, Nat.reduceMul, Nat.reduceEqDiff, Int.reduceEq, Int.reduceLT, Int.reduceLE, eq_self, Int.reduceNeg, Option.isSome_some, len_22, len_23, ia_22, agg_30, size_30, bs_22, app_22, appT_22, ble_dec, repeat_succ, repeat_zero, x1, x2]
    refine (awake_ok _).mono ?_
    rintro v Hd ⟨rfl, rfl⟩
    try simp (config := { maxSteps := 1000000 }) (disch := omega) only [↓sh, ↓reduceIte, sx, nbeq_ne, dle, relo_eq, wrap_i64, cond_true, cond_false, Option.bind_some, Option.bind_none, Option.map_some, Nat.add_zero, Nat.zero_add, List.getElem?_cons_zero, List.getElem?_cons_succ, List.getElem?_nil, List.getElem?_toArray, List.length_cons, List.length_nil, List.drop_zero, List.drop_succ_cons, List.drop_nil, List.take_zero, List.take_succ_cons, List.take_nil, List.append_nil, List.nil_append, List.cons_append, List.all_cons, List.all_nil, true_and, and_true, Bool.not_true, Bool.not_false, Bool.true_and, Bool.and_true, Bool.false_and, Bool.and_false, Bool.true_or, Bool.or_true, Bool.false_or, Bool.or_false, decide_true, decide_false, beq_self_eq_true, if_true, if_false, Nat.reduceBEq, Nat.reduceLT, Nat.reduceLeDiff, Nat.reduceAdd, Nat.reduceMul, Nat.reduceEqDiff, Int.reduceEq, Int.reduceLT, Int.reduceLE, eq_self, Int.reduceNeg, Option.isSome_some]
  have hl : l.length ≤ 100 := by have := of_decide_eq_false x1; omega
  have hpl : p.length ≤ 200 := by have := of_decide_eq_false x2; omega
  have own0 : Own H.next 11 (H.newRow []) (.slice (some ⟨H.next, 0, none⟩) 0 0) 0 [] := ⟨rfl, .inr ⟨H.next, rfl, Nat.le_refl _, by simp (disch := omega) only [setRow_get, newRow_get, newRow_next, setRow_next, newRow_lo, setRow_lo, newRow_grps, setRow_grps, newRow_relo, setRow_relo, relo_objs, relo_next, relo_lo, nbeq_ne, cond_false, cond_true, beq_self_eq_true]; omega, .inl (by simp (disch := omega) only [setRow_get, newRow_get, newRow_next, setRow_next, newRow_lo, setRow_lo, newRow_grps, setRow_grps, newRow_relo, setRow_relo, relo_objs, relo_next, relo_lo, nbeq_ne, cond_false, cond_true, beq_self_eq_true])⟩⟩
  obtain ⟨v5, H2, hap, ho2, hg2⟩ := append_all (bytes := 88) (k := l.length) (new := cs0) own0 (by simp (disch := omega) only [setRow_get, newRow_get, newRow_next, setRow_next, newRow_lo, setRow_lo, newRow_grps, setRow_grps, newRow_relo, setRow_relo, relo_objs, relo_next, relo_lo, nbeq_ne, cond_false, cond_true, beq_self_eq_true]; omega) (by simp (disch := omega) only [setRow_get, newRow_get, newRow_next, setRow_next, newRow_lo, setRow_lo, newRow_grps, setRow_grps, newRow_relo, setRow_relo, relo_objs, relo_next, relo_lo, nbeq_ne, cond_false, cond_true, beq_self_eq_true]; omega) he0.1 (elems_cells he0) (grow_ops (by omega))
  rw [Nat.zero_add, List.nil_append] at ho2
  have n2 := hg2.nxt
  have l2 := hg2.lo
  simp (disch := omega) only [setRow_get, newRow_get, newRow_next, setRow_next, newRow_lo, setRow_lo, newRow_grps, setRow_grps, newRow_relo, setRow_relo, relo_objs, relo_next, relo_lo, nbeq_ne, cond_false, cond_true, beq_self_eq_true] at n2 l2
  have s2 : Same H H2 := hg2.same s1 (by omega)
  have he2 := he0.ext RW.mono hg2.ext
  have hS5 : SL RW 11 H2 v5 l := ho2.reads rfl (by omega) he2
  have hv5 := hS5
  obtain ⟨a5, c5, rfl, _, e5⟩ := hv5
  simp (config := { maxSteps := 1000000 }) (disch := omega) only [↓sh, ↓reduceIte, sx, nbeq_ne, dle, relo_eq, wrap_i64, cond_true, cond_false, Option.bind_some, Option.bind_none, Option.map_some, Nat.add_zero, Nat.zero_add, List.getElem?_cons_zero, List.getElem?_cons_succ, List.getElem?_nil, List.getElem?_toArray, List.length_cons, List.length_nil, List.drop_zero, List.drop_succ_cons, List.drop_nil, List.take_zero, List.take_succ_cons, List.take_nil, List.append_nil, List.nil_append, List.cons_append, List.all_cons, List.all_nil, true_and, and_true, Bool.not_true, Bool.not_false, Bool.true_and, Bool.and_true, Bool.false_and, Bool.and_false, Bool.true_or, Bool.or_true, Bool.false_or, Bool.or_false, decide_true, decide_false, beq_self_eq_true, if_true, if_false, Nat.reduceBEq, Nat.reduceLT, Nat.reduceLeDiff, Nat.reduceAdd, Nat.reduceMul, Nat.reduceEqDiff, Int.reduceEq, Int.reduceLT, Int.reduceLE, eq_self, Int.reduceNeg, Option.isSome_some, len_22, len_23, ia_22, agg_30, size_30, bs_22, app_22, appT_22, ble_dec, repeat_succ, repeat_zero, x1, x2, hread1, hap]
  refine (with_ok H2 (by omega) _ _ l p hS5 (hp.same s2) hl hpl).mono ?_
  rintro v6 H3 ⟨hS6, s3⟩
  have n3 := s3.nxt
  have l3 := s3.lo
  have hv6 := hS6
  obtain ⟨a6, c6, rfl, _, _⟩ := hv6
  refine (rwith_ok H3 (by omega) _ _ l p (ha.ext RW.mono (s2.trans s3).ext) (hp.same (s2.trans s3)) hl hpl).mono ?_
  rintro v7 H4 ⟨hS7, s4⟩
  have n4 := s4.nxt
  have l4 := s4.lo
  have hv7 := hS7
  obtain ⟨a7, c7, rfl, _, e7⟩ := hv7
  have hlen := with_len l p l.length (Nat.le_refl _)
  have hS5 := hS5.ext RW.mono (s3.trans s4).ext
  have hS6 := hS6.ext RW.mono s4.ext
  have hS0 := ha.ext RW.mono ((s2.trans s3).trans s4).ext
  obtain ⟨_, _, q5, _, e5⟩ := hS5
  obtain ⟨_, _, q6, _, e6⟩ := hS6
  obtain ⟨_, _, q0, _, e0⟩ := hS0
  cases q5
  cases q6
  cases q0
  generalize withF l p l.length = L at *
  have dl : decide ((L.length : Int) = (L.length : Int)) = true := by simp
  simp (config := { maxSteps := 1000000 }) (disch := omega) only [↓sh, ↓reduceIte, sx, nbeq_ne, dle, relo_eq, wrap_i64, cond_true, cond_false, Option.bind_some, Option.bind_none, Option.map_some, Nat.add_zero, Nat.zero_add, List.getElem?_cons_zero, List.getElem?_cons_succ, List.getElem?_nil, List.getElem?_toArray, List.length_cons, List.length_nil, List.drop_zero, List.drop_succ_cons, List.drop_nil, List.take_zero, List.take_succ_cons, List.take_nil, List.append_nil, List.nil_append, List.cons_append, List.all_cons, List.all_nil, true_and, and_true, Bool.not_true, Bool.not_false, Bool.true_and, Bool.and_true, Bool.false_and, Bool.and_false, Bool.true_or, Bool.or_true, Bool.false_or, Bool.or_false, decide_true, decide_false, beq_self_eq_true, if_true, if_false, Nat.reduceBEq, Nat.reduceLT, Nat.reduceLeDiff, Nat.reduceAdd, Nat.reduceMul, Nat.reduceEqDiff, Int.reduceEq, Int.reduceLT, Int.reduceLE, eq_self, Int.reduceNeg, Option.isSome_some, len_22, len_23, ia_22, agg_30, size_30, bs_22, app_22, appT_22, ble_dec, repeat_succ, repeat_zero, dl]
  refine wp_loopQ (by kernel_rfl) (fun n T X => ∃ i : Nat, n = l.length - i ∧ i ≤ l.length ∧ T.get 8 = some (.int .i64 i) ∧ T.get 6 = some (.slice a6 L.length c6) ∧ T.get 7 = some (.slice a7 L.length c7) ∧ T.get 5 = some (.slice a5 l.length c5) ∧ T.get 0 = some (.slice a l.length ca) ∧ X = H4) l.length ?_ ?_
  · exact ⟨0, by omega, by omega, rfl, rfl, rfl, rfl, rfl, rfl⟩
  rintro n T X ⟨i, rfl, hi, h8, h6, h7, h5, h0, rfl⟩ Qs hQ hQr hQe
  by_cases hlt : i < l.length
  · have hltL : i < L.length := by omega
    have hd : decide ((i : Int) < (L.length : Int)) = true := by simp only [decide_eq_true_eq]; omega
    obtain ⟨r6, o6, k6, g6, t6, part6, rfl, hr6, row6, cut6, rfl, _⟩ := e6 i L[i] (by simp [hltL])
    obtain ⟨r7, o7, k7, g7, t7, part7, rfl, hr7, row7, cut7, rfl, _⟩ := e7 i L[i] (by simp [hltL])
    obtain ⟨r5, o5, k5, g5, t5, part5, rfl, hr5, row5, cut5, rfl, _⟩ := e5 i l[i] (by simp [hlt])
    obtain ⟨r0, o0, k0, g0, t0, part0, rfl, hr0, row0, cut0, rfl, _⟩ := e0 i l[i] (by simp [hlt])
    simp only [Op.cells] at cut6 cut7 cut5 cut0
    simp (config := { maxSteps := 1000000 }) (disch := omega) only [↓sh, ↓reduceIte, sx, nbeq_ne, dle, relo_eq, wrap_i64, cond_true, cond_false, Option.bind_some, Option.bind_none, Option.map_some, Nat.add_zero, Nat.zero_add, List.getElem?_cons_zero, List.getElem?_cons_succ, List.getElem?_nil, List.getElem?_toArray, List.length_cons, List.length_nil, List.drop_zero, List.drop_succ_cons, List.drop_nil, List.take_zero, List.take_succ_cons, List.take_nil, List.append_nil, List.nil_append, List.cons_append, List.all_cons, List.all_nil, true_and, and_true, Bool.not_true, Bool.not_false, Bool.true_and, Bool.and_true, Bool.false_and, Bool.and_false, Bool.true_or, Bool.or_true, Bool.false_or, Bool.or_false, decide_true, decide_false, beq_self_eq_true, if_true, if_false, Nat.reduceBEq, Nat.reduceLT, Nat.reduceLeDiff, Nat.reduceAdd, Nat.reduceMul, Nat.reduceEqDiff, Int.reduceEq, Int.reduceLT, Int.reduceLE, eq_self, Int.reduceNeg, Option.isSome_some, len_22, len_23, ia_22, agg_30, size_30, bs_22, app_22, appT_22, ble_dec, repeat_succ, repeat_zero, h8, h6, h7, h5, h0, hd]
    refine wps_draw [(false, [], []), (false, [], []), (false, [], []), (false, [], []), (false, [], []), (false, [], []), (false, [], []), (false, [], []), (false, [], []), (false, [], []), (false, [], []), (false, [], []), (false, [], []), (false, [], []), (false, [], []), (false, [], []), (false, [], []), (false, [], []), (false, [], []), (false, [], [])] (by kernel_rfl) ?_
    simp (config := { maxSteps := 1000000 }) (disch := omega) only [↓sh, ↓reduceIte, sx, nbeq_ne, dle, relo_eq, wrap_i64, cond_true, cond_false, Option.bind_some, Option.bind_none, Option.map_some, Nat.add_zero, Nat.zero_add, List.getElem?_cons_zero, List.getElem?_cons_succ, List.getElem?_nil, List.getElem?_toArray, List.length_cons, List.length_nil, List.drop_zero, List.drop_succ_cons, List.drop_nil, List.take_zero, List.take_succ_cons, List.take_nil, List.append_nil, List.nil_append, List.cons_append, List.all_cons, List.all_nil, true_and, and_true, Bool.not_true, Bool.not_false, Bool.true_and, Bool.and_true, Bool.false_and, Bool.and_false, Bool.true_or, Bool.or_true, Bool.false_or, Bool.or_false, decide_true, decide_false, beq_self_eq_true, if_true, if_false, Nat.reduceBEq, Nat.reduceLT, Nat.reduceLeDiff, Nat.reduceAdd, Nat.reduceMul, Nat.reduceEqDiff, Int.reduceEq, Int.reduceLT, Int.reduceLE, eq_self, Int.reduceNeg, Option.isSome_some, len_22, len_23, ia_22, agg_30, size_30, bs_22, app_22, appT_22, ble_dec, repeat_succ, repeat_zero, bin_agg, bin_agg_eq, eq_30, eq_27, eq_3, eq_2, eq_28, eq_5, part_3, part_2, part_28, part_5, part_27, cut45, beq_self_eq_true, h8, h6, h7, h5, h0, at_nat hlt, at_nat hltL, row6, row7, row5, row0, cut6, cut7, cut5, cut0]
    refine hQ _ _ (l.length - (i + 1)) (by omega) ?_
    refine ⟨i + 1, rfl, by omega, ?_, ?_, ?_, ?_, ?_, rfl⟩ <;> simp (config := { maxSteps := 1000000 }) (disch := omega) only [↓sh, ↓reduceIte, sx, nbeq_ne, dle, relo_eq, wrap_i64, cond_true, cond_false, Option.bind_some, Option.bind_none, Option.map_some, Nat.add_zero, Nat.zero_add, List.getElem?_cons_zero, List.getElem?_cons_succ, List.getElem?_nil, List.getElem?_toArray, List.length_cons, List.length_nil, List.drop_zero, List.drop_succ_cons, List.drop_nil, List.take_zero, List.take_succ_cons, List.take_nil, List.append_nil, List.nil_append, List.cons_append, List.all_cons, List.all_nil, true_and, and_true, Bool.not_true, Bool.not_false, Bool.true_and, Bool.and_true, Bool.false_and, Bool.and_false, Bool.true_or, Bool.or_true, Bool.false_or, Bool.or_false, decide_true, decide_false, beq_self_eq_true, if_true, if_false, Nat.reduceBEq, Nat.reduceLT, Nat.reduceLeDiff, Nat.reduceAdd, Nat.reduceMul, Nat.reduceEqDiff, Int.reduceEq, Int.reduceLT, Int.reduceLE, eq_self, Int.reduceNeg, Option.isSome_some, h8, h6, h7, h5, h0, Int.natCast_add, Int.natCast_one]
  have hd : decide ((i : Int) < (L.length : Int)) = false := by simp only [decide_eq_false_iff_not]; omega
  simp (config := { maxSteps := 1000000 }) (disch := omega) only [↓sh, ↓reduceIte, sx, nbeq_ne, dle, relo_eq, wrap_i64, cond_true, cond_false, Option.bind_some, Option.bind_none, Option.map_some, Nat.add_zero, Nat.zero_add, List.getElem?_cons_zero, List.getElem?_cons_succ, List.getElem?_nil, List.getElem?_toArray, List.length_cons, List.length_nil, List.drop_zero, List.drop_succ_cons, List.drop_nil, List.take_zero, List.take_succ_cons, List.take_nil, List.append_nil, List.nil_append, List.cons_append, List.all_cons, List.all_nil, true_and, and_true, Bool.not_true, Bool.not_false, Bool.true_and, Bool.and_true, Bool.false_and, Bool.and_false, Bool.true_or, Bool.or_true, Bool.false_or, Bool.or_false, decide_true, decide_false, beq_self_eq_true, if_true, if_false, Nat.reduceBEq, Nat.reduceLT, Nat.reduceLeDiff, Nat.reduceAdd, Nat.reduceMul, Nat.reduceEqDiff, Int.reduceEq, Int.reduceLT, Int.reduceLE, eq_self, Int.reduceNeg, Option.isSome_some, len_22, len_23, ia_22, agg_30, size_30, bs_22, app_22, appT_22, ble_dec, repeat_succ, repeat_zero, h8, h6, hd]
  refine hQe _ _ _ _ ?_
  simp (config := { maxSteps := 1000000 }) (disch := omega) only [↓sh, ↓reduceIte, sx, nbeq_ne, dle, relo_eq, wrap_i64, cond_true, cond_false, Option.bind_some, Option.bind_none, Option.map_some, Nat.add_zero, Nat.zero_add, List.getElem?_cons_zero, List.getElem?_cons_succ, List.getElem?_nil, List.getElem?_toArray, List.length_cons, List.length_nil, List.drop_zero, List.drop_succ_cons, List.drop_nil, List.take_zero, List.take_succ_cons, List.take_nil, List.append_nil, List.nil_append, List.cons_append, List.all_cons, List.all_nil, true_and, and_true, Bool.not_true, Bool.not_false, Bool.true_and, Bool.and_true, Bool.false_and, Bool.and_false, Bool.true_or, Bool.or_true, Bool.false_or, Bool.or_false, decide_true, decide_false, beq_self_eq_true, if_true, if_false, Nat.reduceBEq, Nat.reduceLT, Nat.reduceLeDiff, Nat.reduceAdd, Nat.reduceMul, Nat.reduceEqDiff, Int.reduceEq, Int.reduceLT, Int.reduceLE, eq_self, Int.reduceNeg, Option.isSome_some]
  refine (awake_ok _).mono ?_
  rintro v Hd ⟨rfl, rfl⟩
  try simp (config := { maxSteps := 1000000 }) (disch := omega) only [↓sh, ↓reduceIte, sx, nbeq_ne, dle, relo_eq, wrap_i64, cond_true, cond_false, Option.bind_some, Option.bind_none, Option.map_some, Nat.add_zero, Nat.zero_add, List.getElem?_cons_zero, List.getElem?_cons_succ, List.getElem?_nil, List.getElem?_toArray, List.length_cons, List.length_nil, List.drop_zero, List.drop_succ_cons, List.drop_nil, List.take_zero, List.take_succ_cons, List.take_nil, List.append_nil, List.nil_append, List.cons_append, List.all_cons, List.all_nil, true_and, and_true, Bool.not_true, Bool.not_false, Bool.true_and, Bool.and_true, Bool.false_and, Bool.and_false, Bool.true_or, Bool.or_true, Bool.false_or, Bool.or_false, decide_true, decide_false, beq_self_eq_true, if_true, if_false, Nat.reduceBEq, Nat.reduceLT, Nat.reduceLeDiff, Nat.reduceAdd, Nat.reduceMul, Nat.reduceEqDiff, Int.reduceEq, Int.reduceLT, Int.reduceLE, eq_self, Int.reduceNeg, Option.isSome_some]
