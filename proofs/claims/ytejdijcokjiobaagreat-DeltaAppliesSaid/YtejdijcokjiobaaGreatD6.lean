/-
  Walks over letters of the functions that the law reaches.
-/
import Derived.Test.YtejdijcokjiobaaGreatD5
namespace Go.AM
attribute [local instance] fnMaps
open Go Go.Proofs
set_option maxRecDepth 100000
set_option maxHeartbeats 1000000
set_option linter.unusedSimpArgs false
theorem fn8 : E.fn.get 8 = some Tryz.f8 := by kernel_rfl
def ints (l : List Int) : List Value := l.map (Value.int .u64)
theorem elems_ints (H : Heap) (l : List Int) : Elems (RInt .u64) 1 H (ints l) l := by
  refine ⟨by simp [ints], fun i x hi => ⟨[.int .u64 x], ?_, rfl⟩⟩
  have hlt := (List.getElem?_eq_some_iff.1 hi).1
  rw [cut_eq, if_pos (by simp only [ints, List.length_map]; omega), Nat.mul_one]
  congr 1
  have h1 : i < (ints l).length := by simp only [ints, List.length_map]; exact hlt
  rw [List.drop_eq_getElem_cons h1, List.take_succ_cons, List.take_zero]
  congr 1
  have := (List.getElem?_eq_some_iff.1 hi).2
  simp only [ints, List.getElem_map, this]
theorem ints_cell (l : List Int) : (ints l).all isCell = true := by
  rw [List.all_eq_true]
  intro x hx
  simp only [ints, List.mem_map] at hx
  obtain ⟨y, _, rfl⟩ := hx
  rfl
theorem elems_eq {H : Heap} {cs : List Value} {l : List Int} (h : Elems (RInt .u64) 1 H cs l) : cs = ints l := by
  refine List.ext_getElem? fun i => ?_
  by_cases hi : i < l.length
  · obtain ⟨part, h1, h2⟩ := h.2 i l[i] (by simp [hi])
    rw [h2, Nat.mul_one] at h1
    have := cut1 h1
    rw [this]
    simp [ints, hi]
  · rw [List.getElem?_eq_none (by rw [h.1]; omega), List.getElem?_eq_none (by simp [ints]; omega)]
theorem cellsOf_take {H : Heap} {m k n c : Nat} {a : Option Addr} {cs : List Value} (h : cellsOf H m (.slice a n c) = some cs) (hk : k ≤ m) : cellsOf H k (.slice a n c) = some (cs.take k) := by
  unfold cellsOf at h ⊢
  split at h
  · rename_i e
    simp only [Value.slice.injEq] at e
    obtain ⟨rfl, _, _⟩ := e
    rw [beq_dec] at h
    by_cases hm : m = 0
    · have : k = 0 := by omega
      subst this; subst hm
      simp only [decide_true, cond_true, Option.some.injEq] at h
      subst h
      rfl
    · simp [hm] at h
  · rename_i r o _ _ e
    simp only [Value.slice.injEq] at e
    obtain ⟨rfl, _, _⟩ := e
    split at h
    · obtain ⟨h1, h2, h3⟩ := cut_len h
      rw [cut_eq, if_pos (by omega), h3, List.take_take, Nat.min_eq_left hk]
    · cases h
  · cases h
theorem repeat_ints : ∀ n, repeatCells [Value.int .u64 0] n = ints (List.replicate n 0)
  | 0 => rfl
  | n + 1 => by rw [repeat_succ, repeat_ints n, List.replicate_succ]; rfl
theorem mk0 (H : Heap) (l c : Nat) : makeSliceV E H 24 (.int .i64 (.ofNat l)) (.int .i64 (.ofNat c)) = bif Nat.ble l c && Nat.ble c 1000000000 && Nat.ble (c * 8) 10000000000 && !Nat.beq 1 0 && Nat.beq 1 1 then some (.slice (some ⟨H.next, 0, none⟩) l c, H.newRow (repeatCells [Value.int .u64 0] c)) else none := by kernel_rfl
theorem mk_ok (H : Heap) (n : Nat) (h : n ≤ 1000000) : makeSliceV E H 24 (.int .i64 (n : Int)) (.int .i64 (n : Int)) = some (.slice (some ⟨H.next, 0, none⟩) n n, H.newRow (ints (List.replicate n 0))) := by
  have := mk0 H n n
  rw [Nat.ble_eq_true_of_le (Nat.le_refl n), Nat.ble_eq_true_of_le (show n ≤ 1000000000 by omega), Nat.ble_eq_true_of_le (show n * 8 ≤ 10000000000 by omega), repeat_ints] at this
  exact this
theorem cp0 (H : Heap) (r dl cd n c : Nat) (a : Option Addr) : builtinV E H .copy [24, 24] [.slice (some ⟨r, 0, none⟩) dl cd, .slice a n c] = (cellsOf H (Nat.min n dl * 1) (.slice a n c)).bind fun l => (H.write r 0 l).bind fun H => some (.int .i64 (Nat.min n dl), H) := by kernel_rfl
/-- words, in a room of n -/
def base (a : List Int) (n : Nat) : List Int := a.take n ++ List.replicate (n - a.length) 0
theorem base_len (a : List Int) (n : Nat) : (base a n).length = n := by simp [base]; omega
theorem over_base (a : List Int) (n : Nat) : over ((ints a).take (min a.length n * 1)) 0 (ints (List.replicate n 0)) = ints (base a n) := by
  rw [over_zero, Nat.mul_one]
  simp only [ints, base, List.map_append, List.map_take, List.length_take, List.length_map, ← List.map_drop, List.drop_replicate]
  rw [Nat.min_eq_left (Nat.min_le_left _ _)]
  congr 1
  · by_cases h : a.length ≤ n
    · rw [Nat.min_eq_left h, List.take_of_length_le (by simp), List.take_of_length_le (by simpa using h)]
    · rw [Nat.min_eq_right (by omega)]
  · congr 2; omega
theorem copy_ok {H : Heap} {r n c N cd : Nat} {x : Option Addr} {a : List Int} (hr : H.objs.get r = some (.row (ints (List.replicate N 0)) none true)) (hlo : H.lo ≤ r) (hn : n = a.length) (hc : cellsOf H (n * 1) (.slice x n c) = some (ints a)) : builtinV E H .copy [24, 24] [.slice (some ⟨r, 0, none⟩) N cd, .slice x n c] = some (.int .i64 (Nat.min n N), H.setRow r (ints (base a N))) := by
  subst hn
  have hmin : Nat.min a.length N = min a.length N := rfl
  rw [cp0, cellsOf_take hc (Nat.mul_le_mul_right 1 (Nat.min_le_left _ _)), Option.bind_some, write_own hr]
  have hlen : ((ints a).take (Nat.min a.length N * 1)).length = min a.length N := by
    simp only [List.length_take, ints, List.length_map, Nat.mul_one, hmin]
    omega
  have h1 : ((ints a).take (Nat.min a.length N * 1)).all isCell = true := by
    rw [List.all_eq_true]
    intro y hy
    exact List.all_eq_true.1 (ints_cell a) y (List.mem_of_mem_take hy)
  have h2 : 0 + ((ints a).take (Nat.min a.length N * 1)).length ≤ (ints (List.replicate N 0)).length := by
    rw [hlen]; simp only [ints, List.length_map, List.length_replicate]; omega
  rw [rowWrite, if_pos ⟨hlo, h1, h2⟩, Option.bind_some, hmin, over_base]
def applyW (l : List Int) (ws : List (Int × Int)) : List Int := ws.foldl (fun l x => l.set x.1.toNat x.2) l
theorem applyW_len : ∀ (ws : List (Int × Int)) (l : List Int), (applyW l ws).length = l.length
  | [], l => rfl
  | x :: ws, l => by rw [applyW, List.foldl_cons]; exact (applyW_len ws _).trans (by simp)
theorem applyW_succ {l : List Int} {ws : List (Int × Int)} {i : Nat} (hi : i < ws.length) : applyW l (ws.take (i + 1)) = (applyW l (ws.take i)).set ws[i].1.toNat ws[i].2 := by
  rw [applyW, List.take_add_one, List.getElem?_eq_getElem hi, Option.toList_some, List.foldl_append]
  rfl
def zeroState : State := ⟨⟨0, 0, 0, 0⟩, false, [], 0, [], [], []⟩
def applied (a : State) (d : Del) : State := if rightD d.len (d.words.map (·.1)) = 0 then ⟨d.cfg, d.second, applyW (base a.words d.len.toNat) d.words, d.top, d.table, d.free, d.slots⟩ else zeroState
theorem zero_st (H : Heap) : StV H (.agg (#[Value.int .i64 0, Value.int .i64 0, Value.int .i64 0, Value.int .i64 0, Value.bool false, Value.slice none 0 0, Value.int .i64 0, Value.slice none 0 0, Value.slice none 0 0, Value.slice none 0 0])) zeroState := ⟨_, _, _, _, rfl, ⟨SL.nil _ _ _, fun a l c e => by simp only [Value.slice.injEq] at e; exact .inl e.1.symm⟩, ⟨SL.nil _ _ _, fun a l c e => by simp only [Value.slice.injEq] at e; exact .inl e.1.symm⟩, ⟨SL.nil _ _ _, fun a l c e => by simp only [Value.slice.injEq] at e; exact .inl e.1.symm⟩, ⟨SL.nil _ _ _, fun a l c e => by simp only [Value.slice.injEq] at e; exact .inl e.1.symm⟩⟩
theorem right_in {n : Int} {l : List Int} (h : rightD n l = 0) : 0 ≤ n ∧ n ≤ 98304 ∧ ∀ x ∈ l, 0 ≤ x ∧ x < n := by
  simp only [rightD] at h
  split at h
  · cases h
  split at h
  · cases h
  split at h
  · cases h
  rename_i h1 h2 h3
  simp at h1 h2
  refine ⟨h1, h2, fun x hx => ?_⟩
  have := List.any_eq_false.1 (Bool.eq_false_iff.2 h3) x hx
  simp only [badAt] at this
  split at this
  · simp at this
  rename_i h4
  simp at h4 this
  omega

theorem apply_ok (H : Heap) (hlo : H.lo ≤ H.next) (va vd : Value) (a : State) (d : Del) (ha : StV H va a) (hd : DelV H vd d) (hw : d.words.length ≤ 400) (ht : d.table.length ≤ 400) (hf : d.free.length ≤ 400) (hsl : d.slots.length ≤ 400) : CallA E (fnv 8) [va, vd] H fun r H' => (∃ sv, r = .tuple #[sv, .int .i64 (rightD d.len (d.words.map (·.1)))] ∧ StV H' sv (applied a d)) ∧ Same H H' := by
  obtain ⟨w, t, f, sl, rfl, hA⟩ := ha
  obtain ⟨wa, wc, ta, tc, fa, fc, sa, sc, rfl, rfl, rfl, rfl⟩ := hA.lit
  have hdv := hd
  obtain ⟨w, t, f, sl, rfl, hD⟩ := hd
  obtain ⟨wb, wd, tb, td, fb, fd, sb, sd, rfl, rfl, rfl, rfl⟩ := hD.lit
  refine callA_fn (by kernel_rfl) fn8 rfl rfl ?_
  simp only [Tryz.f8, stateCells, delCells]
  simp (config := { maxSteps := 1000000 }) (disch := omega) only [↓sh, ↓reduceIte, sx, nbeq_ne, dle, relo_eq, wrap_i64, cond_true, cond_false, Option.bind_some, Option.bind_none, Option.map_some, Nat.add_zero, Nat.zero_add, List.getElem?_cons_zero, List.getElem?_cons_succ, List.getElem?_nil, List.getElem?_toArray, List.length_cons, List.length_nil, List.drop_zero, List.drop_succ_cons, List.drop_nil, List.take_zero, List.take_succ_cons, List.take_nil, List.append_nil, List.nil_append, List.cons_append, List.all_cons, List.all_nil, true_and, and_true, Bool.not_true, Bool.not_false, Bool.true_and, Bool.and_true, Bool.false_and, Bool.and_false, Bool.true_or, Bool.or_true, Bool.false_or, Bool.or_false, decide_true, decide_false, beq_self_eq_true, if_true, if_false, Nat.reduceBEq, Nat.reduceLT, Nat.reduceLeDiff, Nat.reduceAdd, Nat.reduceMul, Nat.reduceEqDiff, Int.reduceEq, Int.reduceLT, Int.reduceLE, eq_self, Int.reduceNeg, Option.isSome_some, cutAll1, cutAll2, cutAll3, cutAll10, cutAll11, cutFirst4, fa_28_0, fa_28_1, fa_28_2, fa_28_3, fa_28_4, fa_28_5, fa_28_6, fa_33_0, fa_33_1, fa_33_2, fa_33_3, fa_33_4, fa_33_5, fa_33_6, fa_33_7, fa_43_0, fa_43_1, agg_28, size_28, zero_28, lit_28, agg_33, size_33, zero_33, lit_33, agg_43, size_43, zero_43, lit_43, agg_23, agg_4, agg_3, agg_41, agg_24, agg_25, agg_26, agg_31, size_41, size_23, size_24, size_25, size_26, size_31, len_24, len_25, len_26, len_31, len_40, ia_24, bs_24, app_24, appT_24, ia_31, bs_31, app_31, appT_31, ia_40, bs_40, app_40, appT_40, ble_dec, repeat_succ, repeat_zero]
  refine callA_named (fun H1 e1 => ?_)
  have n1 : H1.next = H.next + 1 + 1 + 1 := by rw [e1]; simp (disch := omega) only [setRow_get, newRow_get, newRow_next, setRow_next, newRow_lo, setRow_lo, newRow_grps, setRow_grps, newRow_relo, setRow_relo, relo_objs, relo_next, relo_lo, nbeq_ne, cond_false, cond_true, beq_self_eq_true]
  have l1 : H1.lo = H.lo := by rw [e1]; simp (disch := omega) only [setRow_get, newRow_get, newRow_next, setRow_next, newRow_lo, setRow_lo, newRow_grps, setRow_grps, newRow_relo, setRow_relo, relo_objs, relo_next, relo_lo, nbeq_ne, cond_false, cond_true, beq_self_eq_true]
  have gA : H1.objs.get H.next = some (.row [Value.int .i64 a.cfg.semi, Value.int .i64 a.cfg.large, Value.int .i64 a.cfg.slots, Value.int .i64 a.cfg.limit, Value.bool a.second, Value.slice wa a.words.length wc, Value.int .i64 a.top, Value.slice ta a.table.length tc, Value.slice fa a.free.length fc, Value.slice sa a.slots.length sc] none true) := by rw [e1]; simp (disch := omega) only [setRow_get, newRow_get, newRow_next, setRow_next, newRow_lo, setRow_lo, newRow_grps, setRow_grps, newRow_relo, setRow_relo, relo_objs, relo_next, relo_lo, nbeq_ne, cond_false, cond_true, beq_self_eq_true]
  have gD : H1.objs.get (H.next + 1) = some (.row [Value.int .i64 d.cfg.semi, Value.int .i64 d.cfg.large, Value.int .i64 d.cfg.slots, Value.int .i64 d.cfg.limit, Value.bool d.second, Value.int .i64 d.top, Value.int .i64 d.len, Value.slice wb d.words.length wd, Value.slice tb d.table.length td, Value.slice fb d.free.length fd, Value.slice sb d.slots.length sd] none true) := by rw [e1]; simp (disch := omega) only [setRow_get, newRow_get, newRow_next, setRow_next, newRow_lo, setRow_lo, newRow_grps, setRow_grps, newRow_relo, setRow_relo, relo_objs, relo_next, relo_lo, nbeq_ne, cond_false, cond_true, beq_self_eq_true]
  have gR : H1.objs.get (H.next + 1 + 1) = some (.row [Value.int .i64 0, Value.int .i64 0, Value.int .i64 0, Value.int .i64 0, Value.bool false, Value.slice none 0 0, Value.int .i64 0, Value.slice none 0 0, Value.slice none 0 0, Value.slice none 0 0] none true) := by rw [e1]; simp (disch := omega) only [setRow_get, newRow_get, newRow_next, setRow_next, newRow_lo, setRow_lo, newRow_grps, setRow_grps, newRow_relo, setRow_relo, relo_objs, relo_next, relo_lo, nbeq_ne, cond_false, cond_true, beq_self_eq_true]
  have s1 : Same H H1 := by rw [e1]; exact ((same_newRow _).newRow _).newRow _
  clear e1
  refine (dright_ok H1 (by omega) _ d (hdv.mono s1)).mono ?_
  rintro r H2 ⟨rfl, s2⟩
  have n2 := s2.nxt
  have l2 := s2.lo
  have s12 := s1.trans s2
  have gA := s2.keeps (by omega) gA
  have gD := s2.keeps (by omega) gD
  have gR := s2.keeps (by omega) gR
  by_cases hr0 : rightD d.len (d.words.map (·.1)) = 0
  rotate_left
  · have d0 : decide (rightD d.len (d.words.map (·.1)) = 0) = false := by simpa using hr0
    simp (config := { maxSteps := 1000000 }) (disch := omega) only [↓sh, ↓reduceIte, sx, nbeq_ne, dle, relo_eq, wrap_i64, cond_true, cond_false, Option.bind_some, Option.bind_none, Option.map_some, Nat.add_zero, Nat.zero_add, List.getElem?_cons_zero, List.getElem?_cons_succ, List.getElem?_nil, List.getElem?_toArray, List.length_cons, List.length_nil, List.drop_zero, List.drop_succ_cons, List.drop_nil, List.take_zero, List.take_succ_cons, List.take_nil, List.append_nil, List.nil_append, List.cons_append, List.all_cons, List.all_nil, true_and, and_true, Bool.not_true, Bool.not_false, Bool.true_and, Bool.and_true, Bool.false_and, Bool.and_false, Bool.true_or, Bool.or_true, Bool.false_or, Bool.or_false, decide_true, decide_false, beq_self_eq_true, if_true, if_false, Nat.reduceBEq, Nat.reduceLT, Nat.reduceLeDiff, Nat.reduceAdd, Nat.reduceMul, Nat.reduceEqDiff, Int.reduceEq, Int.reduceLT, Int.reduceLE, eq_self, Int.reduceNeg, Option.isSome_some, cutAll1, cutAll2, cutAll3, cutAll10, cutAll11, cutFirst4, fa_28_0, fa_28_1, fa_28_2, fa_28_3, fa_28_4, fa_28_5, fa_28_6, fa_33_0, fa_33_1, fa_33_2, fa_33_3, fa_33_4, fa_33_5, fa_33_6, fa_33_7, fa_43_0, fa_43_1, agg_28, size_28, zero_28, lit_28, agg_33, size_33, zero_33, lit_33, agg_43, size_43, zero_43, lit_43, agg_23, agg_4, agg_3, agg_41, agg_24, agg_25, agg_26, agg_31, size_41, size_23, size_24, size_25, size_26, size_31, len_24, len_25, len_26, len_31, len_40, ia_24, bs_24, app_24, appT_24, ia_31, bs_31, app_31, appT_31, ia_40, bs_40, app_40, appT_40, ble_dec, repeat_succ, repeat_zero, d0, gR]
    refine ⟨⟨_, rfl, ?_⟩, s12.setRow (by omega) _⟩
    rw [applied, if_neg hr0]
    exact zero_st _
  have d0 : decide (rightD d.len (d.words.map (·.1)) = 0) = true := by simpa using hr0
  obtain ⟨hn0, hn1, hin⟩ := right_in hr0
  rw [applied, if_pos hr0, hr0]
  obtain ⟨N, hN⟩ : ∃ N : Nat, d.len = N := ⟨d.len.toNat, by omega⟩
  rw [hN] at gD
  rw [hN, Int.toNat_natCast]
  simp (config := { maxSteps := 1000000 }) (disch := omega) only [↓sh, ↓reduceIte, sx, nbeq_ne, dle, relo_eq, wrap_i64, cond_true, cond_false, Option.bind_some, Option.bind_none, Option.map_some, Nat.add_zero, Nat.zero_add, List.getElem?_cons_zero, List.getElem?_cons_succ, List.getElem?_nil, List.getElem?_toArray, List.length_cons, List.length_nil, List.drop_zero, List.drop_succ_cons, List.drop_nil, List.take_zero, List.take_succ_cons, List.take_nil, List.append_nil, List.nil_append, List.cons_append, List.all_cons, List.all_nil, true_and, and_true, Bool.not_true, Bool.not_false, Bool.true_and, Bool.and_true, Bool.false_and, Bool.and_false, Bool.true_or, Bool.or_true, Bool.false_or, Bool.or_false, decide_true, decide_false, beq_self_eq_true, if_true, if_false, Nat.reduceBEq, Nat.reduceLT, Nat.reduceLeDiff, Nat.reduceAdd, Nat.reduceMul, Nat.reduceEqDiff, Int.reduceEq, Int.reduceLT, Int.reduceLE, eq_self, Int.reduceNeg, Option.isSome_some, cutAll1, cutAll2, cutAll3, cutAll10, cutAll11, cutFirst4, fa_28_0, fa_28_1, fa_28_2, fa_28_3, fa_28_4, fa_28_5, fa_28_6, fa_33_0, fa_33_1, fa_33_2, fa_33_3, fa_33_4, fa_33_5, fa_33_6, fa_33_7, fa_43_0, fa_43_1, agg_28, size_28, zero_28, lit_28, agg_33, size_33, zero_33, lit_33, agg_43, size_43, zero_43, lit_43, agg_23, agg_4, agg_3, agg_41, agg_24, agg_25, agg_26, agg_31, size_41, size_23, size_24, size_25, size_26, size_31, len_24, len_25, len_26, len_31, len_40, ia_24, bs_24, app_24, appT_24, ia_31, bs_31, app_31, appT_31, ia_40, bs_40, app_40, appT_40, ble_dec, repeat_succ, repeat_zero]
  refine wps_draw [(false, []), (false, []), (false, []), (false, []), (false, []), (false, []), (false, []), (false, []), (false, []), (false, []), (false, []), (false, [])] (by kernel_rfl) ?_
  have sM : Same H2 (((H2.newRow (ints (List.replicate N 0))).newRow [Value.int .i64 0, Value.int .i64 0, Value.int .i64 0, Value.int .i64 0, Value.bool false, Value.slice none 0 0, Value.int .i64 0, Value.slice none 0 0, Value.slice none 0 0, Value.slice none 0 0]).setRow (H2.next + 1) [Value.int .i64 d.cfg.semi, Value.int .i64 d.cfg.large, Value.int .i64 d.cfg.slots, Value.int .i64 d.cfg.limit, Value.bool d.second, Value.slice (some ⟨H2.next, 0, none⟩) N N, Value.int .i64 d.top, Value.slice none 0 0, Value.slice none 0 0, Value.slice none 0 0]) := ((same_newRow _).newRow _).setRow (by omega) _
  have hAM := hA.mono (s12.trans sM)
  obtain ⟨a', c', cs, eR, hrd, heR⟩ := hAM.1.1.reading hAM.1.2
  simp only [Value.slice.injEq, true_and] at eR
  obtain ⟨rfl, rfl⟩ := eR
  rw [elems_eq heR] at hrd
  have hcp := copy_ok (r := H2.next) (N := N) (cd := N) (show (((H2.newRow (ints (List.replicate N 0))).newRow [Value.int .i64 0, Value.int .i64 0, Value.int .i64 0, Value.int .i64 0, Value.bool false, Value.slice none 0 0, Value.int .i64 0, Value.slice none 0 0, Value.slice none 0 0, Value.slice none 0 0]).setRow (H2.next + 1) [Value.int .i64 d.cfg.semi, Value.int .i64 d.cfg.large, Value.int .i64 d.cfg.slots, Value.int .i64 d.cfg.limit, Value.bool d.second, Value.slice (some ⟨H2.next, 0, none⟩) N N, Value.int .i64 d.top, Value.slice none 0 0, Value.slice none 0 0, Value.slice none 0 0]).objs.get H2.next = _ by simp (disch := omega) only [setRow_get, newRow_get, newRow_next, setRow_next, newRow_lo, setRow_lo, newRow_grps, setRow_grps, newRow_relo, setRow_relo, relo_objs, relo_next, relo_lo, nbeq_ne, cond_false, cond_true, beq_self_eq_true]) (by simp (disch := omega) only [setRow_get, newRow_get, newRow_next, setRow_next, newRow_lo, setRow_lo, newRow_grps, setRow_grps, newRow_relo, setRow_relo, relo_objs, relo_next, relo_lo, nbeq_ne, cond_false, cond_true, beq_self_eq_true]; omega) rfl hrd
  simp (config := { maxSteps := 1000000 }) (disch := omega) only [↓sh, ↓reduceIte, sx, nbeq_ne, dle, relo_eq, wrap_i64, cond_true, cond_false, Option.bind_some, Option.bind_none, Option.map_some, Nat.add_zero, Nat.zero_add, List.getElem?_cons_zero, List.getElem?_cons_succ, List.getElem?_nil, List.getElem?_toArray, List.length_cons, List.length_nil, List.drop_zero, List.drop_succ_cons, List.drop_nil, List.take_zero, List.take_succ_cons, List.take_nil, List.append_nil, List.nil_append, List.cons_append, List.all_cons, List.all_nil, true_and, and_true, Bool.not_true, Bool.not_false, Bool.true_and, Bool.and_true, Bool.false_and, Bool.and_false, Bool.true_or, Bool.or_true, Bool.false_or, Bool.or_false, decide_true, decide_false, beq_self_eq_true, if_true, if_false, Nat.reduceBEq, Nat.reduceLT, Nat.reduceLeDiff, Nat.reduceAdd, Nat.reduceMul, Nat.reduceEqDiff, Int.reduceEq, Int.reduceLT, Int.reduceLE, eq_self, Int.reduceNeg, Option.isSome_some, cutAll1, cutAll2, cutAll3, cutAll10, cutAll11, cutFirst4, fa_28_0, fa_28_1, fa_28_2, fa_28_3, fa_28_4, fa_28_5, fa_28_6, fa_33_0, fa_33_1, fa_33_2, fa_33_3, fa_33_4, fa_33_5, fa_33_6, fa_33_7, fa_43_0, fa_43_1, agg_28, size_28, zero_28, lit_28, agg_33, size_33, zero_33, lit_33, agg_43, size_43, zero_43, lit_43, agg_23, agg_4, agg_3, agg_41, agg_24, agg_25, agg_26, agg_31, size_41, size_23, size_24, size_25, size_26, size_31, len_24, len_25, len_26, len_31, len_40, ia_24, bs_24, app_24, appT_24, ia_31, bs_31, app_31, appT_31, ia_40, bs_40, app_40, appT_40, ble_dec, repeat_succ, repeat_zero, gA, gD, mk_ok _ N (show N ≤ 1000000 by omega), hcp]
  have s0M := s12.trans sM
  have nM : (((H2.newRow (ints (List.replicate N 0))).newRow [Value.int .i64 0, Value.int .i64 0, Value.int .i64 0, Value.int .i64 0, Value.bool false, Value.slice none 0 0, Value.int .i64 0, Value.slice none 0 0, Value.slice none 0 0, Value.slice none 0 0]).setRow (H2.next + 1) [Value.int .i64 d.cfg.semi, Value.int .i64 d.cfg.large, Value.int .i64 d.cfg.slots, Value.int .i64 d.cfg.limit, Value.bool d.second, Value.slice (some ⟨H2.next, 0, none⟩) N N, Value.int .i64 d.top, Value.slice none 0 0, Value.slice none 0 0, Value.slice none 0 0]).next = H2.next + 1 + 1 := by simp (disch := omega) only [setRow_get, newRow_get, newRow_next, setRow_next, newRow_lo, setRow_lo, newRow_grps, setRow_grps, newRow_relo, setRow_relo, relo_objs, relo_next, relo_lo, nbeq_ne, cond_false, cond_true, beq_self_eq_true]
  have lM : (((H2.newRow (ints (List.replicate N 0))).newRow [Value.int .i64 0, Value.int .i64 0, Value.int .i64 0, Value.int .i64 0, Value.bool false, Value.slice none 0 0, Value.int .i64 0, Value.slice none 0 0, Value.slice none 0 0, Value.slice none 0 0]).setRow (H2.next + 1) [Value.int .i64 d.cfg.semi, Value.int .i64 d.cfg.large, Value.int .i64 d.cfg.slots, Value.int .i64 d.cfg.limit, Value.bool d.second, Value.slice (some ⟨H2.next, 0, none⟩) N N, Value.int .i64 d.top, Value.slice none 0 0, Value.slice none 0 0, Value.slice none 0 0]).lo = H2.lo := by simp (disch := omega) only [setRow_get, newRow_get, newRow_next, setRow_next, newRow_lo, setRow_lo, newRow_grps, setRow_grps, newRow_relo, setRow_relo, relo_objs, relo_next, relo_lo, nbeq_ne, cond_false, cond_true, beq_self_eq_true]
  have g7 : (((H2.newRow (ints (List.replicate N 0))).newRow [Value.int .i64 0, Value.int .i64 0, Value.int .i64 0, Value.int .i64 0, Value.bool false, Value.slice none 0 0, Value.int .i64 0, Value.slice none 0 0, Value.slice none 0 0, Value.slice none 0 0]).setRow (H2.next + 1) [Value.int .i64 d.cfg.semi, Value.int .i64 d.cfg.large, Value.int .i64 d.cfg.slots, Value.int .i64 d.cfg.limit, Value.bool d.second, Value.slice (some ⟨H2.next, 0, none⟩) N N, Value.int .i64 d.top, Value.slice none 0 0, Value.slice none 0 0, Value.slice none 0 0]).objs.get (H2.next + 1) = some (.row [Value.int .i64 d.cfg.semi, Value.int .i64 d.cfg.large, Value.int .i64 d.cfg.slots, Value.int .i64 d.cfg.limit, Value.bool d.second, Value.slice (some ⟨H2.next, 0, none⟩) N N, Value.int .i64 d.top, Value.slice none 0 0, Value.slice none 0 0, Value.slice none 0 0] none true) := by simp (disch := omega) only [setRow_get, newRow_get, newRow_next, setRow_next, newRow_lo, setRow_lo, newRow_grps, setRow_grps, newRow_relo, setRow_relo, relo_objs, relo_next, relo_lo, nbeq_ne, cond_false, cond_true, beq_self_eq_true]
  generalize eM : ((H2.newRow (ints (List.replicate N 0))).newRow [Value.int .i64 0, Value.int .i64 0, Value.int .i64 0, Value.int .i64 0, Value.bool false, Value.slice none 0 0, Value.int .i64 0, Value.slice none 0 0, Value.slice none 0 0, Value.slice none 0 0]).setRow (H2.next + 1) [Value.int .i64 d.cfg.semi, Value.int .i64 d.cfg.large, Value.int .i64 d.cfg.slots, Value.int .i64 d.cfg.limit, Value.bool d.second, Value.slice (some ⟨H2.next, 0, none⟩) N N, Value.int .i64 d.top, Value.slice none 0 0, Value.slice none 0 0, Value.slice none 0 0] = Hm at sM s0M nM lM g7 hcp
  have gD := sM.keeps (by omega) gD
  have gR := sM.keeps (by omega) gR
  have hW := hD.1.1
  clear hcp eM hAM heR hrd
  refine wp_loopQ (by kernel_rfl) (fun n T X => ∃ i : Nat, n = d.words.length - i ∧ i ≤ d.words.length ∧ T.get 34 = some (.int .i64 i) ∧ T.get 32 = some (.slice wb d.words.length wd) ∧ T.get 33 = some (.int .i64 d.words.length) ∧ T.get 7 = some (ptr (H2.next + 1) 0) ∧ T.get 3 = some (ptr (H.next + 1) 0) ∧ T.get 4 = some (ptr (H.next + 1 + 1) 0) ∧ SameBut H2.next Hm X ∧ X.objs.get H2.next = some (.row (ints (applyW (base a.words N) (d.words.take i))) none true)) d.words.length ?_ ?_
  · refine ⟨0, by omega, by omega, rfl, rfl, rfl, rfl, rfl, rfl, ((Same.refl _).but _).setRow _, ?_⟩
    rw [setRow_get, nbeq_eq rfl]
    rfl
  rintro n T X ⟨i, rfl, hi, h34, h32, h33, h7, h3, h4, sX, hR⟩ Qs hQ hQr hQe
  have nX := sX.nxt
  have lX := sX.lo
  have s0X := sX.same s0M (by omega)
  have g7X := sX.keeps (by omega) (by omega) g7
  by_cases hlt : i < d.words.length
  · have hd : decide ((i : Int) < (d.words.length : Int)) = true := by simpa using hlt
    obtain ⟨r, o, cells, gg, t, part, rfl, hr, hrow, hcut, hp⟩ := hW.at hlt
    have hrow := s0X.keeps hr hrow
    rw [hp] at hcut
    obtain ⟨hx0, hx1⟩ := hin d.words[i].1 (List.mem_map_of_mem (List.getElem_mem _))
    rw [hN] at hx1
    have hat : at? d.words[i].1 N = some d.words[i].1.toNat := at_in hx0 hx1
    have hll : (applyW (base a.words N) (d.words.take i)).length = N := by rw [applyW_len, base_len]
    have hle : decide (d.words[i].1.toNat * 1 + 1 ≤ (ints (applyW (base a.words N) (d.words.take i))).length) = true := by
      rw [decide_eq_true_iff, ints, List.length_map, hll]; omega
    have hset : over [Value.int .u64 d.words[i].2] (d.words[i].1.toNat * 1) (ints (applyW (base a.words N) (d.words.take i))) = ints (applyW (base a.words N) (d.words.take (i + 1))) := by
      rw [applyW_succ hlt]
      exact elems_eq (H := H) (Elems.set (elems_ints _ _) rfl rfl (by rw [hll]; omega))
    have sB := same_box X [Value.int .i64 0, Value.int .u64 0] [Value.int .i64 d.words[i].1, Value.int .u64 d.words[i].2]
    simp (config := { maxSteps := 1000000 }) (disch := omega) only [↓sh, ↓reduceIte, sx, nbeq_ne, dle, relo_eq, wrap_i64, cond_true, cond_false, Option.bind_some, Option.bind_none, Option.map_some, Nat.add_zero, Nat.zero_add, List.getElem?_cons_zero, List.getElem?_cons_succ, List.getElem?_nil, List.getElem?_toArray, List.length_cons, List.length_nil, List.drop_zero, List.drop_succ_cons, List.drop_nil, List.take_zero, List.take_succ_cons, List.take_nil, List.append_nil, List.nil_append, List.cons_append, List.all_cons, List.all_nil, true_and, and_true, Bool.not_true, Bool.not_false, Bool.true_and, Bool.and_true, Bool.false_and, Bool.and_false, Bool.true_or, Bool.or_true, Bool.false_or, Bool.or_false, decide_true, decide_false, beq_self_eq_true, if_true, if_false, Nat.reduceBEq, Nat.reduceLT, Nat.reduceLeDiff, Nat.reduceAdd, Nat.reduceMul, Nat.reduceEqDiff, Int.reduceEq, Int.reduceLT, Int.reduceLE, eq_self, Int.reduceNeg, Option.isSome_some, cutAll1, cutAll2, cutAll3, cutAll10, cutAll11, cutFirst4, fa_28_0, fa_28_1, fa_28_2, fa_28_3, fa_28_4, fa_28_5, fa_28_6, fa_33_0, fa_33_1, fa_33_2, fa_33_3, fa_33_4, fa_33_5, fa_33_6, fa_33_7, fa_43_0, fa_43_1, agg_28, size_28, zero_28, lit_28, agg_33, size_33, zero_33, lit_33, agg_43, size_43, zero_43, lit_43, agg_23, agg_4, agg_3, agg_41, agg_24, agg_25, agg_26, agg_31, size_41, size_23, size_24, size_25, size_26, size_31, len_24, len_25, len_26, len_31, len_40, ia_24, bs_24, app_24, appT_24, ia_31, bs_31, app_31, appT_31, ia_40, bs_40, app_40, appT_40, ble_dec, repeat_succ, repeat_zero, h34, h32, h33, h7, hd, at_nat hlt, hrow, hcut, g7X, hat, hR, hle, hset]
    refine hQ _ _ (d.words.length - (i + 1)) (by omega) ?_
    refine ⟨i + 1, rfl, by omega, ?_, ?_, ?_, ?_, ?_, ?_, (sX.trans sB).setRow _, ?_⟩
    · simp (config := { maxSteps := 1000000 }) (disch := omega) only [↓sh, ↓reduceIte, sx, nbeq_ne, dle, relo_eq, wrap_i64, cond_true, cond_false, Option.bind_some, Option.bind_none, Option.map_some, Nat.add_zero, Nat.zero_add, List.getElem?_cons_zero, List.getElem?_cons_succ, List.getElem?_nil, List.getElem?_toArray, List.length_cons, List.length_nil, List.drop_zero, List.drop_succ_cons, List.drop_nil, List.take_zero, List.take_succ_cons, List.take_nil, List.append_nil, List.nil_append, List.cons_append, List.all_cons, List.all_nil, true_and, and_true, Bool.not_true, Bool.not_false, Bool.true_and, Bool.and_true, Bool.false_and, Bool.and_false, Bool.true_or, Bool.or_true, Bool.false_or, Bool.or_false, decide_true, decide_false, beq_self_eq_true, if_true, if_false, Nat.reduceBEq, Nat.reduceLT, Nat.reduceLeDiff, Nat.reduceAdd, Nat.reduceMul, Nat.reduceEqDiff, Int.reduceEq, Int.reduceLT, Int.reduceLE, eq_self, Int.reduceNeg, Option.isSome_some, Int.natCast_add, Int.natCast_one]
    · simp (config := { maxSteps := 1000000 }) (disch := omega) only [↓sh, ↓reduceIte, sx, nbeq_ne, dle, relo_eq, wrap_i64, cond_true, cond_false, Option.bind_some, Option.bind_none, Option.map_some, Nat.add_zero, Nat.zero_add, List.getElem?_cons_zero, List.getElem?_cons_succ, List.getElem?_nil, List.getElem?_toArray, List.length_cons, List.length_nil, List.drop_zero, List.drop_succ_cons, List.drop_nil, List.take_zero, List.take_succ_cons, List.take_nil, List.append_nil, List.nil_append, List.cons_append, List.all_cons, List.all_nil, true_and, and_true, Bool.not_true, Bool.not_false, Bool.true_and, Bool.and_true, Bool.false_and, Bool.and_false, Bool.true_or, Bool.or_true, Bool.false_or, Bool.or_false, decide_true, decide_false, beq_self_eq_true, if_true, if_false, Nat.reduceBEq, Nat.reduceLT, Nat.reduceLeDiff, Nat.reduceAdd, Nat.reduceMul, Nat.reduceEqDiff, Int.reduceEq, Int.reduceLT, Int.reduceLE, eq_self, Int.reduceNeg, Option.isSome_some, h32]
    · simp (config := { maxSteps := 1000000 }) (disch := omega) only [↓sh, ↓reduceIte, sx, nbeq_ne, dle, relo_eq, wrap_i64, cond_true, cond_false, Option.bind_some, Option.bind_none, Option.map_some, Nat.add_zero, Nat.zero_add, List.getElem?_cons_zero, List.getElem?_cons_succ, List.getElem?_nil, List.getElem?_toArray, List.length_cons, List.length_nil, List.drop_zero, List.drop_succ_cons, List.drop_nil, List.take_zero, List.take_succ_cons, List.take_nil, List.append_nil, List.nil_append, List.cons_append, List.all_cons, List.all_nil, true_and, and_true, Bool.not_true, Bool.not_false, Bool.true_and, Bool.and_true, Bool.false_and, Bool.and_false, Bool.true_or, Bool.or_true, Bool.false_or, Bool.or_false, decide_true, decide_false, beq_self_eq_true, if_true, if_false, Nat.reduceBEq, Nat.reduceLT, Nat.reduceLeDiff, Nat.reduceAdd, Nat.reduceMul, Nat.reduceEqDiff, Int.reduceEq, Int.reduceLT, Int.reduceLE, eq_self, Int.reduceNeg, Option.isSome_some, h33]
    · simp (config := { maxSteps := 1000000 }) (disch := omega) only [↓sh, ↓reduceIte, sx, nbeq_ne, dle, relo_eq, wrap_i64, cond_true, cond_false, Option.bind_some, Option.bind_none, Option.map_some, Nat.add_zero, Nat.zero_add, List.getElem?_cons_zero, List.getElem?_cons_succ, List.getElem?_nil, List.getElem?_toArray, List.length_cons, List.length_nil, List.drop_zero, List.drop_succ_cons, List.drop_nil, List.take_zero, List.take_succ_cons, List.take_nil, List.append_nil, List.nil_append, List.cons_append, List.all_cons, List.all_nil, true_and, and_true, Bool.not_true, Bool.not_false, Bool.true_and, Bool.and_true, Bool.false_and, Bool.and_false, Bool.true_or, Bool.or_true, Bool.false_or, Bool.or_false, decide_true, decide_false, beq_self_eq_true, if_true, if_false, Nat.reduceBEq, Nat.reduceLT, Nat.reduceLeDiff, Nat.reduceAdd, Nat.reduceMul, Nat.reduceEqDiff, Int.reduceEq, Int.reduceLT, Int.reduceLE, eq_self, Int.reduceNeg, Option.isSome_some, h7]
    · simp (config := { maxSteps := 1000000 }) (disch := omega) only [↓sh, ↓reduceIte, sx, nbeq_ne, dle, relo_eq, wrap_i64, cond_true, cond_false, Option.bind_some, Option.bind_none, Option.map_some, Nat.add_zero, Nat.zero_add, List.getElem?_cons_zero, List.getElem?_cons_succ, List.getElem?_nil, List.getElem?_toArray, List.length_cons, List.length_nil, List.drop_zero, List.drop_succ_cons, List.drop_nil, List.take_zero, List.take_succ_cons, List.take_nil, List.append_nil, List.nil_append, List.cons_append, List.all_cons, List.all_nil, true_and, and_true, Bool.not_true, Bool.not_false, Bool.true_and, Bool.and_true, Bool.false_and, Bool.and_false, Bool.true_or, Bool.or_true, Bool.false_or, Bool.or_false, decide_true, decide_false, beq_self_eq_true, if_true, if_false, Nat.reduceBEq, Nat.reduceLT, Nat.reduceLeDiff, Nat.reduceAdd, Nat.reduceMul, Nat.reduceEqDiff, Int.reduceEq, Int.reduceLT, Int.reduceLE, eq_self, Int.reduceNeg, Option.isSome_some, h3]
    · simp (config := { maxSteps := 1000000 }) (disch := omega) only [↓sh, ↓reduceIte, sx, nbeq_ne, dle, relo_eq, wrap_i64, cond_true, cond_false, Option.bind_some, Option.bind_none, Option.map_some, Nat.add_zero, Nat.zero_add, List.getElem?_cons_zero, List.getElem?_cons_succ, List.getElem?_nil, List.getElem?_toArray, List.length_cons, List.length_nil, List.drop_zero, List.drop_succ_cons, List.drop_nil, List.take_zero, List.take_succ_cons, List.take_nil, List.append_nil, List.nil_append, List.cons_append, List.all_cons, List.all_nil, true_and, and_true, Bool.not_true, Bool.not_false, Bool.true_and, Bool.and_true, Bool.false_and, Bool.and_false, Bool.true_or, Bool.or_true, Bool.false_or, Bool.or_false, decide_true, decide_false, beq_self_eq_true, if_true, if_false, Nat.reduceBEq, Nat.reduceLT, Nat.reduceLeDiff, Nat.reduceAdd, Nat.reduceMul, Nat.reduceEqDiff, Int.reduceEq, Int.reduceLT, Int.reduceLE, eq_self, Int.reduceNeg, Option.isSome_some, h4]
    · rw [setRow_get, nbeq_eq rfl]; rfl
  have hd : decide ((i : Int) < (d.words.length : Int)) = false := by simpa using hlt
  have ei : i = d.words.length := by omega
  subst ei
  rw [List.take_length] at hR
  simp (config := { maxSteps := 1000000 }) (disch := omega) only [↓sh, ↓reduceIte, sx, nbeq_ne, dle, relo_eq, wrap_i64, cond_true, cond_false, Option.bind_some, Option.bind_none, Option.map_some, Nat.add_zero, Nat.zero_add, List.getElem?_cons_zero, List.getElem?_cons_succ, List.getElem?_nil, List.getElem?_toArray, List.length_cons, List.length_nil, List.drop_zero, List.drop_succ_cons, List.drop_nil, List.take_zero, List.take_succ_cons, List.take_nil, List.append_nil, List.nil_append, List.cons_append, List.all_cons, List.all_nil, true_and, and_true, Bool.not_true, Bool.not_false, Bool.true_and, Bool.and_true, Bool.false_and, Bool.and_false, Bool.true_or, Bool.or_true, Bool.false_or, Bool.or_false, decide_true, decide_false, beq_self_eq_true, if_true, if_false, Nat.reduceBEq, Nat.reduceLT, Nat.reduceLeDiff, Nat.reduceAdd, Nat.reduceMul, Nat.reduceEqDiff, Int.reduceEq, Int.reduceLT, Int.reduceLE, eq_self, Int.reduceNeg, Option.isSome_some, cutAll1, cutAll2, cutAll3, cutAll10, cutAll11, cutFirst4, fa_28_0, fa_28_1, fa_28_2, fa_28_3, fa_28_4, fa_28_5, fa_28_6, fa_33_0, fa_33_1, fa_33_2, fa_33_3, fa_33_4, fa_33_5, fa_33_6, fa_33_7, fa_43_0, fa_43_1, agg_28, size_28, zero_28, lit_28, agg_33, size_33, zero_33, lit_33, agg_43, size_43, zero_43, lit_43, agg_23, agg_4, agg_3, agg_41, agg_24, agg_25, agg_26, agg_31, size_41, size_23, size_24, size_25, size_26, size_31, len_24, len_25, len_26, len_31, len_40, ia_24, bs_24, app_24, appT_24, ia_31, bs_31, app_31, appT_31, ia_40, bs_40, app_40, appT_40, ble_dec, repeat_succ, repeat_zero, h34, h32, h33, hd]
  refine hQe _ _ _ _ ?_
  have gDX := sX.keeps (by omega) (by omega) gD
  have gRX := sX.keeps (by omega) (by omega) gR
  have hD2 := hD.mono s0X
  have xr : ∀ (Y : Heap) (n : Nat), Ext Y (Y.relo n) := fun Y n => ⟨Nat.le_refl _, fun x c g t _ h => ⟨t, h⟩⟩
  simp (config := { maxSteps := 1000000 }) (disch := omega) only [↓sh, ↓reduceIte, sx, nbeq_ne, dle, relo_eq, wrap_i64, cond_true, cond_false, Option.bind_some, Option.bind_none, Option.map_some, Nat.add_zero, Nat.zero_add, List.getElem?_cons_zero, List.getElem?_cons_succ, List.getElem?_nil, List.getElem?_toArray, List.length_cons, List.length_nil, List.drop_zero, List.drop_succ_cons, List.drop_nil, List.take_zero, List.take_succ_cons, List.take_nil, List.append_nil, List.nil_append, List.cons_append, List.all_cons, List.all_nil, true_and, and_true, Bool.not_true, Bool.not_false, Bool.true_and, Bool.and_true, Bool.false_and, Bool.and_false, Bool.true_or, Bool.or_true, Bool.false_or, Bool.or_false, decide_true, decide_false, beq_self_eq_true, if_true, if_false, Nat.reduceBEq, Nat.reduceLT, Nat.reduceLeDiff, Nat.reduceAdd, Nat.reduceMul, Nat.reduceEqDiff, Int.reduceEq, Int.reduceLT, Int.reduceLE, eq_self, Int.reduceNeg, Option.isSome_some, cutAll1, cutAll2, cutAll3, cutAll10, cutAll11, cutFirst4, fa_28_0, fa_28_1, fa_28_2, fa_28_3, fa_28_4, fa_28_5, fa_28_6, fa_33_0, fa_33_1, fa_33_2, fa_33_3, fa_33_4, fa_33_5, fa_33_6, fa_33_7, fa_43_0, fa_43_1, agg_28, size_28, zero_28, lit_28, agg_33, size_33, zero_33, lit_33, agg_43, size_43, zero_43, lit_43, agg_23, agg_4, agg_3, agg_41, agg_24, agg_25, agg_26, agg_31, size_41, size_23, size_24, size_25, size_26, size_31, len_24, len_25, len_26, len_31, len_40, ia_24, bs_24, app_24, appT_24, ia_31, bs_31, app_31, appT_31, ia_40, bs_40, app_40, appT_40, ble_dec, repeat_succ, repeat_zero]
  refine wps_draw [(false, []), (false, []), (true, []), (false, []), (false, []), (true, []), (false, []), (false, []), (false, []), (false, []), (false, []), (false, []), (false, []), (false, []), (false, [])] (by kernel_rfl) ?_
  simp (config := { maxSteps := 1000000 }) (disch := omega) only [↓sh, ↓reduceIte, sx, nbeq_ne, dle, relo_eq, wrap_i64, cond_true, cond_false, Option.bind_some, Option.bind_none, Option.map_some, Nat.add_zero, Nat.zero_add, List.getElem?_cons_zero, List.getElem?_cons_succ, List.getElem?_nil, List.getElem?_toArray, List.length_cons, List.length_nil, List.drop_zero, List.drop_succ_cons, List.drop_nil, List.take_zero, List.take_succ_cons, List.take_nil, List.append_nil, List.nil_append, List.cons_append, List.all_cons, List.all_nil, true_and, and_true, Bool.not_true, Bool.not_false, Bool.true_and, Bool.and_true, Bool.false_and, Bool.and_false, Bool.true_or, Bool.or_true, Bool.false_or, Bool.or_false, decide_true, decide_false, beq_self_eq_true, if_true, if_false, Nat.reduceBEq, Nat.reduceLT, Nat.reduceLeDiff, Nat.reduceAdd, Nat.reduceMul, Nat.reduceEqDiff, Int.reduceEq, Int.reduceLT, Int.reduceLE, eq_self, Int.reduceNeg, Option.isSome_some, cutAll1, cutAll2, cutAll3, cutAll10, cutAll11, cutFirst4, fa_28_0, fa_28_1, fa_28_2, fa_28_3, fa_28_4, fa_28_5, fa_28_6, fa_33_0, fa_33_1, fa_33_2, fa_33_3, fa_33_4, fa_33_5, fa_33_6, fa_33_7, fa_43_0, fa_43_1, agg_28, size_28, zero_28, lit_28, agg_33, size_33, zero_33, lit_33, agg_43, size_43, zero_43, lit_43, agg_23, agg_4, agg_3, agg_41, agg_24, agg_25, agg_26, agg_31, size_41, size_23, size_24, size_25, size_26, size_31, len_24, len_25, len_26, len_31, len_40, ia_24, bs_24, app_24, appT_24, ia_31, bs_31, app_31, appT_31, ia_40, bs_40, app_40, appT_40, ble_dec, repeat_succ, repeat_zero, h3, h7, gDX]
  refine (spans_clone (X.relo X.next) (Nat.le_refl _) _ d.table (hD2.2.1.ext RSpan.mono (xr _ _)) (by omega)).mono ?_
  rintro t1 X3 ⟨c1, s3⟩
  replace s3 := s3.relo
  have n3 := s3.nxt
  simp only [relo_next] at n3
  have gD3 : X3.objs.get (H.next + 1) = _ := s3.keeps (by omega) gDX
  simp (config := { maxSteps := 1000000 }) (disch := omega) only [↓sh, ↓reduceIte, sx, nbeq_ne, dle, relo_eq, wrap_i64, cond_true, cond_false, Option.bind_some, Option.bind_none, Option.map_some, Nat.add_zero, Nat.zero_add, List.getElem?_cons_zero, List.getElem?_cons_succ, List.getElem?_nil, List.getElem?_toArray, List.length_cons, List.length_nil, List.drop_zero, List.drop_succ_cons, List.drop_nil, List.take_zero, List.take_succ_cons, List.take_nil, List.append_nil, List.nil_append, List.cons_append, List.all_cons, List.all_nil, true_and, and_true, Bool.not_true, Bool.not_false, Bool.true_and, Bool.and_true, Bool.false_and, Bool.and_false, Bool.true_or, Bool.or_true, Bool.false_or, Bool.or_false, decide_true, decide_false, beq_self_eq_true, if_true, if_false, Nat.reduceBEq, Nat.reduceLT, Nat.reduceLeDiff, Nat.reduceAdd, Nat.reduceMul, Nat.reduceEqDiff, Int.reduceEq, Int.reduceLT, Int.reduceLE, eq_self, Int.reduceNeg, Option.isSome_some, cutAll1, cutAll2, cutAll3, cutAll10, cutAll11, cutFirst4, fa_28_0, fa_28_1, fa_28_2, fa_28_3, fa_28_4, fa_28_5, fa_28_6, fa_33_0, fa_33_1, fa_33_2, fa_33_3, fa_33_4, fa_33_5, fa_33_6, fa_33_7, fa_43_0, fa_43_1, agg_28, size_28, zero_28, lit_28, agg_33, size_33, zero_33, lit_33, agg_43, size_43, zero_43, lit_43, agg_23, agg_4, agg_3, agg_41, agg_24, agg_25, agg_26, agg_31, size_41, size_23, size_24, size_25, size_26, size_31, len_24, len_25, len_26, len_31, len_40, ia_24, bs_24, app_24, appT_24, ia_31, bs_31, app_31, appT_31, ia_40, bs_40, app_40, appT_40, ble_dec, repeat_succ, repeat_zero, h3, h7, gD3]
  refine (spans_clone (X3.relo X3.next) (Nat.le_refl _) _ d.free (hD2.2.2.1.ext RSpan.mono (ext_relo s3.ext _)) (by omega)).mono ?_
  rintro t2 X4 ⟨c2, s4⟩
  have s34 := s4
  replace s4 := s3.step s4
  have n4 := s4.nxt
  simp only [relo_next] at n4
  have gD4 : X4.objs.get (H.next + 1) = _ := s4.keeps (by omega) gDX
  simp (config := { maxSteps := 1000000 }) (disch := omega) only [↓sh, ↓reduceIte, sx, nbeq_ne, dle, relo_eq, wrap_i64, cond_true, cond_false, Option.bind_some, Option.bind_none, Option.map_some, Nat.add_zero, Nat.zero_add, List.getElem?_cons_zero, List.getElem?_cons_succ, List.getElem?_nil, List.getElem?_toArray, List.length_cons, List.length_nil, List.drop_zero, List.drop_succ_cons, List.drop_nil, List.take_zero, List.take_succ_cons, List.take_nil, List.append_nil, List.nil_append, List.cons_append, List.all_cons, List.all_nil, true_and, and_true, Bool.not_true, Bool.not_false, Bool.true_and, Bool.and_true, Bool.false_and, Bool.and_false, Bool.true_or, Bool.or_true, Bool.false_or, Bool.or_false, decide_true, decide_false, beq_self_eq_true, if_true, if_false, Nat.reduceBEq, Nat.reduceLT, Nat.reduceLeDiff, Nat.reduceAdd, Nat.reduceMul, Nat.reduceEqDiff, Int.reduceEq, Int.reduceLT, Int.reduceLE, eq_self, Int.reduceNeg, Option.isSome_some, cutAll1, cutAll2, cutAll3, cutAll10, cutAll11, cutFirst4, fa_28_0, fa_28_1, fa_28_2, fa_28_3, fa_28_4, fa_28_5, fa_28_6, fa_33_0, fa_33_1, fa_33_2, fa_33_3, fa_33_4, fa_33_5, fa_33_6, fa_33_7, fa_43_0, fa_43_1, agg_28, size_28, zero_28, lit_28, agg_33, size_33, zero_33, lit_33, agg_43, size_43, zero_43, lit_43, agg_23, agg_4, agg_3, agg_41, agg_24, agg_25, agg_26, agg_31, size_41, size_23, size_24, size_25, size_26, size_31, len_24, len_25, len_26, len_31, len_40, ia_24, bs_24, app_24, appT_24, ia_31, bs_31, app_31, appT_31, ia_40, bs_40, app_40, appT_40, ble_dec, repeat_succ, repeat_zero, h3, h7, gD4]
  refine (slots_clone (X4.relo X.lo) (by simp (disch := omega) only [setRow_get, newRow_get, newRow_next, setRow_next, newRow_lo, setRow_lo, newRow_grps, setRow_grps, newRow_relo, setRow_relo, relo_objs, relo_next, relo_lo, nbeq_ne, cond_false, cond_true, beq_self_eq_true]; omega) _ d.slots (hD2.2.2.2.ext RSlot.mono (ext_relo s4.ext _)) (by omega)).mono ?_
  rintro t3 X5 ⟨c3, s5⟩
  have s45 := s5
  replace s5 := s4.trans s5
  have n5 := s45.nxt
  have l5 := s5.lo
  simp only [relo_next] at n5
  have g75 : X5.objs.get (H2.next + 1) = _ := s5.keeps (by omega) g7X
  have gR5 := s5.keeps (by omega) gRX
  have hR5 := s5.keeps (by omega) hR
  obtain ⟨xt, ct, rfl⟩ := c1.lit
  obtain ⟨xf, cf, rfl⟩ := c2.lit
  obtain ⟨xs, cx, rfl⟩ := c3.lit
  simp (config := { maxSteps := 1000000 }) (disch := omega) only [↓sh, ↓reduceIte, sx, nbeq_ne, dle, relo_eq, wrap_i64, cond_true, cond_false, Option.bind_some, Option.bind_none, Option.map_some, Nat.add_zero, Nat.zero_add, List.getElem?_cons_zero, List.getElem?_cons_succ, List.getElem?_nil, List.getElem?_toArray, List.length_cons, List.length_nil, List.drop_zero, List.drop_succ_cons, List.drop_nil, List.take_zero, List.take_succ_cons, List.take_nil, List.append_nil, List.nil_append, List.cons_append, List.all_cons, List.all_nil, true_and, and_true, Bool.not_true, Bool.not_false, Bool.true_and, Bool.and_true, Bool.false_and, Bool.and_false, Bool.true_or, Bool.or_true, Bool.false_or, Bool.or_false, decide_true, decide_false, beq_self_eq_true, if_true, if_false, Nat.reduceBEq, Nat.reduceLT, Nat.reduceLeDiff, Nat.reduceAdd, Nat.reduceMul, Nat.reduceEqDiff, Int.reduceEq, Int.reduceLT, Int.reduceLE, eq_self, Int.reduceNeg, Option.isSome_some, cutAll1, cutAll2, cutAll3, cutAll10, cutAll11, cutFirst4, fa_28_0, fa_28_1, fa_28_2, fa_28_3, fa_28_4, fa_28_5, fa_28_6, fa_33_0, fa_33_1, fa_33_2, fa_33_3, fa_33_4, fa_33_5, fa_33_6, fa_33_7, fa_43_0, fa_43_1, agg_28, size_28, zero_28, lit_28, agg_33, size_33, zero_33, lit_33, agg_43, size_43, zero_43, lit_43, agg_23, agg_4, agg_3, agg_41, agg_24, agg_25, agg_26, agg_31, size_41, size_23, size_24, size_25, size_26, size_31, len_24, len_25, len_26, len_31, len_40, ia_24, bs_24, app_24, appT_24, ia_31, bs_31, app_31, appT_31, ia_40, bs_40, app_40, appT_40, ble_dec, repeat_succ, repeat_zero, h3, h4, h7, g75, gR5]
  have v1 := (((((c1.weak (b' := X.next) (by simp (disch := omega) only [setRow_get, newRow_get, newRow_next, setRow_next, newRow_lo, setRow_lo, newRow_grps, setRow_grps, newRow_relo, setRow_relo, relo_objs, relo_next, relo_lo, nbeq_ne, cond_false, cond_true, beq_self_eq_true]; omega)).relo RSpan.mono X3.next).mono RSpan.mono s34).relo RSpan.mono X.lo).mono RSpan.mono s45)
  have v2 := ((c2.weak (b' := X.next) (by simp (disch := omega) only [setRow_get, newRow_get, newRow_next, setRow_next, newRow_lo, setRow_lo, newRow_grps, setRow_grps, newRow_relo, setRow_relo, relo_objs, relo_next, relo_lo, nbeq_ne, cond_false, cond_true, beq_self_eq_true]; omega)).relo RSpan.mono X.lo).mono RSpan.mono s45
  have v3 := c3.weak (b' := X.next) (by simp (disch := omega) only [setRow_get, newRow_get, newRow_next, setRow_next, newRow_lo, setRow_lo, newRow_grps, setRow_grps, newRow_relo, setRow_relo, relo_objs, relo_next, relo_lo, nbeq_ne, cond_false, cond_true, beq_self_eq_true]; omega)
  have s05 := s0X.trans s5
  have hy : ∀ x, x ≠ H2.next + 1 → x ≠ H.next + 1 + 1 → ∀ c1 c2 c3 c4, ((((X5.setRow (H2.next + 1) c1).setRow (H2.next + 1) c2).setRow (H2.next + 1) c3).setRow (H.next + 1 + 1) c4).objs.get x = X5.objs.get x := by
    intro x h1 h2 c1 c2 c3 c4
    rw [setRow_get, nbeq_ne h2, cond_false, setRow_get, nbeq_ne h1, cond_false, setRow_get, nbeq_ne h1, cond_false, setRow_get, nbeq_ne h1, cond_false]
  have sZ : ∀ c1 c2 c3 c4, Same H ((((X5.setRow (H2.next + 1) c1).setRow (H2.next + 1) c2).setRow (H2.next + 1) c3).setRow (H.next + 1 + 1) c4) := fun c1 c2 c3 c4 => (((s05.setRow (by omega) _).setRow (by omega) _).setRow (by omega) _).setRow (by omega) _
  have nZ : ∀ c1 c2 c3 c4, ((((X5.setRow (H2.next + 1) c1).setRow (H2.next + 1) c2).setRow (H2.next + 1) c3).setRow (H.next + 1 + 1) c4).next = X5.next := fun _ _ _ _ => rfl
  generalize eX : Heap.setRow _ (H.next + 1 + 1) _ = X7
  have hy7 : ∀ x, x ≠ H2.next + 1 → x ≠ H.next + 1 + 1 → X7.objs.get x = X5.objs.get x := by
    intro x h1 h2
    rw [← eX]
    exact hy x h1 h2 _ _ _ _
  have s7 : Same H X7 := by rw [← eX]; exact sZ _ _ _ _
  have n7 : X7.next = X5.next := by rw [← eX]; exact nZ _ _ _ _
  clear eX hy sZ nZ
  have hR7 : X7.objs.get H2.next = some (.row (ints (applyW (base a.words N) d.words)) none true) := by rw [hy7 _ (by omega) (by omega)]; exact hR5
  have hll : (applyW (base a.words N) d.words).length = N := by rw [applyW_len, base_len]
  have hab : ∀ x, X.next ≤ x → x < X5.next → X7.objs.get x = X5.objs.get x := fun x h1 _ => hy7 _ (by omega) (by omega)
  refine ⟨⟨_, rfl, _, _, _, _, rfl, ⟨?_, ?_⟩, ?_, ?_, ?_⟩, s7⟩
  · have := SL.alone (R := RInt .u64) (z := 1) (H := X7) (cap := N) (l := applyW (base a.words N) d.words) (elems_ints _ _) (by omega) hR7 (by omega) (by omega)
    rw [hll] at this
    exact this
  · intro a l c e
    simp only [Value.slice.injEq] at e
    exact .inr ⟨_, _, _, _, e.1.symm, by omega, hR7⟩
  · exact (v1.above (H' := X7) (fun _ _ h => h) (by omega) hab).1
  · exact (v2.above (H' := X7) (fun _ _ h => h) (by omega) hab).1
  · exact (v3.above (H' := X7) (fun _ _ h => h) (by omega) hab).1
end Go.AM
