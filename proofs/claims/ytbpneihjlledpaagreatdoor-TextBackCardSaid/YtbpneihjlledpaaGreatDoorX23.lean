/-
  Walks over letters of the functions that the law reaches.
-/
import Derived.Test.YtbpneihjlledpaaGreatDoorX22
set_option linter.unusedVariables false
set_option linter.unusedSectionVars false
namespace Go.AM
variable [Orc13]
attribute [local instance] fnMaps
open Go Go.Proofs
set_option maxRecDepth 100000
set_option maxHeartbeats 4000000
set_option linter.unusedSimpArgs false
theorem setF_ok {o : TOp} (h : OpOk o) (c n : Int) (hn : i64 n) : OpOk (setF o c n) := by
  unfold setF
  repeat' split
  all_goals exact ⟨by first | exact h.d | exact hn, by first | exact hn | exact h.h, by first | exact hn | exact h.g, by first | exact hn | exact h.i, h.vk, h.vx, h.w, by first | exact hn | exact h.k, by first | exact hn | exact h.f, by first | exact hn | exact h.r, h.p⟩
theorem readO_ok {o : TOp} (h : OpOk o) (c : Int) (l : List UInt8) : OpOk (readO o c l) := by
  unfold readO
  split
  · split
    · rename_i hp; exact { h with p := hp.2 }
    · exact h
  split
  · exact { h with w := readW_lt l }
  split
  · exact { h with vk := valK_in l, vx := valX_in l }
  split
  · exact setF_ok h _ _ (atoiN_in l)
  · exact h
theorem i64_0 : i64 0 := ⟨by decide, by decide⟩
theorem oD_ok {d : Int} (h : i64 d) : OpOk (oD d) := ⟨h, i64_0, i64_0, i64_0, i64_0, i64_0, Nat.pow_pos (by decide), i64_0, i64_0, i64_0, ⟨Int.le_refl 0, by show (0 : Int) ≤ 255; decide⟩⟩
theorem zO_ok : OpOk zO := oD_ok (d := 0) i64_0
theorem readAll_ok : ∀ (u : List UInt8) (ps : List (List UInt8)) (o x : TOp), OpOk o → readAll o u ps = some x → OpOk x
  | [], _, o, x, h, e => by unfold readAll at e; cases e; exact h
  | _ :: _, [], o, x, h, e => by unfold readAll at e; cases e; exact h
  | c :: u, p :: ps, o, x, h, e => by
    unfold readAll at e
    split at e
    · exact readAll_ok u ps _ x (readO_ok h _ _) e
    · cases e
theorem parse_opok (s : List UInt8) : OpOk (parseR s).1 := by
  unfold parseR
  cases splitC 32 s with
  | nil => exact zO_ok
  | cons p0 ps =>
    show OpOk (parseP p0 ps).1
    unfold parseP
    split
    · exact zO_ok
    split
    · exact zO_ok
    split
    · exact zO_ok
    · cases h : readAll (oD (ofS (B p0))) (usesL (ofS (B p0))) ps with
      | none => exact zO_ok
      | some x => exact readAll_ok _ _ _ _ (oD_ok (ofS_in _)) h
def skipL (p : List UInt8) : Bool := decide (p = []) || decide (p.head? = some 35)
def readG : List (List UInt8) → Nat → List TOp → List TOp × Int × Int
  | [], _, acc => (acc, 0, 0)
  | p :: ps, i, acc => if skipL p = true then readG ps (i + 1) acc else if (parseR p).2 ≠ 0 then ([], (i : Int) + 1, (parseR p).2) else if acc.length = 2000 then ([], (i : Int) + 1, 13) else readG ps (i + 1) (acc ++ [(parseR p).1])
def readR (s : List UInt8) : List TOp × Int × Int := if 20000 < s.length then ([], 0, 13) else readG (splitC 10 s) 0 []
theorem grow_o {n : Nat} (h : n ≤ 10000) : growOk 11 88 n = true := by
  unfold growOk
  rw [Nat.ble_eq_true_of_le (show n * 88 ≤ 10000000000 by omega), Nat.ble_eq_true_of_le (show n ≤ 1000000000 by omega)]
  rfl
theorem ops_nil (H : Heap) : OpsR H (.slice none 0 0) [] := ⟨⟨none, 0, rfl, ⟨Nat.le_refl _, Nat.zero_le _⟩, fun i x h => by simp at h⟩, fun a l c e => by cases e; exact .inl rfl⟩
theorem Own.sl {b z n : Nat} {H : Heap} {v : Value} {cs : List Value} (h : Own b z H v n cs) : ∃ a, v = .slice a n n := by
  obtain ⟨_, ⟨rfl, rfl⟩ | ⟨r, rfl, _⟩⟩ := h
  · exact ⟨_, rfl⟩
  · exact ⟨_, rfl⟩
theorem fn15 : E.fn.get 15 = some Tryz.f15 := by kernel_rfl
theorem tread2_ok (H : Heap) (hlo : H.lo ≤ H.next) (s : List UInt8) : CallA E (fnv 15) [.string (B s)] H fun r H' => (∃ v, r = .tuple #[v, .int .i64 (readR s).2.1, .int .i64 (readR s).2.2] ∧ OpsR H' v (readR s).1) ∧ Same H H' := by
  refine callA_fn (by kernel_rfl) fn15 rfl rfl ?_
  simp only [Tryz.f15]
  by_cases hbig : 20000 < s.length
  · have e : readR s = ([], 0, 13) := if_pos hbig
    rw [e]
    repeat' (first | refine boolP_dec (fun _ => ?_) (fun _ => ?_) | apply boolP_not | refine boolP_b (fun _ => ?_) (fun _ => ?_) | ((with_reducible show Qs _ _ _ _ _); first | refine hQe _ _ _ _ ?_ | refine hQr _ _ _ ?_) | simp (maxSteps := 1000000) (disch := first | omega | (simp only [lenS, *]; omega)) only [↓sgg, sww, simprocAttr, sa, sS, *])
    all_goals first | exact ⟨⟨_, rfl, ops_nil _⟩, sameW⟩ | omega | trace_state
  have eR : Hid (readR s = readG (splitC 10 s) 0 []) := if_neg hbig
  generalize readR s = R at *
  repeat' (first | refine boolP_dec (fun _ => ?_) (fun _ => ?_) | apply boolP_not | refine boolP_b (fun _ => ?_) (fun _ => ?_) | ((with_reducible show Qs _ _ _ _ _); first | refine hQe _ _ _ _ ?_ | refine hQr _ _ _ ?_) | simp (maxSteps := 1000000) (disch := first | omega | (simp only [lenS, *]; omega)) only [↓sgg, sww, simprocAttr, sa, sS, *])
  all_goals try omega
  refine CallA.mono (split_ok _ s (by omega) 10) ?_
  rintro v H1 ⟨⟨r, g, t, rfl, hr, hrow⟩, s1⟩
  have nx1 := s1.nxt
  have lo1 := s1.lo
  have k1 := s1.ko
  have hmem := splitC_mem 10 s
  have hsl := splitC_len 10 s
  generalize splitC 10 s = pp at *
  have hcell : ∀ i p, pp[i]? = some p → (pp.map sV)[i]? = some (Value.string (B p)) := fun i p h => by rw [List.getElem?_map, h]; rfl
  generalize pp.map sV = cells at *
  repeat' (first | refine boolP_dec (fun _ => ?_) (fun _ => ?_) | apply boolP_not | refine boolP_b (fun _ => ?_) (fun _ => ?_) | ((with_reducible show Qs _ _ _ _ _); first | refine hQe _ _ _ _ ?_ | refine hQr _ _ _ ?_) | simp (maxSteps := 1000000) (disch := first | omega | (simp only [lenS, *]; omega)) only [↓sgg, sww, simprocAttr, sa, sS, *])
  refine wps_named2 (fun T3 H3 eT eH => ?_)
  have j3 : Ko H1 H3 := by rw [eH]; exact koW
  have n3 := congrArg Heap.next eH; have l3 := congrArg Heap.lo eH; have g3 := fun r => congrArg (fun h : Heap => h.objs.get r) eH
  try simp (disch := omega) only [sm, sl] at n3 l3 g3
  clear eH
  have u3_5 := congrArg (fun T : Tr Value => T.get 5) eT
  have u3_14 := congrArg (fun T : Tr Value => T.get 14) eT
  have u3_15 := congrArg (fun T : Tr Value => T.get 15) eT
  have u3_16 := congrArg (fun T : Tr Value => T.get 16) eT
  simp only [get_set, of_nil, of_1, of_2, of_3, of_4, of_5, Nat.reduceEqDiff, if_true, if_false, reduceIte] at u3_5 u3_14 u3_15 u3_16
  clear eT
  refine wp_loopN (by kernel_rfl) (fun nn T X => ∃ (i : Nat) (v : Value) (acc : List TOp), nn = pp.length - i ∧ (T.get 5 = some (v) ∧ T.get 16 = some (.int .i64 i)) ∧ (T.get 14 = T3.get 14 ∧ T.get 15 = T3.get 15) ∧ True ∧ True ∧ (i ≤ pp.length ∧ Own H1.next 11 X v acc.length (acc.flatMap opL) ∧ Same H1 X ∧ acc.length ≤ 2000 ∧ (∀ o ∈ acc, OpOk o) ∧ R = readG (pp.drop i) i acc)) ?_ ?_
  · refine ⟨_, 0, _, List.nil, rfl, ?_, ?_, trivial, trivial, Nat.zero_le _, Own.nil _ _ _, Ko.same j3 (by omega), Nat.zero_le _, fun o h => by simp at h, eR⟩ <;> exact nextW
  rintro nn T3' X3 ⟨i, vo, acc, rfl, m3, w3, _, _, hi, hO, hS, hal, hok, hA⟩ Qs hQ hQr hQe
  obtain ⟨sv, rfl⟩ := hO.sl
  have sH1 : Same H H1 := s1
  have sHX := sH1.trans hS
  have loX := sHX.lo
  have nxX := sHX.nxt
  have nyX := hS.nxt
  have kX := sHX.ko
  have hrowX := hS.keeps hr hrow
  have hrowX0 := hrow
  clear hrow
  by_cases hlt : i < pp.length
  · have a1 := at_nat hlt
    have hc := hcell i pp[i] (List.getElem?_eq_getElem hlt)
    have hpl := hmem pp[i] (List.getElem_mem hlt)
    rw [List.drop_eq_getElem_cons hlt, readG] at hA
    generalize pp[i] = p at *
    have hpo := parse_opok p
    clear hcell hmem
    by_cases hsk : skipL p = true
    · rw [if_pos hsk] at hA
      by_cases hp0 : p = []
      · have hd : decide (p = []) = true := decide_eq_true hp0
        clear hp0 hsk
        repeat' (first | refine boolP_dec (fun _ => ?_) (fun _ => ?_) | apply boolP_not | refine boolP_b (fun _ => ?_) (fun _ => ?_) | ((with_reducible show Qs _ _ _ _ _); first | refine hQe _ _ _ _ ?_ | refine hQr _ _ _ ?_) | simp (maxSteps := 1000000) (disch := first | omega | (simp only [lenS, *]; omega)) only [↓sgg, sww, simprocAttr, sa, sS, *])
        all_goals first | (refine hQ _ _ _ ?_ ⟨i + 1, _, acc, rfl, ?_, ?_, trivial, trivial, by omega, hO, hS, hal, hok, hA⟩ <;> exact nextW) | omega | trace_state
      · have hd : decide (p = []) = false := decide_eq_false hp0
        have h35 : p.head? = some 35 := by
          unfold skipL at hsk
          rw [hd, Bool.false_or] at hsk
          exact of_decide_eq_true hsk
        have hg0 := head_get h35
        have hpos : 0 < p.length := List.length_pos_iff.2 hp0
        have a0 := at_nat (i := 0) hpos
        have n35 : (35 : UInt8).toNat = 35 := rfl
        clear hp0 hsk h35
        repeat' (first | refine boolP_dec (fun _ => ?_) (fun _ => ?_) | apply boolP_not | refine boolP_b (fun _ => ?_) (fun _ => ?_) | ((with_reducible show Qs _ _ _ _ _); first | refine hQe _ _ _ _ ?_ | refine hQr _ _ _ ?_) | simp (maxSteps := 1000000) (disch := first | omega | (simp only [lenS, *]; omega)) only [↓sgg, sww, simprocAttr, sa, sS, *])
        all_goals first | (refine hQ _ _ _ ?_ ⟨i + 1, _, acc, rfl, ?_, ?_, trivial, trivial, by omega, hO, hS, hal, hok, hA⟩ <;> exact nextW) | omega | trace_state
    · rw [if_neg hsk] at hA
      have hd : decide (p = []) = false := decide_eq_false fun e => hsk (by rw [e]; rfl)
      have hp0 : p ≠ [] := of_decide_eq_false hd
      have hpos : 0 < p.length := List.length_pos_iff.2 hp0
      have a0 := at_nat (i := 0) hpos
      have hg0 := List.getElem?_eq_getElem hpos
      have h35 : decide ((p[0].toNat : Int) = 35) = false := decide_eq_false fun e => hsk (by
        unfold skipL
        rw [hd, Bool.false_or, List.head?_eq_getElem?, hg0]
        exact decide_eq_true (by rw [show p[0] = 35 from UInt8.toNat_inj.1 (by rw [show (35 : UInt8).toNat = 35 from rfl]; omega)]))
      generalize p[0] = y at *
      obtain ⟨Q, hQq⟩ : ∃ Q, parseR p = Q := ⟨_, rfl⟩
      have c1 := fun (X : Heap) (hx : X.lo ≤ X.next) => tparse_ok X hx p (by omega)
      rw [hQq] at c1 hA hpo
      have q1 := opL_len Q.1
      have q2 := op_cell Q.1
      have q3 : (opL Q.1).drop 11 = [] := rfl
      have q4 := op_all Q.1
      clear hp0 hsk hQq
      by_cases he : Q.2 = 0
      · rw [if_neg (fun h => h he)] at hA
        by_cases hfull : acc.length = 2000
        · rw [if_pos hfull] at hA
          repeat' (first | refine boolP_dec (fun _ => ?_) (fun _ => ?_) | apply boolP_not | refine boolP_b (fun _ => ?_) (fun _ => ?_) | ((with_reducible show CallA _ _ _ _ _); refine call_ko (H0 := H) koW (c1 _ loW) ?_; intro H2 k2 l2 n2 g2 q2; try simp (disch := omega) only [sm, sl] at l2 n2 g2 q2) | ((with_reducible show Qs _ _ _ _ _); first | refine hQe _ _ _ _ ?_ | refine hQr _ _ _ ?_) | simp (maxSteps := 1000000) (disch := first | omega | (simp only [lenS, *]; omega)) only [↓sgg, sww, simprocAttr, sa, sS, *])
          all_goals first | exact ⟨⟨_, rfl, ops_nil _⟩, sameW⟩ | omega | trace_state
        · rw [if_neg hfull] at hA
          repeat' (first | refine boolP_dec (fun _ => ?_) (fun _ => ?_) | apply boolP_not | refine boolP_b (fun _ => ?_) (fun _ => ?_) | ((with_reducible show Qs _ _ _ _ _); first | refine hQe _ _ _ _ ?_ | refine hQr _ _ _ ?_) | simp (maxSteps := 1000000) (disch := first | omega | (simp only [lenS, *]; omega)) only [↓sgg, sww, simprocAttr, sa, sS, *])
          all_goals try omega
          refine CallA.mono (c1 _ (by omega)) ?_
          rintro _ Y ⟨rfl, sY⟩
          have sHY := sHX.trans sY
          have sXY := hS.trans sY
          have loY := sHY.lo
          have nxY := sXY.nxt
          have nhY := sHY.nxt
          have kY := sHY.ko
          have e1 := sXY.keeps hr hrowX0
          have hOY := ((hO.same sY).same (same_box Y (opL zO) (opL Q.1))).same (same_newRow (opL Q.1))
          obtain ⟨H4, ha4, hO4, hg4, hn4⟩ := append_own (size := 11) (bytes := 88) (k := 1) (new := opL Q.1) hOY (by simp (disch := omega) only [setRow_get, newRow_get, newRow_next, setRow_next, newRow_lo, setRow_lo, newRow_grps, setRow_grps, newRow_relo, setRow_relo, relo_objs, relo_next, relo_lo, nbeq_ne, sl]; omega) (by simp (disch := omega) only [setRow_get, newRow_get, newRow_next, setRow_next, newRow_lo, setRow_lo, newRow_grps, setRow_grps, newRow_relo, setRow_relo, relo_objs, relo_next, relo_lo, nbeq_ne, sl]; omega) (by omega) rfl (op_cell _) (grow_o (by omega))
          have s4 : Same H1 H4 := hg4.same ((sXY.trans (same_box Y (opL zO) (opL Q.1))).newRow _) (Nat.le_refl _)
          have lo4 := s4.lo
          have hl4 : (acc ++ [Q.1]).length ≤ 2000 := by rw [List.length_append, List.length_cons, List.length_nil]; omega
          have hk4 : ∀ o ∈ acc ++ [Q.1], OpOk o := fun o ho => by
            rcases List.mem_append.1 ho with h | h
            · exact hok o h
            · rw [List.mem_singleton.1 h]; exact hpo
          have hO5 : Own H1.next 11 H4 (.slice (some ⟨((((Y.newRow (opL zO)).setRow Y.next (opL Q.1))).newRow (opL Q.1)).next, 0, none⟩) (acc.length + 1) (acc.length + 1)) (acc ++ [Q.1]).length ((acc ++ [Q.1]).flatMap opL) := by
            rw [List.length_append, List.flatMap_append]
            have : [Q.1].flatMap opL = opL Q.1 := List.append_nil _
            rw [this]
            exact hO4
          have z1 : [Value.int .i64 0, .int .i64 0, .int .i64 0, .int .i64 0, .int .i64 0, .int .i64 0, .int .u64 0, .int .i64 0, .int .i64 0, .int .i64 0, .int .u8 0] = opL zO := rfl
          rw [newRow_next, setRow_next, newRow_next] at hO5 ha4 hn4
          have z2 := opL_len zO
          have z3 : (opL zO).drop 11 = [] := rfl
          clear hO4 hOY hO
          generalize acc ++ [Q.1] = ac at *
          repeat' (first | refine boolP_dec (fun _ => ?_) (fun _ => ?_) | apply boolP_not | refine boolP_b (fun _ => ?_) (fun _ => ?_) | ((with_reducible show Qs _ _ _ _ _); first | refine hQe _ _ _ _ ?_ | refine hQr _ _ _ ?_) | simp (maxSteps := 1000000) (disch := first | omega | (simp only [lenS, *]; omega)) only [↓sgg, sww, simprocAttr, sa, sS, z1, ble_dec, repeat_succ, repeat_zero, List.drop_succ_cons, List.drop_zero, List.append_nil, List.length_cons, List.length_nil, *])
          all_goals first | (refine hQ _ _ _ ?_ ⟨i + 1, _, ac, rfl, ?_, ?_, trivial, trivial, by omega, hO5, s4, hl4, hk4, hA⟩ <;> exact nextW) | omega | trace_state
      · rw [if_pos he] at hA
        repeat' (first | refine boolP_dec (fun _ => ?_) (fun _ => ?_) | apply boolP_not | refine boolP_b (fun _ => ?_) (fun _ => ?_) | ((with_reducible show CallA _ _ _ _ _); refine call_ko (H0 := H) koW (c1 _ loW) ?_; intro H2 k2 l2 n2 g2 q2; try simp (disch := omega) only [sm, sl] at l2 n2 g2 q2) | ((with_reducible show Qs _ _ _ _ _); first | refine hQe _ _ _ _ ?_ | refine hQr _ _ _ ?_) | simp (maxSteps := 1000000) (disch := first | omega | (simp only [lenS, *]; omega)) only [↓sgg, sww, simprocAttr, sa, sS, *])
        all_goals first | exact ⟨⟨_, rfl, ops_nil _⟩, sameW⟩ | omega | trace_state
  · have ei : i = pp.length := by omega
    rw [List.drop_eq_nil_of_le (by omega), readG] at hA
    have hel := elems_ops X3 acc hok
    have hOR := own_ops hO rfl (by omega) hel
    repeat' (first | refine boolP_dec (fun _ => ?_) (fun _ => ?_) | apply boolP_not | refine boolP_b (fun _ => ?_) (fun _ => ?_) | ((with_reducible show Qs _ _ _ _ _); first | refine hQe _ _ _ _ ?_ | refine hQr _ _ _ ?_) | simp (maxSteps := 1000000) (disch := first | omega | (simp only [lenS, *]; omega)) only [↓sgg, sww, simprocAttr, sa, sS, *])
    all_goals first | ((with_reducible show _ ∧ _); exact ⟨⟨_, rfl, hOR⟩, sHX⟩) | ((with_reducible show ∃ _, _); exact ⟨_, rfl, hOR⟩) | omega | trace_state
end Go.AM
