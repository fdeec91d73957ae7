/-
  Walks over letters of the functions that the law reaches.
-/
import Derived.Test.YtbpneihjlledpaaGreatDoorX4
set_option linter.unusedVariables false
set_option linter.unusedSectionVars false
namespace Go.AM
variable [Orc13]
attribute [local instance] fnMaps
open Go Go.Proofs
set_option maxRecDepth 100000
set_option maxHeartbeats 4000000
set_option linter.unusedSimpArgs false
theorem take_snoc {α : Type} {l : List α} {i : Nat} (h : i < l.length) : l.take (i + 1) = l.take i ++ [l[i]] := by rw [List.take_add_one, List.getElem?_eq_getElem h]; rfl
theorem u8_lt (c : UInt8) : c.toNat < 256 := UInt8.toNat_lt c
theorem n45 : (45 : UInt8).toNat = 45 := rfl
theorem n48 : (48 : UInt8).toNat = 48 := rfl
theorem tk_all (l : List UInt8) : l.take l.length = l := List.take_length
theorem ne_nil (c : UInt8) (l : List UInt8) : (c :: l = []) = False := by simp
structure NR (l : List UInt8) (neg : Bool) (d : List UInt8) : Prop where
  hd : decide (l.head? = some 45) = neg
  rest : nrest l = d
theorem NR.bad {l d : List UInt8} {neg : Bool} (h : NR l neg d) (hb : 19 < d.length ∨ (d.head? = some 48 ∧ l ≠ [48]) ∨ d = [] ∨ d.all dig = false) : numR l = (0, false) := by
  unfold numR
  refine if_pos ?_
  unfold nbad
  rw [h.rest]
  rcases hb with h | h | h | h
  · exact .inl (.inr (.inl h))
  · exact .inl (.inr (.inr h))
  · exact .inl (.inl h)
  · exact .inr h
theorem NR.good {l d : List UInt8} {neg : Bool} (h : NR l neg d) (h1 : ¬ 19 < d.length) (h2 : ¬ (d.head? = some 48 ∧ l ≠ [48])) (h3 : d ≠ []) (h4 : d.all dig = true) :
    numR l = if neg = true ∧ valG 0 d ≤ 9223372036854775808 then (-(valG 0 d : Int), true) else (IntKind.i64.wrap (valG 0 d), !neg && decide (valG 0 d ≤ 9223372036854775807)) := by
  unfold numR
  refine (if_neg ?_).trans ?_
  rotate_left
  · have hd := h.hd
    rw [h.rest]
    cases neg with
    | true => rw [decide_eq_true_iff] at hd; simp [hd]
    | false => rw [decide_eq_false_iff_not] at hd; simp [hd]
  · unfold nbad
    rw [h.rest]
    rintro ((h | h | h) | h)
    · exact h3 h
    · exact h1 h
    · exact h2 h
    · rw [h4] at h; cases h
theorem wrap_neg {n : Nat} (h : n ≤ 9223372036854775808) : IntKind.i64.wrap (IntKind.u64.wrap (0 - (n : Int))) = -(n : Int) := by
  simp [IntKind.wrap, IntKind.bits, IntKind.signed]; omega
theorem fn36 : E.fn.get 36 = some Tryz.f36 := by kernel_rfl
theorem rnumber_ok (H : Heap) (hlo : H.lo ≤ H.next) (l : List UInt8) (hl : l.length ≤ 1000000000) : CallA E (fnv 36) [.string (B l)] H fun r H' => r = .tuple #[.int .i64 (numR l).1, .bool (numR l).2] ∧ Same H H' := by
  refine callA_fn (by kernel_rfl) fn36 rfl rfl ?_
  simp only [Tryz.f36]
  have c45 := n45
  have c48 := n48
  by_cases hneg : l.head? = some 45
  · obtain ⟨r, rfl⟩ : ∃ r, l = 45 :: r := by
      cases l with
      | nil => cases hneg
      | cons x r => simp only [List.head?_cons, Option.some.injEq] at hneg; exact ⟨r, by rw [hneg]⟩
    have hN : NR (45 :: r) true r := ⟨rfl, rfl⟩
    clear hneg
    rcases r with _ | ⟨c, q⟩
    · have e := hN.bad (.inr (.inr (.inl rfl)))
      clear hN
      repeat' (first | refine boolP_dec (fun _ => ?_) (fun _ => ?_) | apply boolP_not | refine boolP_b (fun _ => ?_) (fun _ => ?_) | ((with_reducible show Qs _ _ _ _ _); first | refine hQe _ _ _ _ ?_ | refine hQr _ _ _ ?_) | simp (maxSteps := 1000000) (disch := first | omega | (simp only [lenS, *]; omega)) only [↓sgg, sww, simprocAttr, sa, sS, sl_str, tk_all, *])
      all_goals first | (first | (with_reducible exact sameW) | ((with_reducible show _ ∧ _); exact ⟨by first | rfl | (simp [*] <;> omega), sameW⟩)) | omega
    by_cases h19 : 19 < q.length + 1
    · have e := hN.bad (.inl h19)
      clear hN
      repeat' (first | refine boolP_dec (fun _ => ?_) (fun _ => ?_) | apply boolP_not | refine boolP_b (fun _ => ?_) (fun _ => ?_) | ((with_reducible show Qs _ _ _ _ _); first | refine hQe _ _ _ _ ?_ | refine hQr _ _ _ ?_) | simp (maxSteps := 1000000) (disch := first | omega | (simp only [lenS, *]; omega)) only [↓sgg, sww, simprocAttr, sa, sS, sl_str, ne_nil, tk_all, *])
      all_goals first | (first | (with_reducible exact sameW) | ((with_reducible show _ ∧ _); exact ⟨by first | rfl | (simp [*] <;> omega), sameW⟩)) | omega
    · by_cases h0 : c = 48 ∧ 45 :: c :: q ≠ [48]
      · obtain ⟨rfl, h00⟩ := h0
        have e := hN.bad (.inr (.inl ⟨rfl, h00⟩))
        have hx : decide (45 :: 48 :: q = [48]) = false := decide_eq_false h00
        clear hN
        repeat' (first | refine boolP_dec (fun _ => ?_) (fun _ => ?_) | apply boolP_not | refine boolP_b (fun _ => ?_) (fun _ => ?_) | ((with_reducible show Qs _ _ _ _ _); first | refine hQe _ _ _ _ ?_ | refine hQr _ _ _ ?_) | simp (maxSteps := 1000000) (disch := first | omega | (simp only [lenS, *]; omega)) only [↓sgg, sww, simprocAttr, sa, sS, sl_str, ne_nil, tk_all, *])
        all_goals first | (first | (with_reducible exact sameW) | ((with_reducible show _ ∧ _); exact ⟨by first | rfl | (simp [*] <;> omega), sameW⟩)) | omega
      · have hne : ¬ ((c :: q).head? = some 48 ∧ 45 :: c :: q ≠ [48]) := fun h => h0 ⟨by simpa using h.1, h.2⟩
        have hc : decide ((c.toNat : Int) = 48) = true → decide (45 :: c :: q = [48]) = true := fun h => by
          rw [decide_eq_true_iff] at h ⊢
          exact Classical.byContradiction fun h2 => h0 ⟨UInt8.toNat_inj.1 (by rw [n48]; omega), h2⟩
        have hcc : (decide ((c.toNat : Int) = 48) = false) ∨ (decide ((c.toNat : Int) = 48) = true ∧ decide (45 :: c :: q = [48]) = true) := by
          cases h : decide ((c.toNat : Int) = 48) with
          | false => exact .inl rfl
          | true => exact .inr ⟨rfl, hc h⟩
        clear hc
        rcases hcc with hc | ⟨hc, hc2⟩
        all_goals (repeat' (first | refine boolP_dec (fun _ => ?_) (fun _ => ?_) | apply boolP_not | refine boolP_b (fun _ => ?_) (fun _ => ?_) | ((with_reducible show Qs _ _ _ _ _); first | refine hQe _ _ _ _ ?_ | refine hQr _ _ _ ?_) | simp (maxSteps := 1000000) (disch := first | omega | (simp only [lenS, *]; omega)) only [↓sgg, sww, simprocAttr, sa, sS, sl_str, ne_nil, tk_all, *]))
        all_goals try omega
        all_goals
          have hdl : (c :: q).length = q.length + 1 := rfl
          have hdn : (c :: q) ≠ [] := by simp
          generalize c :: q = d at *
          refine wps_named2 (fun T1 H1 eT eH => ?_)
          have k1 : Ko H H1 := by rw [eH]; exact koW
          have n1 := congrArg Heap.next eH; have l1 := congrArg Heap.lo eH; have g1 := fun r => congrArg (fun h : Heap => h.objs.get r) eH
          try simp (disch := omega) only [sm, sl] at n1 l1 g1
          clear eH
          have u1_4 := congrArg (fun T : Tr Value => T.get 4) eT
          have u1_5 := congrArg (fun T : Tr Value => T.get 5) eT
          have u1_6 := congrArg (fun T : Tr Value => T.get 6) eT
          have u1_7 := congrArg (fun T : Tr Value => T.get 7) eT
          simp only [get_set, of_nil, of_1, of_2, of_3, of_4, of_5, Nat.reduceEqDiff, if_true, if_false, reduceIte] at u1_4 u1_5 u1_6 u1_7
          clear eT
          refine wp_loopN (by kernel_rfl) (fun nn T X => ∃ i : Nat, nn = d.length - i ∧ (T.get 6 = some (.int .u64 (valG 0 (d.take i) : Nat)) ∧ T.get 7 = some (.int .i64 i)) ∧ (T.get 4 = T1.get 4 ∧ T.get 5 = T1.get 5) ∧ Ko H1 X ∧ X.lo = H1.lo ∧ (i ≤ d.length ∧ (d.take i).all dig = true)) ?_ ?_
          · refine ⟨_, 0, rfl, ?_, ?_, Ko.refl _, rfl, ⟨Nat.zero_le _, rfl⟩⟩ <;> exact nextW
          rintro nn T1' X1 ⟨i, rfl, m1, w1, kx1, lx1, ⟨hi, ha⟩⟩ Qs hQ hQr hQe
          have kX1 := k1.trans kx1; have nx1 := kx1.nxt; have gx1 := kx1.objs
          have hle : (d.take i).length = i := by rw [List.length_take]; omega
          have hv := valG_le (d.take i) 0 0 ha (by decide)
          rw [hle, Nat.zero_add] at hv
          have hp : 10 ^ i ≤ 10 ^ 19 := Nat.pow_le_pow_right (by decide) (by rw [hdl] at hi; omega)
          have hv2 : valG 0 (d.take i) < 10 ^ 19 := Nat.lt_of_lt_of_le hv hp
          clear hp
          by_cases hlt : i < d.length
          · have hlt' : i < d.length := by omega
            have hp : 10 ^ i ≤ 10 ^ 18 := Nat.pow_le_pow_right (by decide) (by omega)
            have hv3 : valG 0 (d.take i) < 10 ^ 18 := Nat.lt_of_lt_of_le hv hp
            clear hp hv hv2
            have a1 := at_nat hlt
            have hg := List.getElem?_eq_getElem hlt'
            have hsn := take_snoc hlt'
            have hsv := valG_snoc 0 (d.take i) d[i]
            rw [← hsn] at hsv
            have hal : (d.take (i + 1)).all dig = dig d[i] := by rw [hsn, List.all_append, ha, Bool.true_and, List.all_cons, List.all_nil, Bool.and_true]
            have hdd : d.all dig = true → dig d[i] = true := fun h => List.all_eq_true.1 h _ (List.getElem_mem hlt')
            generalize d[i] = x at hg hsv hal hdd
            generalize valG 0 (d.take i) = vv at *
            cases hdx : dig x with
            | false =>
              have e := hN.bad (.inr (.inr (.inr (by cases h : d.all dig with
                | false => rfl
                | true => rw [hdd h] at hdx; cases hdx))))
              have hx : x.toNat < 48 ∨ 57 < x.toNat := by
                simp only [dig, Bool.and_eq_false_iff, decide_eq_false_iff_not] at hdx; omega
              clear hN hdd hsv hal hsn hne
              repeat' (first | refine boolP_dec (fun _ => ?_) (fun _ => ?_) | apply boolP_not | refine boolP_b (fun _ => ?_) (fun _ => ?_) | ((with_reducible show Qs _ _ _ _ _); first | refine hQe _ _ _ _ ?_ | refine hQr _ _ _ ?_) | simp (maxSteps := 1000000) (disch := first | omega | (simp only [lenS, *]; omega)) only [↓sgg, sww, simprocAttr, sa, sS, sl_str, ne_nil, *])
              all_goals first | (first | (with_reducible exact sameW) | ((with_reducible show _ ∧ _); exact ⟨by first | rfl | (simp [*] <;> omega), sameW⟩)) | omega
            | true =>
              have hx := dig_iff.1 hdx
              rw [hdx] at hal
              have e1 : IntKind.u8.wrap ((x.toNat : Int) - 48) = ((x.toNat - 48 : Nat) : Int) := by rw [wrap_u8 (by omega) (by omega)]; omega
              have e2 : ((valG 0 (d.take (i + 1)) : Nat) : Int) = (10 : Int) * (vv : Int) + ((x.toNat - 48 : Nat) : Int) := by rw [hsv]; omega
              have hb : 10 * vv + (x.toNat - 48) < 2 ^ 64 := by omega
              clear hN hdd hsn hne hsv
              repeat' (first | refine boolP_dec (fun _ => ?_) (fun _ => ?_) | apply boolP_not | refine boolP_b (fun _ => ?_) (fun _ => ?_) | ((with_reducible show Qs _ _ _ _ _); first | refine hQe _ _ _ _ ?_ | refine hQr _ _ _ ?_) | simp (maxSteps := 1000000) (disch := first | omega | (simp only [lenS, *]; omega)) only [↓sgg, sww, simprocAttr, sa, sS, sl_str, ne_nil, *])
              all_goals first | (refine hQ _ _ _ ?_ ⟨i + 1, rfl, ?_, ?_, ?_, ?_, ⟨by rw [hdl]; omega, hal⟩⟩ <;> exact nextW) | omega
          · clear hv
            have hie : i = d.length := by omega
            rw [hie, List.take_length] at ha hv2 m1
            have e := hN.good (by rw [hdl]; omega) hne hdn ha
            obtain ⟨m6, m7⟩ := m1
            generalize valG 0 d = vv at *
            clear hN hne
            have hw1 := wrap_neg (n := vv)
            by_cases h63 : vv ≤ 9223372036854775808
            · have hw := hw1 h63
              clear hw1
              repeat' (first | refine boolP_dec (fun _ => ?_) (fun _ => ?_) | apply boolP_not | refine boolP_b (fun _ => ?_) (fun _ => ?_) | ((with_reducible show Qs _ _ _ _ _); first | refine hQe _ _ _ _ ?_ | refine hQr _ _ _ ?_) | simp (maxSteps := 1000000) (disch := first | omega | (simp only [lenS, *]; omega)) only [↓sgg, sww, simprocAttr, sa, sS, sl_str, ne_nil, *])
              all_goals first | (first | (with_reducible exact sameW) | ((with_reducible show _ ∧ _); exact ⟨by first | rfl | (simp [*] <;> omega), sameW⟩)) | omega | trace_state
            · clear hw1
              repeat' (first | refine boolP_dec (fun _ => ?_) (fun _ => ?_) | apply boolP_not | refine boolP_b (fun _ => ?_) (fun _ => ?_) | ((with_reducible show Qs _ _ _ _ _); first | refine hQe _ _ _ _ ?_ | refine hQr _ _ _ ?_) | simp (maxSteps := 1000000) (disch := first | omega | (simp only [lenS, *]; omega)) only [↓sgg, sww, simprocAttr, sa, sS, sl_str, ne_nil, *])
              all_goals first | (first | (with_reducible exact sameW) | ((with_reducible show _ ∧ _); exact ⟨by first | rfl | (simp [*] <;> omega), sameW⟩)) | omega | trace_state
  · rcases l with _ | ⟨c, q⟩
    · have e : numR [] = (0, false) := rfl
      repeat' (first | refine boolP_dec (fun _ => ?_) (fun _ => ?_) | apply boolP_not | refine boolP_b (fun _ => ?_) (fun _ => ?_) | ((with_reducible show Qs _ _ _ _ _); first | refine hQe _ _ _ _ ?_ | refine hQr _ _ _ ?_) | simp (maxSteps := 1000000) (disch := first | omega | (simp only [lenS, *]; omega)) only [↓sgg, sww, simprocAttr, sa, sS, sl_str, tk_all, *])
      all_goals first | (first | (with_reducible exact sameW) | ((with_reducible show _ ∧ _); exact ⟨by first | rfl | (simp [*] <;> omega), sameW⟩)) | omega
    have hN : NR (c :: q) false (c :: q) := ⟨decide_eq_false hneg, if_neg hneg⟩
    have hn45 : decide ((c.toNat : Int) = 45) = false := decide_eq_false fun e => hneg (by rw [List.head?_cons, UInt8.toNat_inj.1 (show c.toNat = (45 : UInt8).toNat by rw [n45]; omega)])
    clear hneg
    by_cases h19 : 19 < q.length + 1
    · have e := hN.bad (.inl h19)
      clear hN
      repeat' (first | refine boolP_dec (fun _ => ?_) (fun _ => ?_) | apply boolP_not | refine boolP_b (fun _ => ?_) (fun _ => ?_) | ((with_reducible show Qs _ _ _ _ _); first | refine hQe _ _ _ _ ?_ | refine hQr _ _ _ ?_) | simp (maxSteps := 1000000) (disch := first | omega | (simp only [lenS, *]; omega)) only [↓sgg, sww, simprocAttr, sa, sS, sl_str, ne_nil, tk_all, *])
      all_goals first | (first | (with_reducible exact sameW) | ((with_reducible show _ ∧ _); exact ⟨by first | rfl | (simp [*] <;> omega), sameW⟩)) | omega
    · by_cases h0 : c = 48 ∧ c :: q ≠ [48]
      · obtain ⟨h01, h00⟩ := h0
        subst h01
        have e := hN.bad (.inr (.inl ⟨rfl, h00⟩))
        have hx : decide (48 :: q = [48]) = false := decide_eq_false h00
        clear hN
        repeat' (first | refine boolP_dec (fun _ => ?_) (fun _ => ?_) | apply boolP_not | refine boolP_b (fun _ => ?_) (fun _ => ?_) | ((with_reducible show Qs _ _ _ _ _); first | refine hQe _ _ _ _ ?_ | refine hQr _ _ _ ?_) | simp (maxSteps := 1000000) (disch := first | omega | (simp only [lenS, *]; omega)) only [↓sgg, sww, simprocAttr, sa, sS, sl_str, ne_nil, tk_all, *])
        all_goals first | (first | (with_reducible exact sameW) | ((with_reducible show _ ∧ _); exact ⟨by first | rfl | (simp [*] <;> omega), sameW⟩)) | omega
      · have hne : ¬ ((c :: q).head? = some 48 ∧ c :: q ≠ [48]) := fun h => h0 ⟨by simpa using h.1, h.2⟩
        have hc : decide ((c.toNat : Int) = 48) = true → decide (c :: q = [48]) = true := fun h => by
          rw [decide_eq_true_iff] at h ⊢
          exact Classical.byContradiction fun h2 => h0 ⟨UInt8.toNat_inj.1 (by rw [n48]; omega), h2⟩
        have hcc : (decide ((c.toNat : Int) = 48) = false) ∨ (decide ((c.toNat : Int) = 48) = true ∧ decide (c :: q = [48]) = true) := by
          cases h : decide ((c.toNat : Int) = 48) with
          | false => exact .inl rfl
          | true => exact .inr ⟨rfl, hc h⟩
        clear hc
        rcases hcc with hc | ⟨hc, hc2⟩
        all_goals (repeat' (first | refine boolP_dec (fun _ => ?_) (fun _ => ?_) | apply boolP_not | refine boolP_b (fun _ => ?_) (fun _ => ?_) | ((with_reducible show Qs _ _ _ _ _); first | refine hQe _ _ _ _ ?_ | refine hQr _ _ _ ?_) | simp (maxSteps := 1000000) (disch := first | omega | (simp only [lenS, *]; omega)) only [↓sgg, sww, simprocAttr, sa, sS, sl_str, ne_nil, tk_all, *]))
        all_goals try omega
        all_goals
          have hdl : (c :: q).length = q.length + 1 := rfl
          have hdn : (c :: q) ≠ [] := by simp
          generalize c :: q = d at *
          refine wps_named2 (fun T1 H1 eT eH => ?_)
          have k1 : Ko H H1 := by rw [eH]; exact koW
          have n1 := congrArg Heap.next eH; have l1 := congrArg Heap.lo eH; have g1 := fun r => congrArg (fun h : Heap => h.objs.get r) eH
          try simp (disch := omega) only [sm, sl] at n1 l1 g1
          clear eH
          have u1_4 := congrArg (fun T : Tr Value => T.get 4) eT
          have u1_5 := congrArg (fun T : Tr Value => T.get 5) eT
          have u1_6 := congrArg (fun T : Tr Value => T.get 6) eT
          have u1_7 := congrArg (fun T : Tr Value => T.get 7) eT
          simp only [get_set, of_nil, of_1, of_2, of_3, of_4, of_5, Nat.reduceEqDiff, if_true, if_false, reduceIte] at u1_4 u1_5 u1_6 u1_7
          clear eT
          refine wp_loopN (by kernel_rfl) (fun nn T X => ∃ i : Nat, nn = d.length - i ∧ (T.get 6 = some (.int .u64 (valG 0 (d.take i) : Nat)) ∧ T.get 7 = some (.int .i64 i)) ∧ (T.get 4 = T1.get 4 ∧ T.get 5 = T1.get 5) ∧ Ko H1 X ∧ X.lo = H1.lo ∧ (i ≤ d.length ∧ (d.take i).all dig = true)) ?_ ?_
          · refine ⟨_, 0, rfl, ?_, ?_, Ko.refl _, rfl, ⟨Nat.zero_le _, rfl⟩⟩ <;> exact nextW
          rintro nn T1' X1 ⟨i, rfl, m1, w1, kx1, lx1, ⟨hi, ha⟩⟩ Qs hQ hQr hQe
          have kX1 := k1.trans kx1; have nx1 := kx1.nxt; have gx1 := kx1.objs
          have hle : (d.take i).length = i := by rw [List.length_take]; omega
          have hv := valG_le (d.take i) 0 0 ha (by decide)
          rw [hle, Nat.zero_add] at hv
          have hp : 10 ^ i ≤ 10 ^ 19 := Nat.pow_le_pow_right (by decide) (by rw [hdl] at hi; omega)
          have hv2 : valG 0 (d.take i) < 10 ^ 19 := Nat.lt_of_lt_of_le hv hp
          clear hp
          by_cases hlt : i < d.length
          · have hlt' : i < d.length := by omega
            have hp : 10 ^ i ≤ 10 ^ 18 := Nat.pow_le_pow_right (by decide) (by omega)
            have hv3 : valG 0 (d.take i) < 10 ^ 18 := Nat.lt_of_lt_of_le hv hp
            clear hp hv hv2
            have a1 := at_nat hlt
            have hg := List.getElem?_eq_getElem hlt'
            have hsn := take_snoc hlt'
            have hsv := valG_snoc 0 (d.take i) d[i]
            rw [← hsn] at hsv
            have hal : (d.take (i + 1)).all dig = dig d[i] := by rw [hsn, List.all_append, ha, Bool.true_and, List.all_cons, List.all_nil, Bool.and_true]
            have hdd : d.all dig = true → dig d[i] = true := fun h => List.all_eq_true.1 h _ (List.getElem_mem hlt')
            generalize d[i] = x at hg hsv hal hdd
            generalize valG 0 (d.take i) = vv at *
            cases hdx : dig x with
            | false =>
              have e := hN.bad (.inr (.inr (.inr (by cases h : d.all dig with
                | false => rfl
                | true => rw [hdd h] at hdx; cases hdx))))
              have hx : x.toNat < 48 ∨ 57 < x.toNat := by
                simp only [dig, Bool.and_eq_false_iff, decide_eq_false_iff_not] at hdx; omega
              clear hN hdd hsv hal hsn hne
              repeat' (first | refine boolP_dec (fun _ => ?_) (fun _ => ?_) | apply boolP_not | refine boolP_b (fun _ => ?_) (fun _ => ?_) | ((with_reducible show Qs _ _ _ _ _); first | refine hQe _ _ _ _ ?_ | refine hQr _ _ _ ?_) | simp (maxSteps := 1000000) (disch := first | omega | (simp only [lenS, *]; omega)) only [↓sgg, sww, simprocAttr, sa, sS, sl_str, ne_nil, *])
              all_goals first | (first | (with_reducible exact sameW) | ((with_reducible show _ ∧ _); exact ⟨by first | rfl | (simp [*] <;> omega), sameW⟩)) | omega
            | true =>
              have hx := dig_iff.1 hdx
              rw [hdx] at hal
              have e1 : IntKind.u8.wrap ((x.toNat : Int) - 48) = ((x.toNat - 48 : Nat) : Int) := by rw [wrap_u8 (by omega) (by omega)]; omega
              have e2 : ((valG 0 (d.take (i + 1)) : Nat) : Int) = (10 : Int) * (vv : Int) + ((x.toNat - 48 : Nat) : Int) := by rw [hsv]; omega
              have hb : 10 * vv + (x.toNat - 48) < 2 ^ 64 := by omega
              clear hN hdd hsn hne hsv
              repeat' (first | refine boolP_dec (fun _ => ?_) (fun _ => ?_) | apply boolP_not | refine boolP_b (fun _ => ?_) (fun _ => ?_) | ((with_reducible show Qs _ _ _ _ _); first | refine hQe _ _ _ _ ?_ | refine hQr _ _ _ ?_) | simp (maxSteps := 1000000) (disch := first | omega | (simp only [lenS, *]; omega)) only [↓sgg, sww, simprocAttr, sa, sS, sl_str, ne_nil, *])
              all_goals first | (refine hQ _ _ _ ?_ ⟨i + 1, rfl, ?_, ?_, ?_, ?_, ⟨by rw [hdl]; omega, hal⟩⟩ <;> exact nextW) | omega
          · clear hv
            have hie : i = d.length := by omega
            rw [hie, List.take_length] at ha hv2 m1
            have e := hN.good (by rw [hdl]; omega) hne hdn ha
            obtain ⟨m6, m7⟩ := m1
            generalize valG 0 d = vv at *
            clear hN hne
            have hw1 := wrap_neg (n := vv)
            by_cases h63 : vv ≤ 9223372036854775808
            · have hw := hw1 h63
              clear hw1
              repeat' (first | refine boolP_dec (fun _ => ?_) (fun _ => ?_) | apply boolP_not | refine boolP_b (fun _ => ?_) (fun _ => ?_) | ((with_reducible show Qs _ _ _ _ _); first | refine hQe _ _ _ _ ?_ | refine hQr _ _ _ ?_) | simp (maxSteps := 1000000) (disch := first | omega | (simp only [lenS, *]; omega)) only [↓sgg, sww, simprocAttr, sa, sS, sl_str, ne_nil, *])
              all_goals first | (first | (with_reducible exact sameW) | ((with_reducible show _ ∧ _); exact ⟨by first | rfl | (simp [*] <;> omega), sameW⟩)) | omega | trace_state
            · clear hw1
              repeat' (first | refine boolP_dec (fun _ => ?_) (fun _ => ?_) | apply boolP_not | refine boolP_b (fun _ => ?_) (fun _ => ?_) | ((with_reducible show Qs _ _ _ _ _); first | refine hQe _ _ _ _ ?_ | refine hQr _ _ _ ?_) | simp (maxSteps := 1000000) (disch := first | omega | (simp only [lenS, *]; omega)) only [↓sgg, sww, simprocAttr, sa, sS, sl_str, ne_nil, *])
              all_goals first | (first | (with_reducible exact sameW) | ((with_reducible show _ ∧ _); exact ⟨by first | rfl | (simp [*] <;> omega), sameW⟩)) | omega | trace_state
end Go.AM
