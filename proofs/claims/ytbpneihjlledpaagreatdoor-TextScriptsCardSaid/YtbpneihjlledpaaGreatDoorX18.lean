/-
  Walks over letters of the functions that the law reaches.
-/
import Derived.Test.YtbpneihjlledpaaGreatDoorX17
set_option linter.unusedVariables false
set_option linter.unusedSectionVars false
namespace Go.AM
variable [Orc13]
attribute [local instance] fnMaps
open Go Go.Proofs
set_option maxRecDepth 100000
set_option maxHeartbeats 4000000
set_option linter.unusedSimpArgs false
theorem trof_ok (H : Heap) (hlo : H.lo ≤ H.next) (l : List UInt8) : CallA E (fnv 35) [.string (B l)] H fun v H' => v = .int .i64 (ofS (B l)) ∧ Same H H' := refOf_ok H hlo (B l)
theorem splitC_len (c : UInt8) : ∀ l : List UInt8, (splitC c l).length ≤ l.length + 1
  | [] => Nat.le_refl _
  | x :: l => by
    have ih := splitC_len c l
    unfold splitC
    cases x == c with
    | true => rw [cond_true]; exact Nat.succ_le_succ ih
    | false =>
      rw [cond_false]
      cases hs : splitC c l with
      | nil => exact Nat.succ_le_succ (Nat.zero_le _)
      | cons a r => rw [hs] at ih; exact Nat.le_succ_of_le ih
theorem fn10 : E.fn.get 10 = some Tryz.f10 := by kernel_rfl
theorem trparse_ok (H : Heap) (hlo : H.lo ≤ H.next) (l : List UInt8) (hl : l.length ≤ 100000000) : CallA E (fnv 10) [.string (B l)] H fun v H' => v = .tuple #[.agg (opL (parseR l).1).toArray, .int .i64 (parseR l).2] ∧ Same H H' := by
  refine callA_fn (by kernel_rfl) fn10 rfl rfl ?_
  simp only [Tryz.f10]
  repeat' (first | refine boolP_dec (fun _ => ?_) (fun _ => ?_) | apply boolP_not | refine boolP_b (fun _ => ?_) (fun _ => ?_) | refine wps_draw (id := 16) [Fx, Fx, Fx, Fx, Fx, Fx, Fx] (by kernel_rfl) ?_ | ((with_reducible show Qs _ _ _ _ _); first | refine hQe _ _ _ _ ?_ | refine hQr _ _ _ ?_) | simp (maxSteps := 1000000) (disch := first | omega | (simp only [lenS, *]; omega)) only [↓sgg, sww, simprocAttr, sa, sS, *])
  refine CallA.mono (rsplit_ok _ loW l hl 32) ?_
  rintro v H1 ⟨⟨r, g, t, rfl, hr, hrow⟩, s1⟩
  have nx1 := s1.nxt
  have lo1 := s1.lo
  have g1 := s1.objs
  have k1 := s1.ko
  simp (disch := omega) only [sm, sl] at nx1 lo1 g1
  have hpos := splitC_pos 32 l
  have hmem := splitC_mem 32 l
  have hsl := splitC_len 32 l
  unfold parseR
  generalize splitC 32 l = pp at *
  obtain ⟨p0, ps, rfl⟩ : ∃ p0 ps, pp = p0 :: ps := by cases pp with
    | nil => exact absurd hpos (by decide)
    | cons a b => exact ⟨a, b, rfl⟩
  have hcell : ∀ i p, (p0 :: ps)[i]? = some p → ((p0 :: ps).map sV)[i]? = some (Value.string (B p)) := fun i p h => by rw [List.getElem?_map, h]; rfl
  have hc0 := hcell 0 p0 rfl
  have hdi := ofS_in (B p0)
  have hcs : (p0 :: ps).length = ps.length + 1 := rfl
  have a0 := at_nat (i := 0) hpos
  have eP : parseL (p0 :: ps) = parseP p0 ps := rfl
  generalize parseL (p0 :: ps) = R at *
  unfold parseP at eP
  generalize (p0 :: ps).map sV = cells at *
  generalize hd : ofS (B p0) = d at *
  generalize hu : usesL d = u at *
  have hul : u.length ≤ 4 := by rw [← hu]; exact usesL_len _
  generalize hn : (p0 :: ps).length = n at *
  by_cases hd0 : d = 0
  · rw [if_pos hd0] at eP
    subst hd0
    repeat' (first | refine boolP_dec (fun _ => ?_) (fun _ => ?_) | apply boolP_not | refine boolP_b (fun _ => ?_) (fun _ => ?_) | refine wps_draw (id := 16) [Fx, Fx, Fx, Fx, Fx, Fx, Fx] (by kernel_rfl) ?_ | ((with_reducible show CallA _ _ _ _ _); (first | refine call_ko (H0 := H) koW (trof_ok _ loW p0) ?_ | refine call_ko (H0 := H) koW (truses_ok _ loW _ hdi) ?_); intro H2 k2 l2 n2 g2 q2; try simp (disch := omega) only [sm, sl] at l2 n2 g2 q2) | ((with_reducible show Qs _ _ _ _ _); first | refine hQe _ _ _ _ ?_ | refine hQr _ _ _ ?_) | simp (maxSteps := 1000000) (disch := first | omega | (simp only [lenS, *]; omega)) only [↓sgg, sww, simprocAttr, sa, sS, *])
    all_goals first | (first | (with_reducible exact sameW) | ((with_reducible show _ ∧ _); exact ⟨by first | rfl | (simp [*] <;> omega), sameW⟩)) | omega | trace_state
  · rw [if_neg hd0] at eP
    by_cases hlt : ps.length < u.length
    · rw [if_pos hlt] at eP
      repeat' (first | refine boolP_dec (fun _ => ?_) (fun _ => ?_) | apply boolP_not | refine boolP_b (fun _ => ?_) (fun _ => ?_) | refine wps_draw (id := 16) [Fx, Fx, Fx, Fx, Fx, Fx, Fx] (by kernel_rfl) ?_ | ((with_reducible show CallA _ _ _ _ _); (first | refine call_ko (H0 := H) koW (trof_ok _ loW p0) ?_ | refine call_ko (H0 := H) koW (truses_ok _ loW _ hdi) ?_); intro H2 k2 l2 n2 g2 q2; try simp (disch := omega) only [sm, sl] at l2 n2 g2 q2) | ((with_reducible show Qs _ _ _ _ _); first | refine hQe _ _ _ _ ?_ | refine hQr _ _ _ ?_) | simp (maxSteps := 1000000) (disch := first | omega | (simp only [lenS, *]; omega)) only [↓sgg, sww, simprocAttr, sa, sS, *])
      all_goals first | (first | (with_reducible exact sameW) | ((with_reducible show _ ∧ _); exact ⟨by first | rfl | (simp [*] <;> omega), sameW⟩)) | omega | trace_state
    · rw [if_neg hlt] at eP
      by_cases hgt : u.length < ps.length
      · rw [if_pos hgt] at eP
        repeat' (first | refine boolP_dec (fun _ => ?_) (fun _ => ?_) | apply boolP_not | refine boolP_b (fun _ => ?_) (fun _ => ?_) | refine wps_draw (id := 16) [Fx, Fx, Fx, Fx, Fx, Fx, Fx] (by kernel_rfl) ?_ | ((with_reducible show CallA _ _ _ _ _); (first | refine call_ko (H0 := H) koW (trof_ok _ loW p0) ?_ | refine call_ko (H0 := H) koW (truses_ok _ loW _ hdi) ?_); intro H2 k2 l2 n2 g2 q2; try simp (disch := omega) only [sm, sl] at l2 n2 g2 q2) | ((with_reducible show Qs _ _ _ _ _); first | refine hQe _ _ _ _ ?_ | refine hQr _ _ _ ?_) | simp (maxSteps := 1000000) (disch := first | omega | (simp only [lenS, *]; omega)) only [↓sgg, sww, simprocAttr, sa, sS, *])
        all_goals first | (first | (with_reducible exact sameW) | ((with_reducible show _ ∧ _); exact ⟨by first | rfl | (simp [*] <;> omega), sameW⟩)) | omega | trace_state
      · rw [if_neg hgt] at eP
        have hps : ps.length = u.length := by omega
        have hnu : n = u.length + 1 := by omega
        have hcp : ∀ i p, ps[i]? = some p → cells[i + 1]? = some (Value.string (B p)) := fun i p h => hcell (i + 1) p h
        clear hcell hlt hgt
        repeat' (first | refine boolP_dec (fun _ => ?_) (fun _ => ?_) | apply boolP_not | refine boolP_b (fun _ => ?_) (fun _ => ?_) | refine wps_draw (id := 16) [Fx, Fx, Fx, Fx, Fx, Fx, Fx] (by kernel_rfl) ?_ | ((with_reducible show CallA _ _ _ _ _); (first | refine call_ko (H0 := H) koW (trof_ok _ loW p0) ?_ | refine call_ko (H0 := H) koW (truses_ok _ loW _ hdi) ?_); intro H2 k2 l2 n2 g2 q2; try simp (disch := omega) only [sm, sl] at l2 n2 g2 q2) | ((with_reducible show Qs _ _ _ _ _); first | refine hQe _ _ _ _ ?_ | refine hQr _ _ _ ?_) | simp (maxSteps := 1000000) (disch := first | omega | (simp only [lenS, *]; omega)) only [↓sgg, sww, simprocAttr, sa, sS, *])
        all_goals try omega
        rename_i Ha ka la na ga qa x2 x3
        refine wps_named2 (fun T3 H3 eT eH => ?_)
        have k3 : Ko H H3 := by rw [eH]; exact koW
        have n3 := congrArg Heap.next eH; have l3 := congrArg Heap.lo eH; have g3 := fun r => congrArg (fun h : Heap => h.objs.get r) eH
        try simp (disch := omega) only [sm, sl] at n3 l3 g3
        clear eH
        have u3_2 := congrArg (fun T : Tr Value => T.get 2) eT
        have u3_4 := congrArg (fun T : Tr Value => T.get 4) eT
        have u3_5 := congrArg (fun T : Tr Value => T.get 5) eT
        have u3_6 := congrArg (fun T : Tr Value => T.get 6) eT
        have u3_7 := congrArg (fun T : Tr Value => T.get 7) eT
        simp only [get_set, of_nil, of_1, of_2, of_3, of_4, of_5, Nat.reduceEqDiff, if_true, if_false, reduceIte] at u3_2 u3_4 u3_5 u3_6 u3_7
        clear eT
        refine wp_loopN (by kernel_rfl) (fun nn T X => ∃ (j : Nat) (o : TOp), nn = u.length - j ∧ (T.get 7 = some (.int .i64 j)) ∧ (T.get 2 = T3.get 2 ∧ T.get 4 = T3.get 4 ∧ T.get 5 = T3.get 5 ∧ T.get 6 = T3.get 6) ∧ True ∧ True ∧ (j ≤ u.length ∧ X.objs.get Ha.next = some (.row (opL o) none true) ∧ X.objs.get H.next = some (.row (opL zO) none true) ∧ X.objs.get r = some (.row cells g t) ∧ Same H X ∧ Ha.next < X.next ∧ r < X.next ∧ readAll (oD d) u ps = readAll o (u.drop j) (ps.drop j))) ?_ ?_
        · refine ⟨_, 0, oD d, rfl, ?_, ?_, trivial, trivial, Nat.zero_le _, by rw [g3]; simp (disch := omega) only [nbeq_ne, cond_false, beq_self_eq_true, cond_true, *]; rfl, by rw [g3]; simp (disch := omega) only [nbeq_ne, cond_false, beq_self_eq_true, cond_true, *]; rfl, by rw [g3]; simp (disch := omega) only [nbeq_ne, cond_false, beq_self_eq_true, cond_true, *], Ko.same k3 (by omega), by omega, by omega, rfl⟩ <;> exact nextW
        rintro nn T3' X3 ⟨j, o, rfl, m3, w3, _, _, hj, hB, hR, hC, hS, hin, hrn, hA⟩ Qs hQ hQr hQe
        have loX := hS.lo
        have nxX := hS.nxt
        have kX := hS.ko
        clear g3 ga g2 g1 hrow
        by_cases hlt : j < u.length
        · have hltp : j < ps.length := by omega
          have hcj := hcp j ps[j] (List.getElem?_eq_getElem hltp)
          have hgx := List.getElem?_eq_getElem hlt
          have hmp := hmem ps[j] (List.mem_cons_of_mem _ (List.getElem_mem hltp))
          rw [List.drop_eq_getElem_cons hlt, List.drop_eq_getElem_cons hltp] at hA
          have a1 : ((j : Int) + 1).toNat = j + 1 := by omega
          have a2 := at_nat hlt
          generalize u[j] = x at *
          generalize ps[j] = p at *
          have hpl : p.length ≤ 1000000000 := by omega
          obtain ⟨hN1, hN2⟩ := numR_eq p
          obtain ⟨hV1, hV2⟩ := val_eq p
          have z3 : (opL zO).length = 11 := rfl
          have z4 : (opL zO).drop 11 = [] := rfl
          have q1 := opL_len o
          have q2 := op_cell o
          have q4 := op_all o
          clear hcp hmem
          by_cases h1 : (x.toNat : Int) = 112
          · by_cases hp : numP p = true ∧ 0 ≤ atoiN p ∧ atoiN p ≤ 255
            · have e1 : readB x.toNat p = true := (if_pos h1).trans (decide_eq_true hp)
              have e2 : readO o x.toNat p = { o with p := atoiN p } := (if_pos h1).trans (if_pos hp)
              obtain ⟨hp1, hp2, hp3⟩ := hp
              have e3 := hN2 hp1
              rw [hp1] at hN1
              rw [readAll, e1, if_pos rfl, e2] at hA
              clear e1 e2 hN2 hV1 hV2
              unfold opL inO at hB
              repeat' (first | refine boolP_dec (fun _ => ?_) (fun _ => ?_) | apply boolP_not | refine boolP_b (fun _ => ?_) (fun _ => ?_) | refine wps_draw (id := 16) [Fx, Fx, Fx, Fx, Fx, Fx, Fx] (by kernel_rfl) ?_ | ((with_reducible show CallA _ _ _ _ _); refine call_ko (H0 := H) koW (rnumber_ok _ loW p hpl) ?_; intro H2 k2 l2 n2 g2 q2; try simp (disch := omega) only [sm, sl] at l2 n2 g2 q2) | ((with_reducible show Qs _ _ _ _ _); first | refine hQe _ _ _ _ ?_ | refine hQr _ _ _ ?_) | simp (maxSteps := 1000000) (disch := first | omega | (simp only [lenS, *]; omega)) only [↓sgg, sww, simprocAttr, sa, sS, wrap_u8, *])
              all_goals first | (refine hQ _ _ _ ?_ ⟨j + 1, { o with p := atoiN p }, rfl, ?_, ?_, trivial, trivial, by omega, by simp (disch := omega) only [setRow_get, newRow_get, nbeq_ne, beq_self_eq_true, cond_true, cond_false, *] <;> rfl, by simp (disch := omega) only [setRow_get, newRow_get, nbeq_ne, beq_self_eq_true, cond_true, cond_false, *], by simp (disch := omega) only [setRow_get, newRow_get, nbeq_ne, beq_self_eq_true, cond_true, cond_false, *], sameW, by simp (disch := omega) only [setRow_next]; omega, by simp (disch := omega) only [setRow_next]; omega, hA⟩ <;> exact nextW) | omega | (first | (with_reducible exact sameW) | ((with_reducible show _ ∧ _); exact ⟨by first | rfl | (simp [*] <;> omega), sameW⟩)) | trace_state
            · have e1 : readB x.toNat p = false := (if_pos h1).trans (decide_eq_false hp)
              rw [readAll, e1, if_neg (by decide)] at hA
              rw [hA] at eP
              clear e1 hV1 hV2
              unfold opL inO at hB
              cases hp1 : numP p with
              | true =>
                have e3 := hN2 hp1
                have hp3 : ¬ (0 ≤ atoiN p ∧ atoiN p ≤ 255) := fun h => hp ⟨hp1, h⟩
                rw [hp1] at hN1
                clear hp hN2
                repeat' (first | refine boolP_dec (fun _ => ?_) (fun _ => ?_) | apply boolP_not | refine boolP_b (fun _ => ?_) (fun _ => ?_) | refine wps_draw (id := 16) [Fx, Fx, Fx, Fx, Fx, Fx, Fx] (by kernel_rfl) ?_ | ((with_reducible show CallA _ _ _ _ _); refine call_ko (H0 := H) koW (rnumber_ok _ loW p hpl) ?_; intro H2 k2 l2 n2 g2 q2; try simp (disch := omega) only [sm, sl] at l2 n2 g2 q2) | ((with_reducible show Qs _ _ _ _ _); first | refine hQe _ _ _ _ ?_ | refine hQr _ _ _ ?_) | simp (maxSteps := 1000000) (disch := first | omega | (simp only [lenS, *]; omega)) only [↓sgg, sww, simprocAttr, sa, sS, wrap_u8, *])
                all_goals first | omega | (first | (with_reducible exact sameW) | ((with_reducible show _ ∧ _); exact ⟨by first | rfl | (simp [*] <;> omega), sameW⟩)) | trace_state
              | false =>
                rw [hp1] at hN1
                clear hp hN2
                repeat' (first | refine boolP_dec (fun _ => ?_) (fun _ => ?_) | apply boolP_not | refine boolP_b (fun _ => ?_) (fun _ => ?_) | refine wps_draw (id := 16) [Fx, Fx, Fx, Fx, Fx, Fx, Fx] (by kernel_rfl) ?_ | ((with_reducible show CallA _ _ _ _ _); refine call_ko (H0 := H) koW (rnumber_ok _ loW p hpl) ?_; intro H2 k2 l2 n2 g2 q2; try simp (disch := omega) only [sm, sl] at l2 n2 g2 q2) | ((with_reducible show Qs _ _ _ _ _); first | refine hQe _ _ _ _ ?_ | refine hQr _ _ _ ?_) | simp (maxSteps := 1000000) (disch := first | omega | (simp only [lenS, *]; omega)) only [↓sgg, sww, simprocAttr, sa, sS, wrap_u8, *])
                all_goals first | omega | (first | (with_reducible exact sameW) | ((with_reducible show _ ∧ _); exact ⟨by first | rfl | (simp [*] <;> omega), sameW⟩)) | trace_state
          · by_cases h2 : (x.toNat : Int) = 119
            · have e2 : readO o x.toNat p = { o with w := (readW p).1 } := (if_neg h1).trans (if_pos h2)
              have e1 : readB x.toNat p = decide ((readW p).2 = 0) := (if_neg h1).trans (if_pos h2)
              cases hp : decide ((readW p).2 = 0) with
              | true =>
                rw [hp] at e1
                rw [readAll, e1, if_pos rfl, e2] at hA
                clear e1 e2 hN2 hV1 hV2
                unfold opL inO at hB
                repeat' (first | refine boolP_dec (fun _ => ?_) (fun _ => ?_) | apply boolP_not | refine boolP_b (fun _ => ?_) (fun _ => ?_) | refine wps_draw (id := 16) [Fx, Fx, Fx, Fx, Fx, Fx, Fx] (by kernel_rfl) ?_ | ((with_reducible show CallA _ _ _ _ _); (first | refine call_ko (H0 := H) koW (rnumber_ok _ loW p hpl) ?_ | refine call_ko (H0 := H) koW (rread_ok _ loW p hpl) ?_); intro H2 k2 l2 n2 g2 q2; try simp (disch := omega) only [sm, sl] at l2 n2 g2 q2) | ((with_reducible show Qs _ _ _ _ _); first | refine hQe _ _ _ _ ?_ | refine hQr _ _ _ ?_) | simp (maxSteps := 1000000) (disch := first | omega | (simp only [lenS, *]; omega)) only [↓sgg, sww, simprocAttr, sa, sS, wrap_u8, *])
                all_goals first | (refine hQ _ _ _ ?_ ⟨j + 1, { o with w := (readW p).1 }, rfl, ?_, ?_, trivial, trivial, by omega, by simp (disch := omega) only [setRow_get, newRow_get, nbeq_ne, beq_self_eq_true, cond_true, cond_false, *] <;> rfl, by simp (disch := omega) only [setRow_get, newRow_get, nbeq_ne, beq_self_eq_true, cond_true, cond_false, *], by simp (disch := omega) only [setRow_get, newRow_get, nbeq_ne, beq_self_eq_true, cond_true, cond_false, *], sameW, by simp (disch := omega) only [setRow_next, newRow_next]; omega, by simp (disch := omega) only [setRow_next, newRow_next]; omega, hA⟩ <;> exact nextW) | omega | (first | (with_reducible exact sameW) | ((with_reducible show _ ∧ _); exact ⟨by first | rfl | (simp [*] <;> omega), sameW⟩)) | trace_state
              | false =>
                rw [hp] at e1
                rw [readAll, e1, if_neg (by decide)] at hA
                rw [hA] at eP
                clear e1 e2 hN2 hV1 hV2
                unfold opL inO at hB
                repeat' (first | refine boolP_dec (fun _ => ?_) (fun _ => ?_) | apply boolP_not | refine boolP_b (fun _ => ?_) (fun _ => ?_) | refine wps_draw (id := 16) [Fx, Fx, Fx, Fx, Fx, Fx, Fx] (by kernel_rfl) ?_ | ((with_reducible show CallA _ _ _ _ _); (first | refine call_ko (H0 := H) koW (rnumber_ok _ loW p hpl) ?_ | refine call_ko (H0 := H) koW (rread_ok _ loW p hpl) ?_); intro H2 k2 l2 n2 g2 q2; try simp (disch := omega) only [sm, sl] at l2 n2 g2 q2) | ((with_reducible show Qs _ _ _ _ _); first | refine hQe _ _ _ _ ?_ | refine hQr _ _ _ ?_) | simp (maxSteps := 1000000) (disch := first | omega | (simp only [lenS, *]; omega)) only [↓sgg, sww, simprocAttr, sa, sS, wrap_u8, *])
                all_goals first | omega | (first | (with_reducible exact sameW) | ((with_reducible show _ ∧ _); exact ⟨by first | rfl | (simp [*] <;> omega), sameW⟩)) | trace_state
            · by_cases h3 : (x.toNat : Int) = 118
              · have e2 : readO o x.toNat p = { o with vk := valK p, vx := valX p } := (if_neg h1).trans ((if_neg h2).trans (if_pos h3))
                have e1 : readB x.toNat p = pvalB p := (if_neg h1).trans ((if_neg h2).trans (if_pos h3))
                rw [hV1] at e1
                cases hp : rvalB p with
                | true =>
                  obtain ⟨v1, v2⟩ := hV2 hp
                  rw [hp] at e1
                  rw [readAll, e1, if_pos rfl, e2] at hA
                  clear e1 e2 hN2 hV1 hV2
                  unfold opL inO at hB
                  repeat' (first | refine boolP_dec (fun _ => ?_) (fun _ => ?_) | apply boolP_not | refine boolP_b (fun _ => ?_) (fun _ => ?_) | refine wps_draw (id := 16) [Fx, Fx, Fx, Fx, Fx, Fx, Fx] (by kernel_rfl) ?_ | ((with_reducible show CallA _ _ _ _ _); (first | refine call_ko (H0 := H) koW (rnumber_ok _ loW p hpl) ?_ | refine call_ko (H0 := H) koW (rval_ok _ loW p hpl) ?_); intro H2 k2 l2 n2 g2 q2; try simp (disch := omega) only [sm, sl] at l2 n2 g2 q2) | ((with_reducible show Qs _ _ _ _ _); first | refine hQe _ _ _ _ ?_ | refine hQr _ _ _ ?_) | simp (maxSteps := 1000000) (disch := first | omega | (simp only [lenS, *]; omega)) only [↓sgg, sww, simprocAttr, sa, sS, wrap_u8, *])
                  all_goals first | (refine hQ _ _ _ ?_ ⟨j + 1, { o with vk := valK p, vx := valX p }, rfl, ?_, ?_, trivial, trivial, by omega, by simp (disch := omega) only [setRow_get, newRow_get, nbeq_ne, beq_self_eq_true, cond_true, cond_false, *] <;> rfl, by simp (disch := omega) only [setRow_get, newRow_get, nbeq_ne, beq_self_eq_true, cond_true, cond_false, *], by simp (disch := omega) only [setRow_get, newRow_get, nbeq_ne, beq_self_eq_true, cond_true, cond_false, *], sameW, by simp (disch := omega) only [setRow_next, newRow_next]; omega, by simp (disch := omega) only [setRow_next, newRow_next]; omega, hA⟩ <;> exact nextW) | omega | (first | (with_reducible exact sameW) | ((with_reducible show _ ∧ _); exact ⟨by first | rfl | (simp [*] <;> omega), sameW⟩)) | trace_state
                | false =>
                  rw [hp] at e1
                  rw [readAll, e1, if_neg (by decide)] at hA
                  rw [hA] at eP
                  clear e1 e2 hN2 hV1 hV2
                  unfold opL inO at hB
                  repeat' (first | refine boolP_dec (fun _ => ?_) (fun _ => ?_) | apply boolP_not | refine boolP_b (fun _ => ?_) (fun _ => ?_) | refine wps_draw (id := 16) [Fx, Fx, Fx, Fx, Fx, Fx, Fx] (by kernel_rfl) ?_ | ((with_reducible show CallA _ _ _ _ _); (first | refine call_ko (H0 := H) koW (rnumber_ok _ loW p hpl) ?_ | refine call_ko (H0 := H) koW (rval_ok _ loW p hpl) ?_); intro H2 k2 l2 n2 g2 q2; try simp (disch := omega) only [sm, sl] at l2 n2 g2 q2) | ((with_reducible show Qs _ _ _ _ _); first | refine hQe _ _ _ _ ?_ | refine hQr _ _ _ ?_) | simp (maxSteps := 1000000) (disch := first | omega | (simp only [lenS, *]; omega)) only [↓sgg, sww, simprocAttr, sa, sS, wrap_u8, *])
                  all_goals first | omega | (first | (with_reducible exact sameW) | ((with_reducible show _ ∧ _); exact ⟨by first | rfl | (simp [*] <;> omega), sameW⟩)) | trace_state
              · have e2 : readO o x.toNat p = if numP p = true then setF o x.toNat (atoiN p) else o := (if_neg h1).trans ((if_neg h2).trans (if_neg h3))
                have e1 : readB x.toNat p = numP p := (if_neg h1).trans ((if_neg h2).trans (if_neg h3))
                cases hp : numP p with
                | true =>
                  have e3 := hN2 hp
                  rw [hp] at e1 hN1
                  rw [hp, if_pos rfl] at e2
                  rw [readAll, e1, if_pos rfl, e2] at hA
                  have q5 := opL_len (setF o x.toNat (atoiN p))
                  have q7 := op_cell (setF o x.toNat (atoiN p))
                  have q6 : (opL o).drop 11 = [] := rfl
                  clear e1 e2 hN2 hV1 hV2
                  repeat' (first | refine boolP_dec (fun _ => ?_) (fun _ => ?_) | apply boolP_not | refine boolP_b (fun _ => ?_) (fun _ => ?_) | refine wps_draw (id := 16) [Fx, Fx, Fx, Fx, Fx, Fx, Fx] (by kernel_rfl) ?_ | ((with_reducible show CallA _ _ _ _ _); (first | refine call_ko (H0 := H) koW (rnumber_ok _ loW p hpl) ?_ | refine call_ko (H0 := H) koW (rwith_ok _ loW o _ _) ?_); intro H2 k2 l2 n2 g2 q2; try simp (disch := omega) only [sm, sl] at l2 n2 g2 q2) | ((with_reducible show Qs _ _ _ _ _); first | refine hQe _ _ _ _ ?_ | refine hQr _ _ _ ?_) | simp (maxSteps := 1000000) (disch := first | omega | (simp only [lenS, *]; omega)) only [↓sgg, sww, simprocAttr, sa, sS, wrap_u8, *])
                  all_goals first | (refine hQ _ _ _ ?_ ⟨j + 1, setF o x.toNat (atoiN p), rfl, ?_, ?_, trivial, trivial, by omega, by simp (disch := omega) only [setRow_get, newRow_get, nbeq_ne, beq_self_eq_true, cond_true, cond_false, *] <;> rfl, by simp (disch := omega) only [setRow_get, newRow_get, nbeq_ne, beq_self_eq_true, cond_true, cond_false, *], by simp (disch := omega) only [setRow_get, newRow_get, nbeq_ne, beq_self_eq_true, cond_true, cond_false, *], sameW, by simp (disch := omega) only [setRow_next, newRow_next]; omega, by simp (disch := omega) only [setRow_next, newRow_next]; omega, hA⟩ <;> exact nextW) | omega | (first | (with_reducible exact sameW) | ((with_reducible show _ ∧ _); exact ⟨by first | rfl | (simp [*] <;> omega), sameW⟩)) | trace_state
                | false =>
                  rw [hp] at e1 hN1
                  rw [readAll, e1, if_neg (by decide)] at hA
                  rw [hA] at eP
                  have q5 := opL_len (setF o x.toNat (numR p).1)
                  have q7 := op_cell (setF o x.toNat (numR p).1)
                  have q6 : (opL o).drop 11 = [] := rfl
                  clear e1 e2 hN2 hV1 hV2
                  repeat' (first | refine boolP_dec (fun _ => ?_) (fun _ => ?_) | apply boolP_not | refine boolP_b (fun _ => ?_) (fun _ => ?_) | refine wps_draw (id := 16) [Fx, Fx, Fx, Fx, Fx, Fx, Fx] (by kernel_rfl) ?_ | ((with_reducible show CallA _ _ _ _ _); (first | refine call_ko (H0 := H) koW (rnumber_ok _ loW p hpl) ?_ | refine call_ko (H0 := H) koW (rwith_ok _ loW o _ _) ?_); intro H2 k2 l2 n2 g2 q2; try simp (disch := omega) only [sm, sl] at l2 n2 g2 q2) | ((with_reducible show Qs _ _ _ _ _); first | refine hQe _ _ _ _ ?_ | refine hQr _ _ _ ?_) | simp (maxSteps := 1000000) (disch := first | omega | (simp only [lenS, *]; omega)) only [↓sgg, sww, simprocAttr, sa, sS, wrap_u8, *])
                  all_goals first | omega | (first | (with_reducible exact sameW) | ((with_reducible show _ ∧ _); exact ⟨by first | rfl | (simp [*] <;> omega), sameW⟩)) | trace_state
        · have ej : j = u.length := by omega
          subst ej
          rw [List.drop_eq_nil_of_le (Nat.le_refl _)] at hA
          have e1 : readAll o [] (ps.drop u.length) = some o := by unfold readAll; rfl
          rw [e1] at hA
          rw [hA] at eP
          have e2 := op_all o
          have e3 := opL_len o
          have e4 := op_cell o
          have z3 : (opL zO).length = 11 := rfl
          have z4 : (opL zO).drop 11 = [] := rfl
          repeat' (first | refine boolP_dec (fun _ => ?_) (fun _ => ?_) | apply boolP_not | refine boolP_b (fun _ => ?_) (fun _ => ?_) | refine wps_draw (id := 16) [Fx, Fx, Fx, Fx, Fx, Fx, Fx] (by kernel_rfl) ?_ | ((with_reducible show Qs _ _ _ _ _); first | refine hQe _ _ _ _ ?_ | refine hQr _ _ _ ?_) | simp (maxSteps := 1000000) (disch := first | omega | (simp only [lenS, *]; omega)) only [↓sgg, sww, simprocAttr, sa, sS, *])
          all_goals first | (first | (with_reducible exact sameW) | ((with_reducible show _ ∧ _); exact ⟨by first | rfl | (simp [*] <;> omega), sameW⟩)) | omega | trace_state
end Go.AM
