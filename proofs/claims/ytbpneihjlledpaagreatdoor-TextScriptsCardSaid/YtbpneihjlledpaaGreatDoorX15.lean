/-
  Walks over letters of the functions that the law reaches.
-/
import Derived.Test.YtbpneihjlledpaaGreatDoorX14
set_option linter.unusedVariables false
set_option linter.unusedSectionVars false
namespace Go.AM
variable [Orc13]
attribute [local instance] fnMaps
open Go Go.Proofs
set_option maxRecDepth 100000
set_option maxHeartbeats 4000000
set_option linter.unusedSimpArgs false
def lineS (o : TOp) (l : List UInt8) : List UInt8 := joinC [32] (nameL o.d :: lineW o l)
theorem lineS_snoc (o : TOp) (l : List UInt8) (x : UInt8) : lineS o (l ++ [x]) = (lineS o l ++ [32]) ++ (fieldT o x.toNat).1 := by
  unfold lineS
  rw [lineW_snoc]
  show nameL o.d ++ ((lineW o l ++ [_]).map _).flatten = (nameL o.d ++ _) ++ [32] ++ _
  rw [List.map_append, List.flatten_append]
  simp only [List.map_cons, List.map_nil, List.flatten_cons, List.flatten_nil, List.append_nil, List.append_assoc]
def rlineR (o : TOp) : List UInt8 × Int :=
  if nameL o.d = [] ∨ ¬ plainO o = o ∨ ¬ mayV o.vk o.vx then ([], 1) else (lineS o (usesL o.d), 0)
theorem fn8 : E.fn.get 8 = some Tryz.f8 := by kernel_rfl
theorem rline_ok (H : Heap) (hlo : H.lo ≤ H.next) (o : TOp) (ho : OpOk o) : CallA E (fnv 8) [.agg (opL o).toArray] H fun v H' => v = .tuple #[.string (B (rlineR o).1), .int .i64 (rlineR o).2] ∧ Same H H' := by
  refine callA_fn (by kernel_rfl) fn8 rfl rfl ?_
  simp only [Tryz.f8]
  have hd := ho.d
  have q1 := opL_len o
  have q2 := op_cell o
  have q3 := op_c0 o
  have q4 := op_all o
  have q5 := op_c4 o
  by_cases hn : nameL o.d = []
  · have e : rlineR o = ([], 1) := if_pos (.inl hn)
    repeat' (first | refine boolP_dec (fun _ => ?_) (fun _ => ?_) | apply boolP_not | refine boolP_b (fun _ => ?_) (fun _ => ?_) | refine wps_draw (id := 1) [Fx, Fx, Fx, Fx, Fx, Fx, Tx, Fx, Fx, Fx, Fx, Fx, Fx, Fx, Fx, Fx] (by kernel_rfl) ?_ | refine wps_draw (id := 9) [Fx, Fx, Fx, Fx, Fx, Fx, Fx, Fx, Fx, Fx] (by kernel_rfl) ?_ | ((with_reducible show CallA _ _ _ _ _); (first | refine call_ko (H0 := H) koW (trname_ok _ loW o ho) ?_ | refine call_ko (H0 := H) koW (trplain_ok _ loW o ho) ?_); intro H2 k2 l2 n2 g2 q2; try simp (disch := omega) only [sm, sl] at l2 n2 g2 q2) | ((with_reducible show Qs _ _ _ _ _); first | refine hQe _ _ _ _ ?_ | refine hQr _ _ _ ?_) | simp (maxSteps := 1000000) (disch := first | omega | (simp only [lenS, *]; omega)) only [↓sgg, sww, simprocAttr, sa, sS, ↓ne_op, *])
    all_goals first | (first | (with_reducible exact sameW) | ((with_reducible show _ ∧ _); exact ⟨by first | rfl | (simp [*] <;> omega), sameW⟩)) | omega | trace_state
  have hn' : decide (nameL o.d = []) = false := decide_eq_false hn
  by_cases hp : plainO o = o
  · have hp' : decide (plainO o = o) = true := decide_eq_true hp
    by_cases hm : mayV o.vk o.vx
    · have hm' : decide (mayV o.vk o.vx) = true := decide_eq_true hm
      have e : rlineR o = (lineS o (usesL o.d), 0) := if_neg (fun h => h.elim hn (fun h => h.elim (fun h => h hp) (fun h => h hm)))
      clear hn hp hm
      repeat' (first | refine boolP_dec (fun _ => ?_) (fun _ => ?_) | apply boolP_not | refine boolP_b (fun _ => ?_) (fun _ => ?_) | refine wps_draw (id := 1) [Fx, Fx, Fx, Fx, Fx, Fx, Tx, Fx, Fx, Fx, Fx, Fx, Fx, Fx, Fx, Fx] (by kernel_rfl) ?_ | refine wps_draw (id := 9) [Fx, Fx, Fx, Fx, Fx, Fx, Fx, Fx, Fx, Fx] (by kernel_rfl) ?_ | ((with_reducible show CallA _ _ _ _ _); (first | refine call_ko (H0 := H) koW (trname_ok _ loW o ho) ?_ | refine call_ko (H0 := H) koW (trplain_ok _ loW o ho) ?_ | refine call_ko (H0 := H) koW (truses_ok _ loW _ hd) ?_ | refine call_ko (H0 := H) koW (rmay_ok _ loW _ _) ?_); intro H2 k2 l2 n2 g2 q2; try simp (disch := omega) only [sm, sl] at l2 n2 g2 q2) | ((with_reducible show Qs _ _ _ _ _); first | refine hQe _ _ _ _ ?_ | refine hQr _ _ _ ?_) | simp (maxSteps := 1000000) (disch := first | omega | (simp only [lenS, *]; omega)) only [↓sgg, sww, simprocAttr, sa, sS, ↓ne_op, *])
      refine wps_named2 (fun T1 H1 eT eH => ?_)
      have k1 : Ko H H1 := by rw [eH]; exact koW
      have n1 := congrArg Heap.next eH; have l1 := congrArg Heap.lo eH; have g1 := fun r => congrArg (fun h : Heap => h.objs.get r) eH
      try simp (disch := omega) only [sm, sl] at n1 l1 g1
      clear eH
      have u1_1 := congrArg (fun T : Tr Value => T.get 1) eT
      have u1_4 := congrArg (fun T : Tr Value => T.get 4) eT
      have u1_5 := congrArg (fun T : Tr Value => T.get 5) eT
      have u1_6 := congrArg (fun T : Tr Value => T.get 6) eT
      simp only [get_set, of_nil, of_1, of_2, of_3, of_4, of_5, Nat.reduceEqDiff, if_true, if_false, reduceIte] at u1_1 u1_4 u1_5 u1_6
      clear eT
      refine wp_loopN (by kernel_rfl) (fun nn T X => ∃ i : Nat, nn = (usesL o.d).length - i ∧ (T.get 4 = some (.string (B (lineS o ((usesL o.d).take i)))) ∧ T.get 6 = some (.int .i64 i)) ∧ (T.get 1 = T1.get 1 ∧ T.get 5 = T1.get 5) ∧ Ko H1 X ∧ X.lo = H1.lo ∧ (i ≤ (usesL o.d).length)) ?_ ?_
      · have hz : lineS o (List.take 0 (usesL o.d)) = nameL o.d := List.append_nil _
        have hz2 : lineS o [] = nameL o.d := List.append_nil _
        refine ⟨_, 0, rfl, ?_, ?_, Ko.refl _, rfl, Nat.zero_le _⟩ <;> exact nextW
      rintro nn T1' X1 ⟨i, rfl, m1, w1, kx1, lx1, hi⟩ Qs hQ hQr hQe
      have kX1 := k1.trans kx1; have nx1 := kx1.nxt; have gx1 := kx1.objs
      have hjl := join_len o ho (nameL o.d) ((usesL o.d).take i)
      have htl : ((usesL o.d).take i).length = i := by rw [List.length_take]; omega
      rw [htl] at hjl
      have hnl := nameL_len o.d
      have hul := usesL_len o.d
      change (lineS o ((usesL o.d).take i)).length ≤ _ at hjl
      generalize hu : usesL o.d = u at *
      by_cases hlt : i < u.length
      · have a1 := at_nat hlt
        have hg := List.getElem?_eq_getElem hlt
        have hsn : u.take (i + 1) = u.take i ++ [u[i]] := by rw [List.take_add_one, hg]; rfl
        have hw := lineS_snoc o (u.take i) u[i]
        rw [← hsn] at hw
        have hfl := field_len ho u[i].toNat
        generalize u[i] = x at *
        generalize lineS o (u.take i) = ls at *
        have hl1 : (ls ++ [32]).length ≤ 200 := by rw [List.length_append, List.length_cons, List.length_nil]; omega
        clear hsn htl
        obtain ⟨n0, n1⟩ := num_in ho x.toNat
        obtain ⟨p0, p1⟩ := ho.p
        obtain ⟨v0, v1⟩ := ho.vx
        have hww := ho.w
        have q6 := op_c6 o
        have q7 := op_c10 o
        by_cases h1 : (x.toNat : Int) = 112
        · have ef : fieldT o x.toNat = (Lib.itoa o.p, true) := if_pos h1
          rw [ef] at hw hfl
          dsimp only at hw hfl
          repeat' (first | refine boolP_dec (fun _ => ?_) (fun _ => ?_) | apply boolP_not | refine boolP_b (fun _ => ?_) (fun _ => ?_) | refine wps_draw (id := 1) [Fx, Fx, Fx, Fx, Fx, Fx, Tx, Fx, Fx, Fx, Fx, Fx, Fx, Fx, Fx, Fx] (by kernel_rfl) ?_ | refine wps_draw (id := 9) [Fx, Fx, Fx, Fx, Fx, Fx, Fx, Fx, Fx, Fx] (by kernel_rfl) ?_ | ((with_reducible show CallA _ _ _ _ _); refine call_ko (H0 := H1) koW (rdig_ok _ loW o.p (by omega) (by omega)) ?_; intro H2 k2 l2 n2 g2 q2; try simp (disch := omega) only [sm, sl] at l2 n2 g2 q2) | ((with_reducible show Qs _ _ _ _ _); first | refine hQe _ _ _ _ ?_ | refine hQr _ _ _ ?_) | simp (maxSteps := 1000000) (disch := first | omega | (simp only [lenS, *]; omega)) only [↓sgg, sww, simprocAttr, sa, sS, *])
          all_goals first | refine hQ _ _ _ ?_ ⟨i + 1, rfl, ?_, ?_, ?_, ?_, by omega⟩ <;> exact nextW | omega | trace_state
        · by_cases h2 : (x.toNat : Int) = 119
          · have ef : fieldT o x.toNat = (hexT 16 o.w, true) := (if_neg h1).trans (if_pos h2)
            rw [ef] at hw hfl
            dsimp only at hw hfl
            repeat' (first | refine boolP_dec (fun _ => ?_) (fun _ => ?_) | apply boolP_not | refine boolP_b (fun _ => ?_) (fun _ => ?_) | refine wps_draw (id := 1) [Fx, Fx, Fx, Fx, Fx, Fx, Tx, Fx, Fx, Fx, Fx, Fx, Fx, Fx, Fx, Fx] (by kernel_rfl) ?_ | refine wps_draw (id := 9) [Fx, Fx, Fx, Fx, Fx, Fx, Fx, Fx, Fx, Fx] (by kernel_rfl) ?_ | ((with_reducible show CallA _ _ _ _ _); refine call_ko (H0 := H1) koW (rhex_ok _ loW o.w hww) ?_; intro H2 k2 l2 n2 g2 q2; try simp (disch := omega) only [sm, sl] at l2 n2 g2 q2) | ((with_reducible show Qs _ _ _ _ _); first | refine hQe _ _ _ _ ?_ | refine hQr _ _ _ ?_) | simp (maxSteps := 1000000) (disch := first | omega | (simp only [lenS, *]; omega)) only [↓sgg, sww, simprocAttr, sa, sS, *])
            all_goals first | refine hQ _ _ _ ?_ ⟨i + 1, rfl, ?_, ?_, ?_, ?_, by omega⟩ <;> exact nextW | omega | trace_state
          · by_cases h3 : (x.toNat : Int) = 118
            · have ef : fieldT o x.toNat = (textV o.vk o.vx, !decide (textV o.vk o.vx = [63])) := (if_neg h1).trans ((if_neg h2).trans (if_pos h3))
              rw [ef] at hw hfl
              dsimp only at hw hfl
              repeat' (first | refine boolP_dec (fun _ => ?_) (fun _ => ?_) | apply boolP_not | refine boolP_b (fun _ => ?_) (fun _ => ?_) | refine wps_draw (id := 1) [Fx, Fx, Fx, Fx, Fx, Fx, Tx, Fx, Fx, Fx, Fx, Fx, Fx, Fx, Fx, Fx] (by kernel_rfl) ?_ | refine wps_draw (id := 9) [Fx, Fx, Fx, Fx, Fx, Fx, Fx, Fx, Fx, Fx] (by kernel_rfl) ?_ | ((with_reducible show CallA _ _ _ _ _); refine call_ko (H0 := H1) koW (rtext_ok _ loW _ _) ?_; intro H2 k2 l2 n2 g2 q2; try simp (disch := omega) only [sm, sl] at l2 n2 g2 q2) | ((with_reducible show Qs _ _ _ _ _); first | refine hQe _ _ _ _ ?_ | refine hQr _ _ _ ?_) | simp (maxSteps := 1000000) (disch := first | omega | (simp only [lenS, *]; omega)) only [↓sgg, sww, simprocAttr, sa, sS, *])
              all_goals first | refine hQ _ _ _ ?_ ⟨i + 1, rfl, ?_, ?_, ?_, ?_, by omega⟩ <;> exact nextW | omega | trace_state
            · have ef : fieldT o x.toNat = (Lib.itoa (numF o x.toNat), true) := (if_neg h1).trans ((if_neg h2).trans (if_neg h3))
              rw [ef] at hw hfl
              dsimp only at hw hfl
              repeat' (first | refine boolP_dec (fun _ => ?_) (fun _ => ?_) | apply boolP_not | refine boolP_b (fun _ => ?_) (fun _ => ?_) | refine wps_draw (id := 1) [Fx, Fx, Fx, Fx, Fx, Fx, Tx, Fx, Fx, Fx, Fx, Fx, Fx, Fx, Fx, Fx] (by kernel_rfl) ?_ | refine wps_draw (id := 9) [Fx, Fx, Fx, Fx, Fx, Fx, Fx, Fx, Fx, Fx] (by kernel_rfl) ?_ | ((with_reducible show CallA _ _ _ _ _); (first | refine call_ko (H0 := H1) koW (rnum_ok _ loW o _) ?_ | refine call_ko (H0 := H1) koW (rdig_ok _ loW _ n0 n1) ?_); intro H2 k2 l2 n2 g2 q2; try simp (disch := omega) only [sm, sl] at l2 n2 g2 q2) | ((with_reducible show Qs _ _ _ _ _); first | refine hQe _ _ _ _ ?_ | refine hQr _ _ _ ?_) | simp (maxSteps := 1000000) (disch := first | omega | (simp only [lenS, *]; omega)) only [↓sgg, sww, simprocAttr, sa, sS, *])
              all_goals first | refine hQ _ _ _ ?_ ⟨i + 1, rfl, ?_, ?_, ?_, ?_, by omega⟩ <;> exact nextW | omega | trace_state
      · have ei : i = u.length := by omega
        subst ei
        rw [List.take_length] at m1 hjl
        obtain ⟨m4, m6⟩ := m1
        repeat' (first | refine boolP_dec (fun _ => ?_) (fun _ => ?_) | apply boolP_not | refine boolP_b (fun _ => ?_) (fun _ => ?_) | refine wps_draw (id := 1) [Fx, Fx, Fx, Fx, Fx, Fx, Tx, Fx, Fx, Fx, Fx, Fx, Fx, Fx, Fx, Fx] (by kernel_rfl) ?_ | refine wps_draw (id := 9) [Fx, Fx, Fx, Fx, Fx, Fx, Fx, Fx, Fx, Fx] (by kernel_rfl) ?_ | ((with_reducible show Qs _ _ _ _ _); first | refine hQe _ _ _ _ ?_ | refine hQr _ _ _ ?_) | simp (maxSteps := 1000000) (disch := first | omega | (simp only [lenS, *]; omega)) only [↓sgg, sww, simprocAttr, sa, sS, *])
        all_goals first | (first | (with_reducible exact sameW) | ((with_reducible show _ ∧ _); exact ⟨by first | rfl | (simp [*] <;> omega), sameW⟩)) | omega | trace_state
    · have hm' : decide (mayV o.vk o.vx) = false := decide_eq_false hm
      have e : rlineR o = ([], 1) := if_pos (.inr (.inr hm))
      clear hn hp hm
      repeat' (first | refine boolP_dec (fun _ => ?_) (fun _ => ?_) | apply boolP_not | refine boolP_b (fun _ => ?_) (fun _ => ?_) | refine wps_draw (id := 1) [Fx, Fx, Fx, Fx, Fx, Fx, Tx, Fx, Fx, Fx, Fx, Fx, Fx, Fx, Fx, Fx] (by kernel_rfl) ?_ | refine wps_draw (id := 9) [Fx, Fx, Fx, Fx, Fx, Fx, Fx, Fx, Fx, Fx] (by kernel_rfl) ?_ | ((with_reducible show CallA _ _ _ _ _); (first | refine call_ko (H0 := H) koW (trname_ok _ loW o ho) ?_ | refine call_ko (H0 := H) koW (trplain_ok _ loW o ho) ?_ | refine call_ko (H0 := H) koW (rmay_ok _ loW _ _) ?_); intro H2 k2 l2 n2 g2 q2; try simp (disch := omega) only [sm, sl] at l2 n2 g2 q2) | ((with_reducible show Qs _ _ _ _ _); first | refine hQe _ _ _ _ ?_ | refine hQr _ _ _ ?_) | simp (maxSteps := 1000000) (disch := first | omega | (simp only [lenS, *]; omega)) only [↓sgg, sww, simprocAttr, sa, sS, ↓ne_op, *])
      all_goals first | (first | (with_reducible exact sameW) | ((with_reducible show _ ∧ _); exact ⟨by first | rfl | (simp [*] <;> omega), sameW⟩)) | omega | trace_state
  · have hp' : decide (plainO o = o) = false := decide_eq_false hp
    have e : rlineR o = ([], 1) := if_pos (.inr (.inl hp))
    clear hn hp
    repeat' (first | refine boolP_dec (fun _ => ?_) (fun _ => ?_) | apply boolP_not | refine boolP_b (fun _ => ?_) (fun _ => ?_) | refine wps_draw (id := 1) [Fx, Fx, Fx, Fx, Fx, Fx, Tx, Fx, Fx, Fx, Fx, Fx, Fx, Fx, Fx, Fx] (by kernel_rfl) ?_ | refine wps_draw (id := 9) [Fx, Fx, Fx, Fx, Fx, Fx, Fx, Fx, Fx, Fx] (by kernel_rfl) ?_ | ((with_reducible show CallA _ _ _ _ _); (first | refine call_ko (H0 := H) koW (trname_ok _ loW o ho) ?_ | refine call_ko (H0 := H) koW (trplain_ok _ loW o ho) ?_); intro H2 k2 l2 n2 g2 q2; try simp (disch := omega) only [sm, sl] at l2 n2 g2 q2) | ((with_reducible show Qs _ _ _ _ _); first | refine hQe _ _ _ _ ?_ | refine hQr _ _ _ ?_) | simp (maxSteps := 1000000) (disch := first | omega | (simp only [lenS, *]; omega)) only [↓sgg, sww, simprocAttr, sa, sS, ↓ne_op, *])
    all_goals first | (first | (with_reducible exact sameW) | ((with_reducible show _ ∧ _); exact ⟨by first | rfl | (simp [*] <;> omega), sameW⟩)) | omega | trace_state
end Go.AM
