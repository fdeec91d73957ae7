/-
  Walks over letters of the functions that the law reaches.
-/
import Derived.Test.YtbpneihjlledpaaGreatDoorX16
set_option linter.unusedVariables false
set_option linter.unusedSectionVars false
namespace Go.AM
variable [Orc13]
attribute [local instance] fnMaps
open Go Go.Proofs
set_option maxRecDepth 100000
set_option maxHeartbeats 4000000
set_option linter.unusedSimpArgs false
-- koS
theorem split_ok (H : Heap) (l : List UInt8) (hl : l.length ≤ 1000000000) (c : UInt8) : CallA E (fnv 31) [.string (B l), .string (B [c])] H fun v H' => StrS H' v (splitC c l) ∧ Same H H' := by
  refine callA_told (v := .slice (some ⟨H.next, 0, none⟩) (splitC c l).length (splitC c l).length) (H' := H.newRow ((splitC c l).map sV)) ?_ ⟨⟨H.next, none, true, rfl, by rw [newRow_next]; omega, by rw [newRow_get, nbeq_eq rfl]; rfl⟩, same_newRow _⟩
  rw [orc_split]
  show (match (B [c]).data.toList with | [c] => _ | _ => none) = _
  rw [B_list]
  show (bif Nat.ble (B l).size 1000000000 then _ else none) = _
  rw [B_size, ble_dec, decide_eq_true hl, B_list]
  rfl
theorem ofS_in (s : ByteArray) : i64 (ofS s) := by
  have : ∀ (n i : Nat), i + n ≤ 10 → i64 (ofFrom s i n) := by
    intro n
    induction n with
    | zero => intro i _; exact (by decide : -9223372036854775808 ≤ (0 : Int) ∧ (0 : Int) ≤ 9223372036854775807)
    | succ n ih =>
      intro i hi
      unfold ofFrom
      split
      · exact ⟨by omega, by omega⟩
      · exact ih (i + 1) (by omega)
  exact this 10 0 (by omega)
theorem tof_ok (H : Heap) (hlo : H.lo ≤ H.next) (l : List UInt8) : CallA E (fnv 32) [.string (B l)] H fun v H' => v = .int .i64 (ofS (B l)) ∧ Same H H' := opOf_ok H hlo (B l)
def zO : TOp := ⟨0, 0, 0, 0, 0, 0, 0, 0, 0, 0, 0⟩
def oD (d : Int) : TOp := ⟨d, 0, 0, 0, 0, 0, 0, 0, 0, 0, 0⟩
def readAll : TOp → List UInt8 → List (List UInt8) → Option TOp
  | o, c :: u, p :: ps => if readB c.toNat p = true then readAll (readO o c.toNat p) u ps else none
  | o, _, _ => some o
def outO : Option TOp → TOp × Int
  | some o => (o, 0)
  | none => (zO, 12)
def parseP (p0 : List UInt8) (ps : List (List UInt8)) : TOp × Int :=
  if ofS (B p0) = 0 then (zO, 11) else if ps.length < (usesL (ofS (B p0))).length then (zO, 14) else if (usesL (ofS (B p0))).length < ps.length then (zO, 15) else outO (readAll (oD (ofS (B p0))) (usesL (ofS (B p0))) ps)
def parseL : List (List UInt8) → TOp × Int
  | [] => (zO, 11)
  | p0 :: ps => parseP p0 ps
def parseR (l : List UInt8) : TOp × Int := parseL (splitC 32 l)
theorem splitC_mem (c : UInt8) : ∀ (l p : List UInt8), p ∈ splitC c l → p.length ≤ l.length
  | [], p, h => by
    rw [show splitC c [] = [[]] from rfl, List.mem_singleton] at h
    subst h; exact Nat.le_refl _
  | x :: l, p, h => by
    have ih := splitC_mem c l
    unfold splitC at h
    cases hx : x == c with
    | true =>
      rw [hx, cond_true, List.mem_cons] at h
      rcases h with rfl | h
      · exact Nat.zero_le _
      · exact Nat.le_succ_of_le (ih p h)
    | false =>
      rw [hx, cond_false] at h
      cases hs : splitC c l with
      | nil =>
        rw [hs] at h
        simp only [List.mem_singleton] at h
        subst h; exact Nat.succ_le_succ (Nat.zero_le _)
      | cons a r =>
        rw [hs] at h ih
        simp only [List.mem_cons] at h ih
        rcases h with rfl | h
        · exact Nat.succ_le_succ (ih a (.inl rfl))
        · exact Nat.le_succ_of_le (ih p (.inr h))
theorem fn9 : E.fn.get 9 = some Tryz.f9 := by kernel_rfl
theorem tparse_ok (H : Heap) (hlo : H.lo ≤ H.next) (l : List UInt8) (hl : l.length ≤ 100000000) : CallA E (fnv 9) [.string (B l)] H fun v H' => v = .tuple #[.agg (opL (parseR l).1).toArray, .int .i64 (parseR l).2] ∧ Same H H' := by
  refine callA_fn (by kernel_rfl) fn9 rfl rfl ?_
  simp only [Tryz.f9]
  repeat' (first | refine boolP_dec (fun _ => ?_) (fun _ => ?_) | apply boolP_not | refine boolP_b (fun _ => ?_) (fun _ => ?_) | ((with_reducible show Qs _ _ _ _ _); first | refine hQe _ _ _ _ ?_ | refine hQr _ _ _ ?_) | simp (maxSteps := 1000000) (disch := first | omega | (simp only [lenS, *]; omega)) only [↓sgg, sww, simprocAttr, sa, sS, *])
  refine CallA.mono (split_ok _ l (by omega) 32) ?_
  rintro v H1 ⟨⟨r, g, t, rfl, hr, hrow⟩, s1⟩
  have nx1 := s1.nxt
  have lo1 := s1.lo
  have g1 := s1.objs
  have k1 := s1.ko
  simp (disch := omega) only [sm, sl, sI] at nx1 lo1 g1
  have hpos := splitC_pos 32 l
  have hmem := splitC_mem 32 l
  unfold parseR
  generalize splitC 32 l = pp at *
  obtain ⟨p0, ps, rfl⟩ : ∃ p0 ps, pp = p0 :: ps := by cases pp with
    | nil => exact absurd hpos (by decide)
    | cons a b => exact ⟨a, b, rfl⟩
  have hcell : ∀ i p, (p0 :: ps)[i]? = some p → ((p0 :: ps).map sV)[i]? = some (Value.string (B p)) := fun i p h => by rw [List.getElem?_map, h]; rfl
  have hc0 := hcell 0 p0 rfl
  have hdi := ofS_in (B p0)
  have hcs : (p0 :: ps).length = ps.length + 1 := rfl
  have a0 := at_nat (i := 0) hpos
  have eP : parseL (p0 :: ps) = parseP p0 ps := rfl
  generalize parseL (p0 :: ps) = R at *
  unfold parseP at eP
  generalize (p0 :: ps).map sV = cells at *
  generalize hd : ofS (B p0) = d at *
  generalize hu : usesL d = u at *
  have hul : u.length ≤ 4 := by rw [← hu]; exact usesL_len _
  have hlow : ∀ x ∈ u, x.toNat < 128 := by rw [← hu]; exact usesL_low _
  generalize hn : (p0 :: ps).length = n at *
  by_cases hd0 : d = 0
  · rw [if_pos hd0] at eP
    subst hd0
    repeat' (first | refine boolP_dec (fun _ => ?_) (fun _ => ?_) | apply boolP_not | refine boolP_b (fun _ => ?_) (fun _ => ?_) | ((with_reducible show CallA _ _ _ _ _); (first | refine call_ko (H0 := H) koW (tof_ok _ loW p0) ?_ | refine call_ko (H0 := H) koW (tuses_ok _ loW _ hdi) ?_); intro H2 k2 l2 n2 g2 q2; try simp (disch := omega) only [sm, sl, sI] at l2 n2 g2 q2) | ((with_reducible show Qs _ _ _ _ _); first | refine hQe _ _ _ _ ?_ | refine hQr _ _ _ ?_) | simp (maxSteps := 1000000) (disch := first | omega | (simp only [lenS, *]; omega)) only [↓sgg, sww, simprocAttr, sa, sS, *])
    all_goals first | (first | (with_reducible exact sameW) | ((with_reducible show _ ∧ _); exact ⟨by first | rfl | (simp [*] <;> omega), sameW⟩)) | omega | trace_state
  · rw [if_neg hd0] at eP
    by_cases hlt : ps.length < u.length
    · rw [if_pos hlt] at eP
      repeat' (first | refine boolP_dec (fun _ => ?_) (fun _ => ?_) | apply boolP_not | refine boolP_b (fun _ => ?_) (fun _ => ?_) | ((with_reducible show CallA _ _ _ _ _); (first | refine call_ko (H0 := H) koW (tof_ok _ loW p0) ?_ | refine call_ko (H0 := H) koW (tuses_ok _ loW _ hdi) ?_); intro H2 k2 l2 n2 g2 q2; try simp (disch := omega) only [sm, sl, sI] at l2 n2 g2 q2) | ((with_reducible show Qs _ _ _ _ _); first | refine hQe _ _ _ _ ?_ | refine hQr _ _ _ ?_) | simp (maxSteps := 1000000) (disch := first | omega | (simp only [lenS, *]; omega)) only [↓sgg, sww, simprocAttr, sa, sS, *])
      all_goals first | (first | (with_reducible exact sameW) | ((with_reducible show _ ∧ _); exact ⟨by first | rfl | (simp [*] <;> omega), sameW⟩)) | omega | trace_state
    · rw [if_neg hlt] at eP
      by_cases hgt : u.length < ps.length
      · rw [if_pos hgt] at eP
        repeat' (first | refine boolP_dec (fun _ => ?_) (fun _ => ?_) | apply boolP_not | refine boolP_b (fun _ => ?_) (fun _ => ?_) | ((with_reducible show CallA _ _ _ _ _); (first | refine call_ko (H0 := H) koW (tof_ok _ loW p0) ?_ | refine call_ko (H0 := H) koW (tuses_ok _ loW _ hdi) ?_); intro H2 k2 l2 n2 g2 q2; try simp (disch := omega) only [sm, sl, sI] at l2 n2 g2 q2) | ((with_reducible show Qs _ _ _ _ _); first | refine hQe _ _ _ _ ?_ | refine hQr _ _ _ ?_) | simp (maxSteps := 1000000) (disch := first | omega | (simp only [lenS, *]; omega)) only [↓sgg, sww, simprocAttr, sa, sS, *])
        all_goals first | (first | (with_reducible exact sameW) | ((with_reducible show _ ∧ _); exact ⟨by first | rfl | (simp [*] <;> omega), sameW⟩)) | omega | trace_state
      · rw [if_neg hgt] at eP
        have hps : ps.length = u.length := by omega
        have hnu : n = u.length + 1 := by omega
        have hcp : ∀ i p, ps[i]? = some p → cells[i + 1]? = some (Value.string (B p)) := fun i p h => hcell (i + 1) p h
        clear hcell hlt hgt
        repeat' (first | refine boolP_dec (fun _ => ?_) (fun _ => ?_) | apply boolP_not | refine boolP_b (fun _ => ?_) (fun _ => ?_) | ((with_reducible show CallA _ _ _ _ _); (first | refine call_ko (H0 := H) koW (tof_ok _ loW p0) ?_ | refine call_ko (H0 := H) koW (tuses_ok _ loW _ hdi) ?_); intro H2 k2 l2 n2 g2 q2; try simp (disch := omega) only [sm, sl, sI] at l2 n2 g2 q2) | ((with_reducible show Qs _ _ _ _ _); first | refine hQe _ _ _ _ ?_ | refine hQr _ _ _ ?_) | simp (maxSteps := 1000000) (disch := first | omega | (simp only [lenS, *]; omega)) only [↓sgg, sww, simprocAttr, sa, sS, sI, *])
        all_goals try omega
        rename_i Ha ka la na ga qa x1 x2
        refine wps_named2 (fun T3 H3 eT eH => ?_)
        have k3 : Ko H H3 := by rw [eH]; exact koS
        have n3 := congrArg Heap.next eH; have l3 := congrArg Heap.lo eH; have g3 := fun r => congrArg (fun h : Heap => h.objs.get r) eH
        try simp (disch := omega) only [sm, sl, sI] at n3 l3 g3
        clear eH
        have u3_2 := congrArg (fun T : Tr Value => T.get 2) eT
        have u3_4 := congrArg (fun T : Tr Value => T.get 4) eT
        have u3_5 := congrArg (fun T : Tr Value => T.get 5) eT
        have u3_41 := congrArg (fun T : Tr Value => T.get 41) eT
        simp only [get_set, of_nil, of_1, of_2, of_3, of_4, of_5, Nat.reduceEqDiff, if_true, if_false, reduceIte] at u3_2 u3_4 u3_5 u3_41
        clear eT
        refine wp_loopN (by kernel_rfl) (fun nn T X => ∃ (j : Nat) (o : TOp), nn = u.length - j ∧ (True) ∧ (T.get 2 = T3.get 2 ∧ T.get 4 = T3.get 4 ∧ T.get 5 = T3.get 5 ∧ T.get 41 = T3.get 41) ∧ True ∧ True ∧ (j ≤ u.length ∧ X.objs.get H2.next = some (.siter (B u) j) ∧ X.objs.get Ha.next = some (.row (opL o) none true) ∧ X.objs.get H.next = some (.row (opL zO) none true) ∧ X.objs.get r = some (.row cells g t) ∧ H2.next < X.next ∧ Same H X ∧ readAll (oD d) u ps = readAll o (u.drop j) (ps.drop j))) ?_ ?_
        · refine ⟨_, 0, oD d, rfl, ?_, ?_, trivial, trivial, Nat.zero_le _, by rw [g3]; simp, by rw [g3]; simp (disch := omega) only [nbeq_ne, cond_false, beq_self_eq_true, cond_true, *]; rfl, by rw [g3]; simp (disch := omega) only [nbeq_ne, cond_false, beq_self_eq_true, cond_true, *]; rfl, by rw [g3]; simp (disch := omega) only [nbeq_ne, cond_false, beq_self_eq_true, cond_true, *], by omega, Ko.same k3 (by omega), rfl⟩ <;> exact nextW
        rintro nn T3' X3 ⟨j, o, rfl, m3, w3, _, _, hj, hI, hB, hR, hC, hIn, hS, hA⟩ Qs hQ hQr hQe
        have loX := hS.lo
        have nxX := hS.nxt
        have kX := hS.ko
        clear g3 ga g2 g1 hrow
        by_cases hlt : j < u.length
        · have hb : (B u).data.toList[j]? = some u[j] := by rw [B_list, List.getElem?_eq_getElem hlt]
          have hnx := nextV_at hI (by omega) hb (hlow _ (List.getElem_mem hlt))
          have hltp : j < ps.length := by omega
          have hcj := hcp j ps[j] (List.getElem?_eq_getElem hltp)
          rw [List.drop_eq_getElem_cons hlt, List.drop_eq_getElem_cons hltp] at hA
          have a1 : ((j : Int) + 1).toNat = j + 1 := by omega
          have hpl := hmem ps[j] (List.mem_cons_of_mem _ (List.getElem_mem hltp))
          generalize u[j] = x at *
          generalize ps[j] = p at *
          have hIs : (X3.setObj H2.next (.siter (B u) (j + 1))).objs.get H2.next = some (.siter (B u) (j + 1)) := by rw [setO_get, nbeq_eq rfl]; rfl
          have hBs : (X3.setObj H2.next (.siter (B u) (j + 1))).objs.get Ha.next = some (.row (opL o) none true) := by rw [setO_get, nbeq_ne (by omega)]; exact hB
          have hRs : (X3.setObj H2.next (.siter (B u) (j + 1))).objs.get H.next = some (.row (opL zO) none true) := by rw [setO_get, nbeq_ne (by omega)]; exact hR
          have hCs : (X3.setObj H2.next (.siter (B u) (j + 1))).objs.get r = some (.row cells g t) := by rw [setO_get, nbeq_ne (by omega)]; exact hC
          have hSs := same_setO hS (l := H2.next) (by omega) (.siter (B u) (j + 1))
          have hns := setO_next X3 H2.next (.siter (B u) (j + 1))
          have hls := setO_lo X3 H2.next (.siter (B u) (j + 1))
          repeat' (first | refine boolP_dec (fun _ => ?_) (fun _ => ?_) | apply boolP_not | refine boolP_b (fun _ => ?_) (fun _ => ?_) | ((with_reducible show Qs _ _ _ _ _); first | refine hQe _ _ _ _ ?_ | refine hQr _ _ _ ?_) | simp (maxSteps := 1000000) (disch := first | omega | (simp only [lenS, *]; omega)) only [↓sgg, sww, simprocAttr, sa, sS, *])
          all_goals try omega
          refine CallA.mono (tread_ok _ (by omega) _ o hBs (by omega) (by omega) x.toNat p (by omega)) ?_
          rintro rr Y ⟨rfl, hBY, sY⟩
          have kY := hSs.lo
          have nY := sY.nxt
          have lY := sY.lo
          have sHY : Same H Y := sY.same hSs (by omega)
          have kHY := sHY.ko
          have loY := sHY.lo
          have z3 : (opL zO).length = 11 := rfl
          have z4 : (opL zO).drop 11 = [] := rfl
          have hIY := sY.keeps (by omega) (by omega) hIs
          have hRY := sY.keeps (by omega) (by omega) hRs
          have hCY := sY.keeps (by omega) (by omega) hCs
          clear hIs hBs hRs hCs hSs sY hI hB hR hC
          generalize X3.setObj H2.next (.siter (B u) (j + 1)) = X4 at *
          cases hrb : readB x.toNat p with
          | false =>
            rw [readAll, hrb, if_neg (by decide)] at hA
            rw [hA] at eP
            repeat' (first | refine boolP_dec (fun _ => ?_) (fun _ => ?_) | apply boolP_not | refine boolP_b (fun _ => ?_) (fun _ => ?_) | ((with_reducible show Qs _ _ _ _ _); first | refine hQe _ _ _ _ ?_ | refine hQr _ _ _ ?_) | simp (maxSteps := 1000000) (disch := first | omega | (simp only [lenS, *]; omega)) only [↓sgg, sww, simprocAttr, sa, sS, *])
            all_goals first | (first | (with_reducible exact sameW) | ((with_reducible show _ ∧ _); exact ⟨by first | rfl | (simp [*] <;> omega), sameW⟩)) | omega | trace_state
          | true =>
            rw [readAll, hrb, if_pos rfl] at hA
            repeat' (first | refine boolP_dec (fun _ => ?_) (fun _ => ?_) | apply boolP_not | refine boolP_b (fun _ => ?_) (fun _ => ?_) | ((with_reducible show Qs _ _ _ _ _); first | refine hQe _ _ _ _ ?_ | refine hQr _ _ _ ?_) | simp (maxSteps := 1000000) (disch := first | omega | (simp only [lenS, *]; omega)) only [↓sgg, sww, simprocAttr, sa, sS, *])
            all_goals first | (refine hQ _ _ _ ?_ ⟨j + 1, readO o x.toNat p, rfl, ?_, ?_, trivial, trivial, by omega, hIY, hBY, hRY, hCY, by omega, sHY, hA⟩ <;> exact nextW) | omega | trace_state
        · have ej : j = u.length := by omega
          subst ej
          have hnx := nextV_end hI (by omega) (by rw [B_list]; exact List.getElem?_eq_none (Nat.le_refl _))
          rw [List.drop_eq_nil_of_le (Nat.le_refl _)] at hA
          have e1 : readAll o [] (ps.drop u.length) = some o := by unfold readAll; rfl
          rw [e1] at hA
          rw [hA] at eP
          have e2 := op_all o
          have e3 := opL_len o
          have e4 := op_cell o
          have z3 : (opL zO).length = 11 := rfl
          have z4 : (opL zO).drop 11 = [] := rfl
          repeat' (first | refine boolP_dec (fun _ => ?_) (fun _ => ?_) | apply boolP_not | refine boolP_b (fun _ => ?_) (fun _ => ?_) | ((with_reducible show Qs _ _ _ _ _); first | refine hQe _ _ _ _ ?_ | refine hQr _ _ _ ?_) | simp (maxSteps := 1000000) (disch := first | omega | (simp only [lenS, *]; omega)) only [↓sgg, sww, simprocAttr, sa, sS, *])
          all_goals first | (first | (with_reducible exact sameW) | ((with_reducible show _ ∧ _); exact ⟨by first | rfl | (simp [*] <;> omega), sameW⟩)) | omega | trace_state
end Go.AM
