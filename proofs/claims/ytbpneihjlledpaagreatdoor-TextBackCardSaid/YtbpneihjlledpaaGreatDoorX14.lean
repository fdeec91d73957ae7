/-
  Walks over letters of the functions that the law reaches.
-/
import Derived.Test.YtbpneihjlledpaaGreatDoorX13
set_option linter.unusedVariables false
set_option linter.unusedSectionVars false
namespace Go.AM
variable [Orc13]
attribute [local instance] fnMaps
open Go Go.Proofs
set_option maxRecDepth 100000
set_option maxHeartbeats 4000000
set_option linter.unusedSimpArgs false
-- koS
def sV (l : List UInt8) : Value := .string (B l)
def lineW (o : TOp) (l : List UInt8) : List (List UInt8) := l.map fun x => (fieldT o x.toNat).1
def lineOk (o : TOp) (l : List UInt8) : Bool := l.all fun x => (fieldT o x.toNat).2
def lineR (o : TOp) : List UInt8 × Int :=
  if nameL o.d = [] ∨ ¬ plainO o = o then ([], 1) else if lineOk o (usesL o.d) = true then (joinC [32] (nameL o.d :: lineW o (usesL o.d)), 0) else ([], 1)
theorem strsOf_map : ∀ l : List (List UInt8), strsOf (l.map sV) = some (l.map B)
  | [] => rfl
  | x :: l => by
    show (strsOf (l.map sV)).bind _ = _
    rw [strsOf_map l]; rfl
theorem map_B (l : List (List UInt8)) : (l.map B).map (fun s => s.data.toList) = l := by
  rw [List.map_map]
  exact (List.map_congr_left fun x _ => B_list x).trans (List.map_id l)
theorem join_ok (H : Heap) {b n : Nat} {v : Value} {cs : List Value} (l : List (List UInt8)) (ho : Own b 1 H v n cs) (hc : cs = l.map sV) (hn : 0 < n) (hn2 : n ≤ 1000000000) (hs : (joinC [32] l).length ≤ 1000000000) :
    CallA E (fnv 22) [v, .string (B [32])] H fun r H' => r = .string (B (joinC [32] l)) ∧ Same H H' := by
  subst hc
  obtain ⟨hc, ⟨rfl, rfl⟩ | ⟨r, rfl, h1, h2, h3⟩⟩ := ho
  · omega
  · have hcell : cellsOf H n (.slice (some ⟨r, 0, none⟩) n n) = some (l.map sV) := by
      have hcut : cut (l.map sV) 0 n = some (l.map sV) := by rw [cut_eq, if_pos (by omega), List.drop_zero, List.take_of_length_le (by omega)]
      rw [cellsOf_some]
      rcases h3 with h3 | ⟨g, old, h3, _⟩ <;> rw [h3, Option.bind_some, rowCut_row, hcut]
    refine callA_told (v := .string (B (joinC [32] l))) (H' := H) ?_ ⟨rfl, Same.refl H⟩
    rw [orc_join]
    show (bif !(Nat.ble n n && Nat.ble n 1000000000) then none else _) = _
    rw [ble_dec, ble_dec, decide_eq_true (Nat.le_refl n), decide_eq_true hn2]
    show (cellsOf H n (.slice (some ⟨r, 0, none⟩) n n)).bind _ = _
    rw [hcell, Option.bind_some, strsOf_map, Option.bind_some, map_B, B_list, ble_dec, decide_eq_true hs]
    rfl
theorem grow_s {n : Nat} (h : n ≤ 1000) : growOk 1 16 n = true := by
  unfold growOk
  rw [Nat.ble_eq_true_of_le (show n * 16 ≤ 10000000000 by omega), Nat.ble_eq_true_of_le (show n ≤ 1000000000 by omega)]
  rfl
theorem textV_len (k x : Int) (h0 : -9223372036854775808 ≤ x) (h1 : x ≤ 9223372036854775807) : (textV k x).length ≤ 22 := by
  have := itoa_len h0 h1
  unfold textV
  repeat' split
  all_goals try simp only [List.length_cons, List.length_nil]
  all_goals omega
theorem field_len {o : TOp} (ho : OpOk o) (c : Int) : (fieldT o c).1.length ≤ 22 := by
  unfold fieldT
  split
  · exact Nat.le_trans (itoa_len (by have := ho.p.1; omega) (by have := ho.p.2; omega)) (by decide)
  split
  · show (hexT 16 o.w).length ≤ 22; rw [hexT_len]; decide
  split
  · exact textV_len _ _ ho.vx.1 ho.vx.2
  · have := num_in ho c
    exact Nat.le_trans (itoa_len this.1 this.2) (by decide)
theorem join_len (o : TOp) (ho : OpOk o) (x : List UInt8) (l : List UInt8) : (joinC [32] (x :: lineW o l)).length ≤ x.length + 23 * l.length := by
  unfold joinC lineW
  induction l with
  | nil => simp
  | cons y l ih =>
    have := field_len ho y.toNat
    simp only [List.map_cons, List.flatten_cons, List.length_append, List.length_cons, List.length_nil] at ih ⊢
    omega
theorem lineW_snoc (o : TOp) (l : List UInt8) (x : UInt8) : lineW o (l ++ [x]) = lineW o l ++ [(fieldT o x.toNat).1] := by unfold lineW; rw [List.map_append]; rfl
theorem lineOk_snoc (o : TOp) (l : List UInt8) (x : UInt8) : lineOk o (l ++ [x]) = (lineOk o l && (fieldT o x.toNat).2) := by unfold lineOk; rw [List.all_append, List.all_cons, List.all_nil, Bool.and_true]
theorem lineOk_at {o : TOp} {l : List UInt8} {j : Nat} (hj : j < l.length) (h : (fieldT o l[j].toNat).2 = false) : lineOk o l = false := by
  cases hh : lineOk o l with
  | false => rfl
  | true =>
    have := List.all_eq_true.1 hh _ (List.getElem_mem hj)
    rw [h] at this; cases this
theorem fn7 : E.fn.get 7 = some Tryz.f7 := by kernel_rfl
theorem line_ok (H : Heap) (hlo : H.lo ≤ H.next) (o : TOp) (ho : OpOk o) : CallA E (fnv 7) [.agg (opL o).toArray] H fun v H' => v = .tuple #[.string (B (lineR o).1), .int .i64 (lineR o).2] ∧ Same H H' := by
  refine callA_fn (by kernel_rfl) fn7 rfl rfl ?_
  simp only [Tryz.f7]
  have hd := ho.d
  have q1 := opL_len o
  have q2 := op_cell o
  have q3 := op_c0 o
  have q4 := op_all o
  by_cases hn : nameL o.d = []
  · have e : lineR o = ([], 1) := if_pos (.inl hn)
    repeat' (first | refine boolP_dec (fun _ => ?_) (fun _ => ?_) | apply boolP_not | refine boolP_b (fun _ => ?_) (fun _ => ?_) | refine wps_draw (id := 2) [Fx, Fx, Fx, Fx, Tx, Fx, Fx, Fx] (by kernel_rfl) ?_ | ((with_reducible show CallA _ _ _ _ _); (first | refine call_ko (H0 := H) koW (tname_ok _ loW o ho) ?_ | refine call_ko (H0 := H) koW (tplain_ok _ loW o ho) ?_); intro H2 k2 l2 n2 g2 q2; try simp (disch := omega) only [sm, sl, sI] at l2 n2 g2 q2) | ((with_reducible show Qs _ _ _ _ _); first | refine hQe _ _ _ _ ?_ | refine hQr _ _ _ ?_) | simp (maxSteps := 1000000) (disch := first | omega | (simp only [lenS, *]; omega)) only [↓sgg, sww, simprocAttr, sa, sS, ↓ne_op, *])
    all_goals first | (first | (with_reducible exact sameW) | ((with_reducible show _ ∧ _); exact ⟨by first | rfl | (simp [*] <;> omega), sameW⟩)) | omega | trace_state
  · have hn' : decide (nameL o.d = []) = false := decide_eq_false hn
    by_cases hp : plainO o = o
    · have hp' : decide (plainO o = o) = true := decide_eq_true hp
      repeat' (first | refine boolP_dec (fun _ => ?_) (fun _ => ?_) | apply boolP_not | refine boolP_b (fun _ => ?_) (fun _ => ?_) | refine wps_draw (id := 2) [Fx, Fx, Fx, Fx, Tx, Fx, Fx, Fx] (by kernel_rfl) ?_ | ((with_reducible show CallA _ _ _ _ _); (first | refine call_ko (H0 := H) koW (tname_ok _ loW o ho) ?_ | refine call_ko (H0 := H) koW (tplain_ok _ loW o ho) ?_ | refine call_ko (H0 := H) koW (tuses_ok _ loW _ hd) ?_); intro H2 k2 l2 n2 g2 q2; try simp (disch := omega) only [sm, sl, sI] at l2 n2 g2 q2) | ((with_reducible show Qs _ _ _ _ _); first | refine hQe _ _ _ _ ?_ | refine hQr _ _ _ ?_) | simp (maxSteps := 1000000) (disch := first | omega | (simp only [lenS, *]; omega)) only [↓sgg, sww, simprocAttr, sa, sS, ↓ne_op, ble_dec, repeat_succ, repeat_zero, List.length_cons, List.length_nil, List.drop_succ_cons, List.drop_zero, List.append_nil, sI, *])
      refine wps_named2 (fun T1 H1 eT eH => ?_)
      have k1 : Ko H H1 := by rw [eH]; exact koS
      have n1 := congrArg Heap.next eH; have l1 := congrArg Heap.lo eH; have g1 := fun r => congrArg (fun h : Heap => h.objs.get r) eH
      try simp (disch := omega) only [sm, sl, sI] at n1 l1 g1
      clear eH
      have u1_1 := congrArg (fun T : Tr Value => T.get 1) eT
      have u1_5 := congrArg (fun T : Tr Value => T.get 5) eT
      have u1_26 := congrArg (fun T : Tr Value => T.get 26) eT
      simp only [get_set, of_nil, of_1, of_2, of_3, of_4, of_5, Nat.reduceEqDiff, if_true, if_false, reduceIte] at u1_1 u1_5 u1_26
      clear eT
      refine wp_loopN (by kernel_rfl) (fun nn T X => ∃ (j : Nat) (v : Value), nn = (usesL o.d).length - j ∧ (T.get 5 = some (v)) ∧ (T.get 1 = T1.get 1 ∧ T.get 26 = T1.get 26) ∧ True ∧ True ∧ (j ≤ (usesL o.d).length ∧ X.objs.get H2.next = some (.siter (B (usesL o.d)) j) ∧ H2.next < X.next ∧ X.objs.get H.next = some (.row (opL o) none true) ∧ Own (H.next + 1) 1 X v (j + 1) ((nameL o.d :: lineW o ((usesL o.d).take j)).map sV) ∧ Same H X ∧ lineOk o ((usesL o.d).take j) = true)) ?_ ?_
      rename_i Ha ka la na ga qa Hb kb lb nb gb qb
      · refine ⟨_, 0, .slice (some ⟨Hb.next, 0, none⟩) 1 1, rfl, ?_, ?_, trivial, trivial, Nat.zero_le _, by rw [g1]; simp, by omega, by rw [g1]; simp (disch := omega) only [nbeq_ne, cond_false, beq_self_eq_true, cond_true, *], ⟨rfl, .inr ⟨Hb.next, rfl, by omega, by omega, .inl (by rw [g1]; simp (disch := omega) only [nbeq_ne, cond_false, beq_self_eq_true, cond_true, *]; rfl)⟩⟩, Ko.same k1 (by omega), rfl⟩ <;> exact nextW
      rintro nn T1' X1 ⟨j, vo, rfl, m1, w1, _, _, hj, hI, hIn, hB, hO, hS, hok⟩ Qs hQ hQr hQe
      have e : lineR o = if lineOk o (usesL o.d) = true then (joinC [32] (nameL o.d :: lineW o (usesL o.d)), 0) else ([], 1) := if_neg (fun h => h.elim hn (fun h => h hp))
      clear hn hp
      have loX := hS.lo
      have nxX := hS.nxt
      have kX := hS.ko
      clear g1
      generalize hu : usesL o.d = u at *
      have hlow : ∀ x ∈ u, x.toNat < 128 := by rw [← hu]; exact usesL_low _
      have hul : u.length ≤ 4 := by rw [← hu]; exact usesL_len _
      have hnl := nameL_len o.d
      by_cases hlt : j < u.length
      · have hb : (B u).data.toList[j]? = some u[j] := by rw [B_list, List.getElem?_eq_getElem hlt]
        have hnx := nextV_at hI (by omega) hb (hlow _ (List.getElem_mem hlt))
        have hbad := lineOk_at (o := o) hlt
        have hsn : u.take (j + 1) = u.take j ++ [u[j]] := by rw [List.take_add_one, List.getElem?_eq_getElem hlt]; rfl
        have hw1 := lineW_snoc o (u.take j) u[j]
        have hk1 := lineOk_snoc o (u.take j) u[j]
        rw [← hsn] at hw1 hk1
        have hfl := field_len ho u[j].toNat
        generalize u[j] = x at *
        have hOs := hO.setIt (ob := .siter (B u) (j + 1)) hI
        have hIs : (X1.setObj H2.next (.siter (B u) (j + 1))).objs.get H2.next = some (.siter (B u) (j + 1)) := by rw [setO_get, nbeq_eq rfl]; rfl
        have hBs : (X1.setObj H2.next (.siter (B u) (j + 1))).objs.get H.next = some (.row (opL o) none true) := by rw [setO_get, nbeq_ne (by omega)]; exact hB
        have hSs := same_setO hS (l := H2.next) (by omega) (.siter (B u) (j + 1))
        have hns := setO_next X1 H2.next (.siter (B u) (j + 1))
        have hls := setO_lo X1 H2.next (.siter (B u) (j + 1))
        repeat' (first | refine boolP_dec (fun _ => ?_) (fun _ => ?_) | apply boolP_not | refine boolP_b (fun _ => ?_) (fun _ => ?_) | refine wps_draw (id := 2) [Fx, Fx, Fx, Fx, Tx, Fx, Fx, Fx] (by kernel_rfl) ?_ | ((with_reducible show Qs _ _ _ _ _); first | refine hQe _ _ _ _ ?_ | refine hQr _ _ _ ?_) | simp (maxSteps := 1000000) (disch := first | omega | (simp only [lenS, *]; omega)) only [↓sgg, sww, simprocAttr, sa, sS, hsn, *])
        all_goals try omega
        refine CallA.mono (show_ok _ (by omega) o x.toNat ho) ?_
        rintro rr Y ⟨rfl, sY⟩
        have sHY := hSs.trans sY
        have loY := sHY.lo
        have nxY := sY.nxt
        have kY := sY.ko
        have hOY := hOs.same sY
        have hIY := sY.keeps (by omega) hIs
        have hBY := sY.keeps (by omega) hBs
        generalize X1.setObj H2.next (.siter (B u) (j + 1)) = X2 at *
        generalize fieldT o x.toNat = ft at *
        obtain ⟨fl, fb⟩ := ft
        simp only at hbad hk1 hw1 hfl
        cases fb with
        | false =>
          rw [hbad rfl, if_neg (by decide)] at e
          clear hw1 hk1 hsn
          repeat' (first | refine boolP_dec (fun _ => ?_) (fun _ => ?_) | apply boolP_not | refine boolP_b (fun _ => ?_) (fun _ => ?_) | refine wps_draw (id := 2) [Fx, Fx, Fx, Fx, Tx, Fx, Fx, Fx] (by kernel_rfl) ?_ | ((with_reducible show Qs _ _ _ _ _); first | refine hQe _ _ _ _ ?_ | refine hQr _ _ _ ?_) | simp (maxSteps := 1000000) (disch := first | omega | (simp only [lenS, *]; omega)) only [↓sgg, sww, simprocAttr, sa, sS, *])
          all_goals first | exact sHY | exact ⟨rfl, sHY⟩ | omega | trace_state
        | true =>
          rw [hok, Bool.true_and] at hk1
          obtain ⟨H3, ha3, hO3, hg3, hn3⟩ := append_own (size := 1) (bytes := 16) (k := 1) (new := [sV fl]) (hOY.same (same_newRow [sV fl])) (by simp (disch := omega) only [setRow_get, newRow_get, newRow_next, setRow_next, newRow_lo, setRow_lo, newRow_grps, setRow_grps, newRow_relo, setRow_relo, relo_objs, relo_next, relo_lo, nbeq_ne, sl]; omega) (by simp (disch := omega) only [setRow_get, newRow_get, newRow_next, setRow_next, newRow_lo, setRow_lo, newRow_grps, setRow_grps, newRow_relo, setRow_relo, relo_objs, relo_next, relo_lo, nbeq_ne, sl]; omega) (by omega) rfl rfl (grow_s (by omega))
          have hI3 := append_si (hOY.same (same_newRow [sV fl])) (by omega) ha3 (x := H2.next) (by simp (disch := omega) only [setRow_get, newRow_get, newRow_next, setRow_next, newRow_lo, setRow_lo, newRow_grps, setRow_grps, newRow_relo, setRow_relo, relo_objs, relo_next, relo_lo, nbeq_ne, sl]; omega) (by rw [newRow_get, nbeq_ne (by omega)]; exact hIY)
          have hB3 := hg3.alone H.next _ _ (by simp (disch := omega) only [setRow_get, newRow_get, newRow_next, setRow_next, newRow_lo, setRow_lo, newRow_grps, setRow_grps, newRow_relo, setRow_relo, relo_objs, relo_next, relo_lo, nbeq_ne, sl]; omega) (by rw [newRow_get, nbeq_ne (by omega)]; exact hBY)
          have s3 : Same H H3 := hg3.same (sHY.newRow _) (Nat.le_succ _)
          have lo3 := s3.lo
          rw [newRow_next] at hO3 ha3 hn3
          have hO4 : Own (H.next + 1) 1 H3 (.slice (some ⟨Y.next + 1, 0, none⟩) (j + 1 + 1) (j + 1 + 1)) (j + 1 + 1) ((nameL o.d :: lineW o (u.take (j + 1))).map sV) := by
            rw [hw1]
            have : (nameL o.d :: (lineW o (u.take j) ++ [fl])).map sV = (nameL o.d :: lineW o (u.take j)).map sV ++ [sV fl] := by rw [← List.cons_append, List.map_append]; rfl
            rw [this]
            exact hO3
          clear hbad hw1 hsn hO3 hOY hOs hIs hBs
          unfold sV at ha3
          repeat' (first | refine boolP_dec (fun _ => ?_) (fun _ => ?_) | apply boolP_not | refine boolP_b (fun _ => ?_) (fun _ => ?_) | refine wps_draw (id := 2) [Fx, Fx, Fx, Fx, Tx, Fx, Fx, Fx] (by kernel_rfl) ?_ | ((with_reducible show Qs _ _ _ _ _); first | refine hQe _ _ _ _ ?_ | refine hQr _ _ _ ?_) | simp (maxSteps := 1000000) (disch := first | omega | (simp only [lenS, *]; omega)) only [↓sgg, sww, simprocAttr, sa, sS, ble_dec, repeat_succ, repeat_zero, List.drop_succ_cons, List.drop_zero, List.append_nil, List.length_cons, List.length_nil, *])
          all_goals first | (refine hQ _ _ _ ?_ ⟨j + 1, _, rfl, ?_, ?_, trivial, trivial, by omega, hI3, by omega, hB3, hO4, s3, hk1⟩ <;> exact nextW) | omega | trace_state
      · have ej : j = u.length := by omega
        subst ej
        rw [List.take_length] at hO hok
        rw [if_pos hok] at e
        have hnx := nextV_end hI (by omega) (by rw [B_list]; exact List.getElem?_eq_none (Nat.le_refl _))
        have hjl := join_len o ho (nameL o.d) u
        repeat' (first | refine boolP_dec (fun _ => ?_) (fun _ => ?_) | apply boolP_not | refine boolP_b (fun _ => ?_) (fun _ => ?_) | refine wps_draw (id := 2) [Fx, Fx, Fx, Fx, Tx, Fx, Fx, Fx] (by kernel_rfl) ?_ | ((with_reducible show CallA _ _ _ _ _); refine call_ko (H0 := X1) koW (join_ok _ _ hO rfl (by omega) (by omega) (by omega)) ?_; intro H2 k2 l2 n2 g2 q2; try simp (disch := omega) only [sm, sl, sI] at l2 n2 g2 q2) | ((with_reducible show Qs _ _ _ _ _); first | refine hQe _ _ _ _ ?_ | refine hQr _ _ _ ?_) | simp (maxSteps := 1000000) (disch := first | omega | (simp only [lenS, *]; omega)) only [↓sgg, sww, simprocAttr, sa, sS, *])
        all_goals first | (first | (with_reducible exact sameW) | ((with_reducible show _ ∧ _); exact ⟨by first | rfl | (simp [*] <;> omega), sameW⟩)) | omega | trace_state
    · have hp' : decide (plainO o = o) = false := decide_eq_false hp
      have e : lineR o = ([], 1) := if_pos (.inr hp)
      clear hn hp
      repeat' (first | refine boolP_dec (fun _ => ?_) (fun _ => ?_) | apply boolP_not | refine boolP_b (fun _ => ?_) (fun _ => ?_) | refine wps_draw (id := 2) [Fx, Fx, Fx, Fx, Tx, Fx, Fx, Fx] (by kernel_rfl) ?_ | ((with_reducible show CallA _ _ _ _ _); (first | refine call_ko (H0 := H) koW (tname_ok _ loW o ho) ?_ | refine call_ko (H0 := H) koW (tplain_ok _ loW o ho) ?_); intro H2 k2 l2 n2 g2 q2; try simp (disch := omega) only [sm, sl, sI] at l2 n2 g2 q2) | ((with_reducible show Qs _ _ _ _ _); first | refine hQe _ _ _ _ ?_ | refine hQr _ _ _ ?_) | simp (maxSteps := 1000000) (disch := first | omega | (simp only [lenS, *]; omega)) only [↓sgg, sww, simprocAttr, sa, sS, ↓ne_op, *])
      all_goals first | (first | (with_reducible exact sameW) | ((with_reducible show _ ∧ _); exact ⟨by first | rfl | (simp [*] <;> omega), sameW⟩)) | omega | trace_state
end Go.AM
