/-
  Walks over letters of the functions that the law reaches.
-/
import Derived.Test.YtbpneihjlledpaaGreatDoorX21
set_option linter.unusedVariables false
set_option linter.unusedSectionVars false
namespace Go.AM
variable [Orc13]
attribute [local instance] fnMaps
open Go Go.Proofs
set_option maxRecDepth 100000
set_option maxHeartbeats 4000000
set_option linter.unusedSimpArgs false
def scriptL : List TOp → List UInt8 × Int
  | [] => ([], 0)
  | o :: l => if (lineR o).2 ≠ 0 then ([], (lineR o).2) else if (scriptL l).2 ≠ 0 then ([], (scriptL l).2) else ((lineR o).1 ++ 10 :: (scriptL l).1, 0)
def wrote : List TOp → List UInt8
  | [] => []
  | o :: l => (lineR o).1 ++ 10 :: wrote l
theorem wrote_snoc : ∀ (l : List TOp) (o : TOp), wrote (l ++ [o]) = (wrote l ++ (lineR o).1) ++ [10]
  | [], o => by simp [wrote]
  | x :: l, o => by simp [wrote, wrote_snoc l o]
theorem script_all : ∀ (l : List TOp), (∀ o ∈ l, (lineR o).2 = 0) → scriptL l = (wrote l, 0)
  | [], _ => rfl
  | o :: l, h => by
    have h1 := h o (List.mem_cons_self ..)
    have h2 := script_all l fun x hx => h x (List.mem_cons_of_mem _ hx)
    unfold scriptL wrote
    rw [h2, if_neg (fun h => h h1), if_neg (fun h => h rfl)]
theorem script_bad : ∀ (l : List TOp) (o : TOp) (m : List TOp), (∀ x ∈ l, (lineR x).2 = 0) → (lineR o).2 ≠ 0 → scriptL (l ++ o :: m) = ([], (lineR o).2)
  | [], o, m, _, h => by
    show scriptL (o :: m) = _
    unfold scriptL
    rw [if_pos h]
  | x :: l, o, m, h, h2 => by
    have h1 := h x (List.mem_cons_self ..)
    have h3 := script_bad l o m (fun y hy => h y (List.mem_cons_of_mem _ hy)) h2
    show scriptL (x :: (l ++ o :: m)) = _
    unfold scriptL
    rw [h3, if_neg (fun h => h h1), if_pos h2]
theorem lineS_len (o : TOp) (ho : OpOk o) : (lineR o).1.length ≤ 110 := by
  unfold lineR
  have h1 := nameL_len o.d
  have h2 := usesL_len o.d
  have h3 := join_len o ho (nameL o.d) (usesL o.d)
  split
  · exact Nat.zero_le _
  split
  · dsimp only; omega
  · exact Nat.zero_le _
theorem wrote_len : ∀ (l : List TOp), (∀ o ∈ l, OpOk o) → (wrote l).length ≤ 111 * l.length
  | [], _ => Nat.le_refl _
  | o :: l, h => by
    have h1 := lineS_len o (h o (List.mem_cons_self ..))
    have h2 := wrote_len l fun x hx => h x (List.mem_cons_of_mem _ hx)
    simp only [wrote, List.length_append, List.length_cons]
    omega
theorem line_err (o : TOp) : (lineR o).2 = 0 ∨ (lineR o).2 = 1 := by
  unfold lineR
  split
  · exact .inr rfl
  split
  · exact .inl rfl
  · exact .inr rfl
theorem fn14 : E.fn.get 14 = some Tryz.f14 := by kernel_rfl
theorem rscript_ok (H : Heap) (hlo : H.lo ≤ H.next) (v : Value) (l : List TOp) (hv : OpsR H v l) (hl : l.length ≤ 100000) : CallA E (fnv 14) [v] H fun r H' => r = .tuple #[.string (B (scriptL l).1), .int .i64 (scriptL l).2] ∧ Same H H' := by
  obtain ⟨⟨a, ca, rfl, ⟨_, hma⟩, hla⟩, -⟩ := hv
  have hop : ∀ o ∈ l, OpOk o := fun o ho => by
    obtain ⟨i, hi, rfl⟩ := List.mem_iff_getElem.1 ho
    obtain ⟨r, o', cells, gg, tt, part, _, _, _, _, _, h⟩ := hla i l[i] (by simp [hi])
    exact h
  refine callA_fn (by kernel_rfl) fn14 rfl rfl ?_
  simp only [Tryz.f14]
  repeat' (first | refine boolP_dec (fun _ => ?_) (fun _ => ?_) | apply boolP_not | refine boolP_b (fun _ => ?_) (fun _ => ?_) | ((with_reducible show Qs _ _ _ _ _); first | refine hQe _ _ _ _ ?_ | refine hQr _ _ _ ?_) | simp (maxSteps := 1000000) (disch := first | omega | (simp only [lenS, *]; omega)) only [↓sgg, sww, simprocAttr, sa, sS, *])
  refine wps_named2 (fun T1 H1 eT eH => ?_)
  have k1 : Ko H H1 := by rw [eH]; exact koW
  have n1 := congrArg Heap.next eH; have l1 := congrArg Heap.lo eH; have g1 := fun r => congrArg (fun h : Heap => h.objs.get r) eH
  try simp (disch := omega) only [sm, sl] at n1 l1 g1
  clear eH
  have u1_0 := congrArg (fun T : Tr Value => T.get 0) eT
  have u1_4 := congrArg (fun T : Tr Value => T.get 4) eT
  have u1_5 := congrArg (fun T : Tr Value => T.get 5) eT
  simp only [get_set, of_nil, of_1, of_2, of_3, of_4, of_5, Nat.reduceEqDiff, if_true, if_false, reduceIte] at u1_0 u1_4 u1_5
  clear eT
  refine wp_loopN (by kernel_rfl) (fun nn T X => ∃ i : Nat, nn = l.length - i ∧ (T.get 4 = some (.string (B (wrote (l.take i)))) ∧ T.get 5 = some (.int .i64 i)) ∧ (T.get 0 = T1.get 0) ∧ Ko H1 X ∧ X.lo = H1.lo ∧ (i ≤ l.length ∧ ∀ x ∈ l.take i, (lineR x).2 = 0)) ?_ ?_
  · have hz : wrote (l.take 0) = [] := rfl
    have hz2 : wrote ([] : List TOp) = [] := rfl
    refine ⟨_, 0, rfl, ?_, ?_, Ko.refl _, rfl, ⟨Nat.zero_le _, fun x hx => by simp at hx⟩⟩ <;> exact nextW
  rintro nn T1' X1 ⟨i, rfl, m1, w1, kx1, lx1, ⟨hi, hA⟩⟩ Qs hQ hQr hQe
  have kX1 := k1.trans kx1; have nx1 := kx1.nxt; have gx1 := kx1.objs
  have hwl := wrote_len (l.take i) fun o ho => hop o (List.mem_of_mem_take ho)
  have htl : (l.take i).length = i := by rw [List.length_take]; omega
  rw [htl] at hwl
  by_cases hlt : i < l.length
  · obtain ⟨r, o, cells, gg, tt, part, rfl, hr, hrow, hcut, rfl, hox⟩ := hla i l[i] (by simp)
    have a1 := at_nat hlt
    have e1 := kX1.objs r hr
    have hg := List.getElem?_eq_getElem hlt
    have hsn : l.take (i + 1) = l.take i ++ [l[i]] := by rw [List.take_add_one, hg]; rfl
    have hw := wrote_snoc (l.take i) l[i]
    rw [← hsn] at hw
    have hL := line_eq l[i]
    have hll := lineS_len _ hox
    have hsp : l = l.take i ++ l[i] :: l.drop (i + 1) := by rw [← List.drop_eq_getElem_cons hlt, List.take_append_drop]
    have hbd := script_bad (l.take i) l[i] (l.drop (i + 1)) hA
    rw [← hsp] at hbd
    have hnx : (lineR l[i]).2 = 0 → ∀ x ∈ l.take (i + 1), (lineR x).2 = 0 := fun h x hx => by
      rw [hsn] at hx
      rcases List.mem_append.1 hx with hx | hx
      · exact hA x hx
      · rw [List.mem_singleton.1 hx]; exact h
    have c1 := fun (X : Heap) (hx : X.lo ≤ X.next) => rline_ok X hx l[i] hox
    rw [← hL] at c1
    generalize hLn : lineR l[i] = L at *
    generalize l[i] = x at *
    generalize hW : wrote (l.take i) = W at *
    have hl1 : (W ++ L.1).length ≤ 111 * i + 110 := by rw [List.length_append]; omega
    clear hsn hsp hL hop hA htl
    by_cases he : L.2 = 0
    · have h2 := hnx he
      clear hbd hnx
      repeat' (first | refine boolP_dec (fun _ => ?_) (fun _ => ?_) | apply boolP_not | refine boolP_b (fun _ => ?_) (fun _ => ?_) | ((with_reducible show CallA _ _ _ _ _); refine call_ko (H0 := H1) koW (c1 _ loW) ?_; intro H2 k2 l2 n2 g2 q2; try simp (disch := omega) only [sm, sl] at l2 n2 g2 q2) | ((with_reducible show Qs _ _ _ _ _); first | refine hQe _ _ _ _ ?_ | refine hQr _ _ _ ?_) | simp (maxSteps := 1000000) (disch := first | omega | (simp only [lenS, *]; omega)) only [↓sgg, sww, simprocAttr, sa, sS, *])
      all_goals first | refine hQ _ _ _ ?_ ⟨i + 1, rfl, ?_, ?_, ?_, ?_, ⟨by omega, h2⟩⟩ <;> exact nextW | omega | trace_state
    · have h2 := hbd he
      clear hbd hnx
      repeat' (first | refine boolP_dec (fun _ => ?_) (fun _ => ?_) | apply boolP_not | refine boolP_b (fun _ => ?_) (fun _ => ?_) | ((with_reducible show CallA _ _ _ _ _); refine call_ko (H0 := H1) koW (c1 _ loW) ?_; intro H2 k2 l2 n2 g2 q2; try simp (disch := omega) only [sm, sl] at l2 n2 g2 q2) | ((with_reducible show Qs _ _ _ _ _); first | refine hQe _ _ _ _ ?_ | refine hQr _ _ _ ?_) | simp (maxSteps := 1000000) (disch := first | omega | (simp only [lenS, *]; omega)) only [↓sgg, sww, simprocAttr, sa, sS, *])
      all_goals first | (first | (with_reducible exact sameW) | ((with_reducible show _ ∧ _); exact ⟨by first | rfl | (simp [*] <;> omega), sameW⟩)) | omega | trace_state
  · have ei : i = l.length := by omega
    subst ei
    rw [List.take_length] at hA m1
    have h2 := script_all l hA
    obtain ⟨m4, m5⟩ := m1
    clear hA hop hwl
    repeat' (first | refine boolP_dec (fun _ => ?_) (fun _ => ?_) | apply boolP_not | refine boolP_b (fun _ => ?_) (fun _ => ?_) | ((with_reducible show Qs _ _ _ _ _); first | refine hQe _ _ _ _ ?_ | refine hQr _ _ _ ?_) | simp (maxSteps := 1000000) (disch := first | omega | (simp only [lenS, *]; omega)) only [↓sgg, sww, simprocAttr, sa, sS, *])
    all_goals first | (first | (with_reducible exact sameW) | ((with_reducible show _ ∧ _); exact ⟨by first | rfl | (simp [*] <;> omega), sameW⟩)) | omega | trace_state
end Go.AM
