/-
  Walks over letters of the functions that the law reaches.
-/
import Derived.Test.YtbpneihjlledpaaGreatDoorX26
set_option linter.unusedVariables false
set_option linter.unusedSectionVars false
namespace Go.AM
variable [Orc13]
attribute [local instance] fnMaps
open Go Go.Proofs
set_option maxRecDepth 100000
set_option maxHeartbeats 4000000
set_option linter.unusedSimpArgs false
theorem wrap_mod (m : Nat) : IntKind.i64.wrap ((m : Int).tmod 9) = ((m % 9 : Nat) : Int) := by
  have ht : (m : Int).tmod 9 = ((m % 9 : Nat) : Int) := (Int.ofNat_tmod m 9).symm
  rw [ht]
  exact wrap_in .i64 _ (by show (-9223372036854775808 : Int) ≤ _; omega) (by show _ ≤ (9223372036854775807 : Int); omega)
theorem OpsR.ok {H : Heap} {v : Value} {l : List TOp} (h : OpsR H v l) : ∀ o ∈ l, OpOk o := fun o ho => by
  obtain ⟨⟨a, ca, rfl, ⟨_, hma⟩, hla⟩, -⟩ := h
  obtain ⟨i, hi, rfl⟩ := List.mem_iff_getElem.1 ho
  obtain ⟨r, o', cells, gg, tt, part, _, _, _, _, _, h⟩ := hla i l[i] (by simp [hi])
  exact h
theorem fn5 : E.fn.get 5 = some Tryz.f5 := by kernel_rfl
theorem back_ok (hX : ScriptAns) (H : Heap) (hlo : H.lo ≤ H.next) (v : Value) (l : List TOp) (hv : OpsR H v l) (s : List UInt8) (many : Nat) (hm : many ≤ 255) : CallA E (fnv 5) [v, .string (B s), .int .u8 many] H fun r H' => r = .bool true ∧ Same H H' := by
  refine callA_fn (by kernel_rfl) fn5 rfl rfl ?_
  simp only [Tryz.f5]
  by_cases hl : l.length ≤ 100
  · by_cases hs : s.length ≤ 300
    · obtain ⟨Q, hQ⟩ : ∃ Q, parseR s = Q := ⟨_, rfl⟩
      have c1 := fun (X : Heap) (hx : X.lo ≤ X.next) => tparse_ok X hx s (by omega)
      have hok := parse_opok s
      rw [hQ] at c1 hok
      have hbk : Q.2 = 0 → lineR Q.1 = (s, 0) := fun h => line_parse (hQ.trans (Prod.ext rfl h))
      have c2 := fun (X : Heap) (hx : X.lo ≤ X.next) => line_ok X hx Q.1 hok
      have c3 := fun (X : Heap) (hx : Same H X) => script_ok hX X v l (hv.same hx) hl
      have q1 := opL_len Q.1
      have q2 := op_cell Q.1
      have q4 := op_all Q.1
      have hop : ∀ o ∈ l, OpOk o := hv.ok
      have hse := script_err l
      obtain ⟨R, hR⟩ : ∃ R, scriptL l = R := ⟨_, rfl⟩
      rw [hR] at c3 hse
      have hRw := hv.2
      have hV : Hid (OpsR H v l) := hv
      obtain ⟨a, ca, rfl, hca⟩ := hv.sl
      clear hR hQ hv
      have key : ∀ (X : Heap), Ko H X → X.lo = H.lo → CallA E (fnv 13) [.slice a l.length ca] X fun v Y => v = .tuple #[.string (B R.1), .int .i64 R.2] ∧ Ko H Y ∧ Y.lo ≤ Y.next ∧ Y.lo = X.lo ∧ X.next ≤ Y.next := fun X kX lX => by
        refine (c3 X (kX.same lX)).mono ?_
        rintro _ Y ⟨rfl, sY⟩
        exact ⟨rfl, kX.call sY, by have := sY.lo; have := (kX.call sY).nxt; omega, sY.lo, sY.nxt⟩
      clear c3
      by_cases he : Q.2 = 0
      case' pos =>
        rw [hbk he] at c2
        clear hbk
        repeat' (first | refine boolP_dec (fun _ => ?_) (fun _ => ?_) | apply boolP_not | refine boolP_b (fun _ => ?_) (fun _ => ?_) | ((with_reducible show CallA _ _ _ _ _); (first | refine call_ko (H0 := H) koW (c1 _ loW) ?_ | refine call_ko (H0 := H) koW (c2 _ loW) ?_); intro H2 k2 l2 n2 g2 q2; try simp (disch := omega) only [sm, sl] at l2 n2 g2 q2) | ((with_reducible show Qs _ _ _ _ _); first | refine hQe _ _ _ _ ?_ | refine hQr _ _ _ ?_) | simp (maxSteps := 1000000) (disch := first | omega | (simp only [lenS, *]; omega)) only [↓sgg, sww, simprocAttr, sa, sS, *])
      case' neg =>
        clear c2 hbk
        repeat' (first | refine boolP_dec (fun _ => ?_) (fun _ => ?_) | apply boolP_not | refine boolP_b (fun _ => ?_) (fun _ => ?_) | ((with_reducible show CallA _ _ _ _ _); refine call_ko (H0 := H) koW (c1 _ loW) ?_; intro H2 k2 l2 n2 g2 q2; try simp (disch := omega) only [sm, sl] at l2 n2 g2 q2) | ((with_reducible show Qs _ _ _ _ _); first | refine hQe _ _ _ _ ?_ | refine hQr _ _ _ ?_) | simp (maxSteps := 1000000) (disch := first | omega | (simp only [lenS, *]; omega)) only [↓sgg, sww, simprocAttr, sa, sS, *])
      all_goals try omega
      all_goals
        refine CallA.mono (key _ koW ?_) ?_
        · first | omega | (simp only [setRow_lo, newRow_lo]; omega)
        rintro _ Y ⟨rfl, kY, lY, eY, nY⟩
        clear key
        obtain ⟨R1, R2⟩ := R
        rcases hse with ⟨rfl, hA, rfl⟩ | hse
      all_goals try (cases hse; clear he; (repeat' (first | refine boolP_dec (fun _ => ?_) (fun _ => ?_) | apply boolP_not | refine boolP_b (fun _ => ?_) (fun _ => ?_) | ((with_reducible show CallA _ _ _ _ _); refine call_ko (H0 := Y) koW (awake_ok _) ?_; intro H2 k2 l2 n2 g2 q2; try simp (disch := omega) only [sm, sl] at l2 n2 g2 q2) | ((with_reducible show Qs _ _ _ _ _); first | refine hQe _ _ _ _ ?_ | refine hQr _ _ _ ?_) | simp (maxSteps := 1000000) (disch := first | omega | (simp only [lenS, *]; omega)) only [↓sgg, sww, simprocAttr, sa, sS, *])); all_goals first | (first | (with_reducible exact sameW) | ((with_reducible show _ ∧ _); exact ⟨by first | rfl | (simp [*] <;> omega), sameW⟩)) | omega | trace_state)
      all_goals
        repeat' (first | refine boolP_dec (fun _ => ?_) (fun _ => ?_) | apply boolP_not | refine boolP_b (fun _ => ?_) (fun _ => ?_) | ((with_reducible show Qs _ _ _ _ _); first | refine hQe _ _ _ _ ?_ | refine hQr _ _ _ ?_) | simp (maxSteps := 1000000) (disch := first | omega | (simp only [lenS, *]; omega)) only [↓sgg, sww, simprocAttr, sa, sS, *])
      all_goals try omega
      all_goals
        clear he
        refine wps_named2 (fun T1 H1 eT eH => ?_)
        have k1 : Ko H H1 := by rw [eH]; exact koW
        have n1 := congrArg Heap.next eH; have l1 := congrArg Heap.lo eH; have g1 := fun r => congrArg (fun h : Heap => h.objs.get r) eH
        try simp (disch := omega) only [sm, sl] at n1 l1 g1
        clear eH
        have u1_0 := congrArg (fun T : Tr Value => T.get 0) eT
        have u1_2 := congrArg (fun T : Tr Value => T.get 2) eT
        have u1_11 := congrArg (fun T : Tr Value => T.get 11) eT
        have u1_13 := congrArg (fun T : Tr Value => T.get 13) eT
        have u1_14 := congrArg (fun T : Tr Value => T.get 14) eT
        simp only [get_set, of_nil, of_1, of_2, of_3, of_4, of_5, Nat.reduceEqDiff, if_true, if_false, reduceIte] at u1_0 u1_2 u1_11 u1_13 u1_14
        clear eT
        refine wp_loopN (by kernel_rfl) (fun nn T X => ∃ i : Nat, nn = 9 - i ∧ (T.get 13 = some (.string (B (rems i))) ∧ T.get 14 = some (.int .i64 i)) ∧ (T.get 0 = T1.get 0 ∧ T.get 2 = T1.get 2 ∧ T.get 11 = T1.get 11) ∧ Ko H1 X ∧ X.lo = H1.lo ∧ (i ≤ many % 9)) ?_ ?_
        · have hz : rems 0 = [] := rfl
          refine ⟨_, 0, rfl, ?_, ?_, Ko.refl _, rfl, Nat.zero_le _⟩ <;> exact nextW
        rintro nn T1' X1 ⟨i, rfl, m1, w1, kx1, lx1, hi⟩ Qs hQ hQr hQe
        have kX1 := k1.trans kx1; have nx1 := kx1.nxt; have gx1 := kx1.objs
        have hrl := rems_len i
        have hrm := wrap_mod many
        have hwl := wrote_len l hop
        by_cases hlt : i < many % 9
        · have hr : rems i ++ [35, 32, 114, 101, 109, 97, 114, 107, 10, 10] = rems (i + 1) := rfl
          have hd : decide ((i : Int) < ((many % 9 : Nat) : Int)) = true := decide_eq_true (by omega)
          repeat' (first | refine boolP_dec (fun _ => ?_) (fun _ => ?_) | apply boolP_not | refine boolP_b (fun _ => ?_) (fun _ => ?_) | ((with_reducible show Qs _ _ _ _ _); first | refine hQe _ _ _ _ ?_ | refine hQr _ _ _ ?_) | simp (maxSteps := 1000000) (disch := first | omega | (simp only [lenS, *]; omega)) only [↓sgg, sww, simprocAttr, sa, sS, *])
          all_goals first | (refine hQ _ _ _ ?_ ⟨i + 1, rfl, ?_, ?_, ?_, ?_, by omega⟩ <;> exact nextW) | omega | trace_state
        · have hd : decide ((i : Int) < ((many % 9 : Nat) : Int)) = false := decide_eq_false (by omega)
          have hl1 : (rems i ++ wrote l).length = 10 * i + (wrote l).length := by rw [List.length_append, hrl]
          have hrd := read_script l hop hl i (by omega) hA
          repeat' (first | refine boolP_dec (fun _ => ?_) (fun _ => ?_) | apply boolP_not | refine boolP_b (fun _ => ?_) (fun _ => ?_) | ((with_reducible show Qs _ _ _ _ _); first | refine hQe _ _ _ _ ?_ | refine hQr _ _ _ ?_) | simp (maxSteps := 1000000) (disch := first | omega | (simp only [lenS, *]; omega)) only [↓sgg, sww, simprocAttr, sa, sS, *])
          all_goals try omega
          refine CallA.mono (tread2_ok _ loW _) ?_
          rintro _ Z ⟨⟨v3, rfl, o3⟩, sZ⟩
          rw [hrd] at o3 ⊢
          have kZ : Ko H Z := Ko.call koW sZ
          have lZ := sZ.lo
          have nZ := sZ.nxt
          have sHZ : Same H Z := kZ.same (by first | omega | (simp only [setRow_lo, newRow_lo] at *; omega))
          have o4 := hV.same sHZ
          have gZ := sHZ.lo
          have mZ := sHZ.nxt
          obtain ⟨a3, b3, rfl, _⟩ := o3.sl
          have hqq : decide (l = l) = true := decide_eq_true rfl
          have c5 := fun (X : Heap) (hx : X.lo ≤ X.next) (hs : Same Z X) => ops_same X hx _ _ l l (o3.same hs) (o4.same hs)
          clear o3 o4 sZ hrd hV
          repeat' (first | refine boolP_dec (fun _ => ?_) (fun _ => ?_) | apply boolP_not | refine boolP_b (fun _ => ?_) (fun _ => ?_) | ((with_reducible show CallA _ _ _ _ _); (first | refine call_ko (H0 := Z) koW (c5 _ loW sameW) ?_ | refine call_ko (H0 := Z) koW (awake_ok _) ?_); intro H2 k2 l2 n2 g2 q2; try simp (disch := omega) only [sm, sl] at l2 n2 g2 q2) | ((with_reducible show Qs _ _ _ _ _); first | refine hQe _ _ _ _ ?_ | refine hQr _ _ _ ?_) | simp (maxSteps := 1000000) (disch := first | omega | (simp only [lenS, *]; omega)) only [↓sgg, sww, simprocAttr, sa, sS, *])
          all_goals first | (first | (with_reducible exact sameW) | ((with_reducible show _ ∧ _); exact ⟨by first | rfl | (simp [*] <;> omega), sameW⟩)) | omega | trace_state
    · obtain ⟨a, ca, rfl, hca⟩ := hv.sl
      repeat' (first | refine boolP_dec (fun _ => ?_) (fun _ => ?_) | apply boolP_not | refine boolP_b (fun _ => ?_) (fun _ => ?_) | ((with_reducible show CallA _ _ _ _ _); refine call_ko (H0 := H) koW (awake_ok _) ?_; intro H2 k2 l2 n2 g2 q2; try simp (disch := omega) only [sm, sl] at l2 n2 g2 q2) | ((with_reducible show Qs _ _ _ _ _); first | refine hQe _ _ _ _ ?_ | refine hQr _ _ _ ?_) | simp (maxSteps := 1000000) (disch := first | omega | (simp only [lenS, *]; omega)) only [↓sgg, sww, simprocAttr, sa, sS, *])
      all_goals first | (first | (with_reducible exact sameW) | ((with_reducible show _ ∧ _); exact ⟨by first | rfl | (simp [*] <;> omega), sameW⟩)) | omega | trace_state
  · obtain ⟨a, ca, rfl, hca⟩ := hv.sl
    repeat' (first | refine boolP_dec (fun _ => ?_) (fun _ => ?_) | apply boolP_not | refine boolP_b (fun _ => ?_) (fun _ => ?_) | ((with_reducible show CallA _ _ _ _ _); refine call_ko (H0 := H) koW (awake_ok _) ?_; intro H2 k2 l2 n2 g2 q2; try simp (disch := omega) only [sm, sl] at l2 n2 g2 q2) | ((with_reducible show Qs _ _ _ _ _); first | refine hQe _ _ _ _ ?_ | refine hQr _ _ _ ?_) | simp (maxSteps := 1000000) (disch := first | omega | (simp only [lenS, *]; omega)) only [↓sgg, sww, simprocAttr, sa, sS, *])
    all_goals first | (first | (with_reducible exact sameW) | ((with_reducible show _ ∧ _); exact ⟨by first | rfl | (simp [*] <;> omega), sameW⟩)) | omega | trace_state
end Go.AM
