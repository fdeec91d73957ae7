/-
  Walks over letters of the functions that the law reaches.
-/
import Derived.Test.YtbpneihjlledpaaGreatDoorX24
set_option linter.unusedVariables false
set_option linter.unusedSectionVars false
namespace Go.AM
variable [Orc13]
attribute [local instance] fnMaps
open Go Go.Proofs
set_option maxRecDepth 100000
set_option maxHeartbeats 4000000
set_option linter.unusedSimpArgs false
theorem orc_script (args : List Value) (H : Heap) : E.orc (fnv 13) args H = Orc13.ans args H := by kernel_rfl
def ScriptAns : Prop := ∀ (H : Heap) (v : Value) (l : List TOp), OpsR H v l → l.length ≤ 100 → Orc13.ans [v] H = some (.tuple #[.string (B (scriptL l).1), .int .i64 (scriptL l).2], H)
theorem script_ok (hX : ScriptAns) (H : Heap) (v : Value) (l : List TOp) (hv : OpsR H v l) (hl : l.length ≤ 100) : CallA E (fnv 13) [v] H fun r H' => r = .tuple #[.string (B (scriptL l).1), .int .i64 (scriptL l).2] ∧ Same H H' :=
  callA_told ((orc_script _ _).trans (hX H v l hv hl)) ⟨rfl, Same.refl H⟩
theorem OpsR.sl {H : Heap} {v : Value} {l : List TOp} (h : OpsR H v l) : ∃ a c, v = .slice a l.length c ∧ l.length ≤ c := by
  obtain ⟨⟨a, c, h1, h2, _⟩, _⟩ := h
  exact ⟨a, c, h1, h2.1⟩
theorem fn4 : E.fn.get 4 = some Tryz.f4 := by kernel_rfl
theorem scripts_ok (hX : ScriptAns) (H : Heap) (hlo : H.lo ≤ H.next) (v : Value) (l : List TOp) (hv : OpsR H v l) (s : List UInt8) : CallA E (fnv 4) [v, .string (B s)] H fun r H' => r = .bool true ∧ Same H H' := by
  refine callA_fn (by kernel_rfl) fn4 rfl rfl ?_
  simp only [Tryz.f4]
  by_cases hl : l.length ≤ 100
  · by_cases hs : s.length ≤ 20001
    · obtain ⟨R, hR⟩ : ∃ R, scriptL l = R := ⟨_, rfl⟩
      obtain ⟨Q, hQ⟩ : ∃ Q, readR s = Q := ⟨_, rfl⟩
      have c1 := fun (X : Heap) (hx : Same H X) => script_ok hX X v l (hv.same hx) hl
      have c2 := fun (X : Heap) (hx : X.lo ≤ X.next) (hs : Same H X) => rscript_ok X hx v l (hv.same hs) (by omega)
      have c3 := fun (X : Heap) (hx : X.lo ≤ X.next) => tread2_ok X hx s
      have c4 := fun (X : Heap) (hx : X.lo ≤ X.next) => rread2_ok X hx s
      rw [hR] at c1 c2
      rw [hQ] at c3 c4
      have hRw := hv.2
      obtain ⟨a, ca, rfl, hca⟩ := hv.sl
      clear hR hQ hv
      repeat' (first | refine boolP_dec (fun _ => ?_) (fun _ => ?_) | apply boolP_not | refine boolP_b (fun _ => ?_) (fun _ => ?_) | ((with_reducible show CallA _ _ _ _ _); (first | refine call_ko (H0 := H) koW (c1 _ sameW) ?_ | refine call_ko (H0 := H) koW (c2 _ loW sameW) ?_); intro H2 k2 l2 n2 g2 q2; try simp (disch := omega) only [sm, sl] at l2 n2 g2 q2) | simp (maxSteps := 1000000) (disch := first | omega | (simp only [lenS, *]; omega)) only [↓sgg, sww, simprocAttr, sa, sS, *])
      all_goals try omega
      refine CallA.mono (c3 _ (by omega)) ?_
      rintro _ Y ⟨⟨v3, rfl, o3⟩, sY⟩
      have kY := k2.trans sY.ko
      have nY := sY.nxt
      have lY := sY.lo
      repeat' (first | refine boolP_dec (fun _ => ?_) (fun _ => ?_) | apply boolP_not | refine boolP_b (fun _ => ?_) (fun _ => ?_) | simp (maxSteps := 1000000) (disch := first | omega | (simp only [lenS, *]; omega)) only [↓sgg, sww, simprocAttr, sa, sS, *])
      all_goals try omega
      refine CallA.mono (c4 _ (by omega)) ?_
      rintro _ Z ⟨⟨v4, rfl, o4⟩, sZ⟩
      have kZ := kY.trans sZ.ko
      have nZ := sZ.nxt
      have lZ := sZ.lo
      have o5 := o3.same sZ
      obtain ⟨a3, b3, rfl, _⟩ := o3.sl
      obtain ⟨a4, b4, rfl, _⟩ := o4.sl
      have hqq : decide (Q.1 = Q.1) = true := decide_eq_true rfl
      have c5 := fun (X : Heap) (hx : X.lo ≤ X.next) (hs : Same Z X) => ops_same X hx _ _ Q.1 Q.1 (o5.same hs) (o4.same hs)
      clear o3 o4 o5 sY sZ
      repeat' (first | refine boolP_dec (fun _ => ?_) (fun _ => ?_) | apply boolP_not | refine boolP_b (fun _ => ?_) (fun _ => ?_) | ((with_reducible show CallA _ _ _ _ _); (first | refine call_ko (H0 := H) koW (c5 _ loW sameW) ?_ | refine call_ko (H0 := H) koW (awake_ok _) ?_); intro H2 k2 l2 n2 g2 q2; try simp (disch := omega) only [sm, sl] at l2 n2 g2 q2) | simp (maxSteps := 1000000) (disch := first | omega | (simp only [lenS, *]; omega)) only [↓sgg, sww, simprocAttr, sa, sS, *])
      all_goals first | (first | (with_reducible exact sameW) | ((with_reducible show _ ∧ _); exact ⟨by first | rfl | (simp [*] <;> omega), sameW⟩)) | omega | trace_state
    · obtain ⟨a, ca, rfl, hca⟩ := hv.sl
      repeat' (first | refine boolP_dec (fun _ => ?_) (fun _ => ?_) | apply boolP_not | refine boolP_b (fun _ => ?_) (fun _ => ?_) | ((with_reducible show CallA _ _ _ _ _); refine call_ko (H0 := H) koW (awake_ok _) ?_; intro H2 k2 l2 n2 g2 q2; try simp (disch := omega) only [sm, sl] at l2 n2 g2 q2) | simp (maxSteps := 1000000) (disch := first | omega | (simp only [lenS, *]; omega)) only [↓sgg, sww, simprocAttr, sa, sS, *])
      all_goals first | (first | (with_reducible exact sameW) | ((with_reducible show _ ∧ _); exact ⟨by first | rfl | (simp [*] <;> omega), sameW⟩)) | omega | trace_state
  · obtain ⟨a, ca, rfl, hca⟩ := hv.sl
    repeat' (first | refine boolP_dec (fun _ => ?_) (fun _ => ?_) | apply boolP_not | refine boolP_b (fun _ => ?_) (fun _ => ?_) | ((with_reducible show CallA _ _ _ _ _); refine call_ko (H0 := H) koW (awake_ok _) ?_; intro H2 k2 l2 n2 g2 q2; try simp (disch := omega) only [sm, sl] at l2 n2 g2 q2) | simp (maxSteps := 1000000) (disch := first | omega | (simp only [lenS, *]; omega)) only [↓sgg, sww, simprocAttr, sa, sS, *])
    all_goals first | (first | (with_reducible exact sameW) | ((with_reducible show _ ∧ _); exact ⟨by first | rfl | (simp [*] <;> omega), sameW⟩)) | omega | trace_state
end Go.AM
