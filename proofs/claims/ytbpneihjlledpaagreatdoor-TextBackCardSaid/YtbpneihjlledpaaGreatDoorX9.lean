/-
  Walks over letters of the functions that the law reaches.
-/
import Derived.Test.YtbpneihjlledpaaGreatDoorX8
set_option linter.unusedVariables false
set_option linter.unusedSectionVars false
namespace Go.AM
variable [Orc13]
attribute [local instance] fnMaps
open Go Go.Proofs
set_option maxRecDepth 100000
set_option maxHeartbeats 4000000
set_option linter.unusedSimpArgs false
structure TOp where
  d : Int
  h : Int
  g : Int
  i : Int
  vk : Int
  vx : Int
  w : Nat
  k : Int
  f : Int
  r : Int
  p : Int
def opL (o : TOp) : List Value := inO o.d o.h o.g o.i o.vk o.vx o.w o.k o.f o.r o.p
def i64 (n : Int) : Prop := -9223372036854775808 ≤ n ∧ n ≤ 9223372036854775807
structure OpOk (o : TOp) : Prop where
  d : i64 o.d
  h : i64 o.h
  g : i64 o.g
  i : i64 o.i
  vk : i64 o.vk
  vx : i64 o.vx
  w : o.w < 2 ^ 64
  k : i64 o.k
  f : i64 o.f
  r : i64 o.r
  p : 0 ≤ o.p ∧ o.p ≤ 255
def numF (o : TOp) (c : Int) : Int := if c = 107 then o.k else if c = 102 then o.f else if c = 114 then o.r else if c = 104 then o.h else if c = 103 then o.g else o.i
def offF (c : Int) : Nat := if c = 107 then 7 else if c = 102 then 8 else if c = 114 then 9 else if c = 104 then 1 else if c = 103 then 2 else 3
theorem off_num (o : TOp) (c : Int) : (opL o)[offF c]? = some (.int .i64 (numF o c)) := by
  unfold offF numF
  repeat' split
  all_goals rfl
theorem num_in {o : TOp} (h : OpOk o) (c : Int) : i64 (numF o c) := by
  unfold numF
  repeat' split
  · exact h.k
  · exact h.f
  · exact h.r
  · exact h.h
  · exact h.g
  · exact h.i
def fieldT (o : TOp) (c : Int) : List UInt8 × Bool :=
  if c = 112 then (Lib.itoa o.p, true) else if c = 119 then (hexT 16 o.w, true) else if c = 118 then (textV o.vk o.vx, !decide (textV o.vk o.vx = [63])) else (Lib.itoa (numF o c), true)
theorem fn46 : E.fn.get 46 = some Tryz.f46 := by kernel_rfl
theorem spot_ok (H : Heap) (hlo : H.lo ≤ H.next) (r o : Nat) (c : Int) : CallA E (fnv 46) [ptr r o, .int .i32 c] H fun v H' => v = ptr r (o + offF c) ∧ Same H H' := by
  refine callA_fn (by kernel_rfl) fn46 rfl rfl ?_
  simp only [Tryz.f46]
  repeat' (first | refine boolP_dec (fun _ => ?_) (fun _ => ?_) | apply boolP_not | refine boolP_b (fun _ => ?_) (fun _ => ?_) | simp (maxSteps := 1000000) (disch := first | omega | (simp only [lenS, *]; omega)) only [↓sgg, sww, simprocAttr, sa, sS, nilV_ptr, *])
  all_goals refine ⟨?_, by exact sameW⟩
  all_goals (unfold offF; simp [*])
theorem fn21 : E.fn.get 21 = some Tryz.f21 := by kernel_rfl
theorem show_ok (H : Heap) (hlo : H.lo ≤ H.next) (o : TOp) (c : Int) (ho : OpOk o) : CallA E (fnv 21) [.agg (opL o).toArray, .int .i32 c] H fun v H' => v = .tuple #[.string (B (fieldT o c).1), .bool (fieldT o c).2] ∧ Same H H' := by
  refine callA_fn (by kernel_rfl) fn21 rfl rfl ?_
  simp only [Tryz.f21]
  obtain ⟨n0, n1⟩ := num_in ho c
  obtain ⟨v0, v1⟩ := ho.vx
  obtain ⟨p0, p1⟩ := ho.p
  have hw := ho.w
  have hoff := off_num o c
  unfold opL inO at hoff ⊢
  by_cases h1 : c = 112
  · have e : fieldT o c = (Lib.itoa o.p, true) := if_pos h1
    repeat' (first | refine boolP_dec (fun _ => ?_) (fun _ => ?_) | apply boolP_not | refine boolP_b (fun _ => ?_) (fun _ => ?_) | ((with_reducible show CallA _ _ _ _ _); refine call_ko (H0 := H) koW (itoa_ok _ o.p (by omega) (by omega)) ?_; intro H2 k2 l2 n2 g2 q2; try simp (disch := omega) only [sm, sl] at l2 n2 g2 q2) | simp (maxSteps := 1000000) (disch := first | omega | (simp only [lenS, *]; omega)) only [↓sgg, sww, simprocAttr, sa, sS, *])
    all_goals first | (first | (with_reducible exact sameW) | ((with_reducible show _ ∧ _); exact ⟨by first | rfl | (simp [*] <;> omega), sameW⟩)) | omega
  · by_cases h2 : c = 119
    · have e : fieldT o c = (hexT 16 o.w, true) := (if_neg h1).trans (if_pos h2)
      repeat' (first | refine boolP_dec (fun _ => ?_) (fun _ => ?_) | apply boolP_not | refine boolP_b (fun _ => ?_) (fun _ => ?_) | ((with_reducible show CallA _ _ _ _ _); refine call_ko (H0 := H) koW (whex_ok _ loW o.w hw) ?_; intro H2 k2 l2 n2 g2 q2; try simp (disch := omega) only [sm, sl] at l2 n2 g2 q2) | simp (maxSteps := 1000000) (disch := first | omega | (simp only [lenS, *]; omega)) only [↓sgg, sww, simprocAttr, sa, sS, *])
      all_goals first | (first | (with_reducible exact sameW) | ((with_reducible show _ ∧ _); exact ⟨by first | rfl | (simp [*] <;> omega), sameW⟩)) | omega
    · by_cases h3 : c = 118
      · have e : fieldT o c = (textV o.vk o.vx, !decide (textV o.vk o.vx = [63])) := (if_neg h1).trans ((if_neg h2).trans (if_pos h3))
        repeat' (first | refine boolP_dec (fun _ => ?_) (fun _ => ?_) | apply boolP_not | refine boolP_b (fun _ => ?_) (fun _ => ?_) | ((with_reducible show CallA _ _ _ _ _); refine call_ko (H0 := H) koW (vtext_ok _ loW _ _ v0 v1) ?_; intro H2 k2 l2 n2 g2 q2; try simp (disch := omega) only [sm, sl] at l2 n2 g2 q2) | simp (maxSteps := 1000000) (disch := first | omega | (simp only [lenS, *]; omega)) only [↓sgg, sww, simprocAttr, sa, sS, *])
        all_goals first | exact sameW | (first | (with_reducible exact sameW) | ((with_reducible show _ ∧ _); exact ⟨by first | rfl | (simp [*] <;> omega), sameW⟩)) | omega
      · have e : fieldT o c = (Lib.itoa (numF o c), true) := (if_neg h1).trans ((if_neg h2).trans (if_neg h3))
        repeat' (first | refine boolP_dec (fun _ => ?_) (fun _ => ?_) | apply boolP_not | refine boolP_b (fun _ => ?_) (fun _ => ?_) | ((with_reducible show CallA _ _ _ _ _); (first | refine call_ko (H0 := H) koW (spot_ok _ loW _ _ _) ?_ | refine call_ko (H0 := H) koW (itoa_ok _ (numF o c) n0 n1) ?_); intro H2 k2 l2 n2 g2 q2; try simp (disch := omega) only [sm, sl] at l2 n2 g2 q2) | simp (maxSteps := 1000000) (disch := first | omega | (simp only [lenS, *]; omega)) only [↓sgg, sww, simprocAttr, sa, sS, nilV_ptr, *])
        all_goals first | exact sameW | (first | (with_reducible exact sameW) | ((with_reducible show _ ∧ _); exact ⟨by first | rfl | (simp [*] <;> omega), sameW⟩)) | omega
end Go.AM
