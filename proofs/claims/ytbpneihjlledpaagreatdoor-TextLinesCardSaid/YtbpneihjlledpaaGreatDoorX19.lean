/-
  Walks over letters of the functions that the law reaches.
-/
import Derived.Test.YtbpneihjlledpaaGreatDoorX18
namespace Go.AM
attribute [local instance] fnMaps
open Go Go.Proofs
set_option maxRecDepth 100000
set_option maxHeartbeats 4000000
set_option linter.unusedSimpArgs false
structure TAns where
  e : Int
  h : Int
  vk : Int
  vx : Int
  w : Nat
  b : Bool
  k : Int
  f : Int
  r : Int
def ansL (a : TAns) : List Value := [.int .i64 a.e, .int .i64 a.h, .int .i64 a.vk, .int .i64 a.vx, .int .u64 a.w, .bool a.b, .int .i64 a.k, .int .i64 a.f, .int .i64 a.r]
structure AnsOk (a : TAns) : Prop where
  e : i64 a.e
  h : i64 a.h
  vk : i64 a.vk
  vx : i64 a.vx
  w : a.w < 2 ^ 64
  k : i64 a.k
  f : i64 a.f
  r : i64 a.r
def tellT (d : Int) (a : TAns) : List UInt8 :=
  if a.e ≠ 0 then [101, 114, 114, 111, 114, 32] ++ Lib.itoa a.e else if d = 1 ∨ d = 7 then [104, 97, 110, 100, 108, 101, 32] ++ Lib.itoa a.h else if d = 2 then [118, 97, 108, 117, 101, 32] ++ textV a.vk a.vx else if d = 4 then [119, 111, 114, 100, 32] ++ hexT 16 a.w else if d = 6 then (if a.b = true then [121, 101, 115] else [110, 111]) else if d = 10 then [107, 105, 110, 100, 32] ++ Lib.itoa a.k ++ [32, 102, 105, 101, 108, 100, 115, 32] ++ Lib.itoa a.f ++ [32, 114, 97, 119, 115, 32] ++ Lib.itoa a.r else [111, 107]
theorem fn11 : E.fn.get 11 = some Tryz.f11 := by kernel_rfl
theorem tell_ok (H : Heap) (hlo : H.lo ≤ H.next) (o : TOp) (a : TAns) (ho : OpOk o) (ha : AnsOk a) : CallA E (fnv 11) [.agg (opL o).toArray, .agg (ansL a).toArray] H fun v H' => v = .string (B (tellT o.d a)) ∧ Same H H' := by
  refine callA_fn (by kernel_rfl) fn11 rfl rfl ?_
  simp only [Tryz.f11]
  obtain ⟨e0, e1⟩ := ha.e
  obtain ⟨h0, h1⟩ := ha.h
  obtain ⟨v0, v1⟩ := ha.vx
  obtain ⟨k0, k1⟩ := ha.k
  obtain ⟨f0, f1⟩ := ha.f
  obtain ⟨r0, r1⟩ := ha.r
  have hw := ha.w
  have le := itoa_len e0 e1
  have lh := itoa_len h0 h1
  have lk := itoa_len k0 k1
  have lf := itoa_len f0 f1
  have lr := itoa_len r0 r1
  have lv := textV_len a.vk a.vx v0 v1
  have lx := hexT_len 16 a.w
  obtain ⟨T0, hT⟩ : ∃ T0, tellT o.d a = T0 := ⟨_, rfl⟩
  rw [hT]
  unfold tellT at hT
  unfold opL inO ansL
  by_cases he : a.e = 0
  · have t0 := hT.symm.trans (if_neg (fun h => h he))
    clear hT
    by_cases d1 : o.d = 1 ∨ o.d = 7
    · rw [if_pos d1] at t0
      repeat' (first | refine boolP_dec (fun _ => ?_) (fun _ => ?_) | apply boolP_not | refine boolP_b (fun _ => ?_) (fun _ => ?_) | refine wps_draw (id := 16) [Fx, Fx, Tx, Fx, Fx, Fx, Fx, Tx, Fx, Fx, Fx, Fx, Fx, Fx, Fx] (by kernel_rfl) ?_ | ((with_reducible show CallA _ _ _ _ _); refine call_ko (H0 := H) koW (itoa_ok _ a.h h0 h1) ?_; intro H2 k2 l2 n2 g2 q2; try simp (disch := omega) only [sm, sl] at l2 n2 g2 q2) | simp (maxSteps := 1000000) (disch := first | omega | (simp only [lenS, *]; omega)) only [↓sgg, sww, simprocAttr, sa, sS, *])
      all_goals first | exact ⟨by rw [t0], sameW⟩ | (first | (with_reducible exact sameW) | ((with_reducible show _ ∧ _); exact ⟨by first | rfl | (simp [*] <;> omega), sameW⟩)) | omega | trace_state
    rw [if_neg d1] at t0
    by_cases d2 : o.d = 2
    · rw [if_pos d2] at t0
      repeat' (first | refine boolP_dec (fun _ => ?_) (fun _ => ?_) | apply boolP_not | refine boolP_b (fun _ => ?_) (fun _ => ?_) | refine wps_draw (id := 16) [Fx, Fx, Tx, Fx, Fx, Fx, Fx, Tx, Fx, Fx, Fx, Fx, Fx, Fx, Fx] (by kernel_rfl) ?_ | ((with_reducible show CallA _ _ _ _ _); refine call_ko (H0 := H) koW (vtext_ok _ loW a.vk a.vx v0 v1) ?_; intro H2 k2 l2 n2 g2 q2; try simp (disch := omega) only [sm, sl] at l2 n2 g2 q2) | simp (maxSteps := 1000000) (disch := first | omega | (simp only [lenS, *]; omega)) only [↓sgg, sww, simprocAttr, sa, sS, *])
      all_goals first | exact ⟨by rw [t0], sameW⟩ | (first | (with_reducible exact sameW) | ((with_reducible show _ ∧ _); exact ⟨by first | rfl | (simp [*] <;> omega), sameW⟩)) | omega | trace_state
    rw [if_neg d2] at t0
    by_cases d4 : o.d = 4
    · rw [if_pos d4] at t0
      repeat' (first | refine boolP_dec (fun _ => ?_) (fun _ => ?_) | apply boolP_not | refine boolP_b (fun _ => ?_) (fun _ => ?_) | refine wps_draw (id := 16) [Fx, Fx, Tx, Fx, Fx, Fx, Fx, Tx, Fx, Fx, Fx, Fx, Fx, Fx, Fx] (by kernel_rfl) ?_ | ((with_reducible show CallA _ _ _ _ _); refine call_ko (H0 := H) koW (whex_ok _ loW a.w hw) ?_; intro H2 k2 l2 n2 g2 q2; try simp (disch := omega) only [sm, sl] at l2 n2 g2 q2) | simp (maxSteps := 1000000) (disch := first | omega | (simp only [lenS, *]; omega)) only [↓sgg, sww, simprocAttr, sa, sS, *])
      all_goals first | exact ⟨by rw [t0], sameW⟩ | (first | (with_reducible exact sameW) | ((with_reducible show _ ∧ _); exact ⟨by first | rfl | (simp [*] <;> omega), sameW⟩)) | omega | trace_state
    rw [if_neg d4] at t0
    by_cases d6 : o.d = 6
    · rw [if_pos d6] at t0
      cases hb : a.b with
      | true =>
        rw [hb, if_pos rfl] at t0
        repeat' (first | refine boolP_dec (fun _ => ?_) (fun _ => ?_) | apply boolP_not | refine boolP_b (fun _ => ?_) (fun _ => ?_) | refine wps_draw (id := 16) [Fx, Fx, Tx, Fx, Fx, Fx, Fx, Tx, Fx, Fx, Fx, Fx, Fx, Fx, Fx] (by kernel_rfl) ?_ | simp (maxSteps := 1000000) (disch := first | omega | (simp only [lenS, *]; omega)) only [↓sgg, sww, simprocAttr, sa, sS, *])
        all_goals first | exact ⟨by rw [t0], sameW⟩ | (first | (with_reducible exact sameW) | ((with_reducible show _ ∧ _); exact ⟨by first | rfl | (simp [*] <;> omega), sameW⟩)) | omega | trace_state
      | false =>
        rw [hb, if_neg (by decide)] at t0
        repeat' (first | refine boolP_dec (fun _ => ?_) (fun _ => ?_) | apply boolP_not | refine boolP_b (fun _ => ?_) (fun _ => ?_) | refine wps_draw (id := 16) [Fx, Fx, Tx, Fx, Fx, Fx, Fx, Tx, Fx, Fx, Fx, Fx, Fx, Fx, Fx] (by kernel_rfl) ?_ | simp (maxSteps := 1000000) (disch := first | omega | (simp only [lenS, *]; omega)) only [↓sgg, sww, simprocAttr, sa, sS, *])
        all_goals first | exact ⟨by rw [t0], sameW⟩ | (first | (with_reducible exact sameW) | ((with_reducible show _ ∧ _); exact ⟨by first | rfl | (simp [*] <;> omega), sameW⟩)) | omega | trace_state
    rw [if_neg d6] at t0
    by_cases d10 : o.d = 10
    · rw [if_pos d10] at t0
      repeat' (first | refine boolP_dec (fun _ => ?_) (fun _ => ?_) | apply boolP_not | refine boolP_b (fun _ => ?_) (fun _ => ?_) | refine wps_draw (id := 16) [Fx, Fx, Tx, Fx, Fx, Fx, Fx, Tx, Fx, Fx, Fx, Fx, Fx, Fx, Fx] (by kernel_rfl) ?_ | ((with_reducible show CallA _ _ _ _ _); (first | refine call_ko (H0 := H) koW (itoa_ok _ a.k k0 k1) ?_ | refine call_ko (H0 := H) koW (itoa_ok _ a.f f0 f1) ?_ | refine call_ko (H0 := H) koW (itoa_ok _ a.r r0 r1) ?_); intro H2 k2 l2 n2 g2 q2; try simp (disch := omega) only [sm, sl] at l2 n2 g2 q2) | simp (maxSteps := 1000000) (disch := first | omega | (simp only [lenS, *]; omega)) only [↓sgg, sww, simprocAttr, sa, sS, *])
      all_goals first | exact ⟨by rw [t0], sameW⟩ | (first | (with_reducible exact sameW) | ((with_reducible show _ ∧ _); exact ⟨by first | rfl | (simp [*] <;> omega), sameW⟩)) | omega | trace_state
    rw [if_neg d10] at t0
    repeat' (first | refine boolP_dec (fun _ => ?_) (fun _ => ?_) | apply boolP_not | refine boolP_b (fun _ => ?_) (fun _ => ?_) | refine wps_draw (id := 16) [Fx, Fx, Tx, Fx, Fx, Fx, Fx, Tx, Fx, Fx, Fx, Fx, Fx, Fx, Fx] (by kernel_rfl) ?_ | simp (maxSteps := 1000000) (disch := first | omega | (simp only [lenS, *]; omega)) only [↓sgg, sww, simprocAttr, sa, sS, *])
    all_goals first | exact ⟨by rw [t0], sameW⟩ | (first | (with_reducible exact sameW) | ((with_reducible show _ ∧ _); exact ⟨by first | rfl | (simp [*] <;> omega), sameW⟩)) | omega | trace_state
  · have t0 := hT.symm.trans (if_pos he)
    clear hT
    repeat' (first | refine boolP_dec (fun _ => ?_) (fun _ => ?_) | apply boolP_not | refine boolP_b (fun _ => ?_) (fun _ => ?_) | refine wps_draw (id := 16) [Fx, Fx, Tx, Fx, Fx, Fx, Fx, Tx, Fx, Fx, Fx, Fx, Fx, Fx, Fx] (by kernel_rfl) ?_ | ((with_reducible show CallA _ _ _ _ _); refine call_ko (H0 := H) koW (itoa_ok _ a.e e0 e1) ?_; intro H2 k2 l2 n2 g2 q2; try simp (disch := omega) only [sm, sl] at l2 n2 g2 q2) | simp (maxSteps := 1000000) (disch := first | omega | (simp only [lenS, *]; omega)) only [↓sgg, sww, simprocAttr, sa, sS, *])
    all_goals first | exact ⟨by rw [t0], sameW⟩ | (first | (with_reducible exact sameW) | ((with_reducible show _ ∧ _); exact ⟨by first | rfl | (simp [*] <;> omega), sameW⟩)) | omega | trace_state
theorem fn12 : E.fn.get 12 = some Tryz.f12 := by kernel_rfl
theorem rtell_ok (H : Heap) (hlo : H.lo ≤ H.next) (o : TOp) (a : TAns) (ho : OpOk o) (ha : AnsOk a) : CallA E (fnv 12) [.agg (opL o).toArray, .agg (ansL a).toArray] H fun v H' => v = .string (B (tellT o.d a)) ∧ Same H H' := by
  refine callA_fn (by kernel_rfl) fn12 rfl rfl ?_
  simp only [Tryz.f12]
  obtain ⟨e0, e1⟩ := ha.e
  obtain ⟨h0, h1⟩ := ha.h
  obtain ⟨v0, v1⟩ := ha.vx
  obtain ⟨k0, k1⟩ := ha.k
  obtain ⟨f0, f1⟩ := ha.f
  obtain ⟨r0, r1⟩ := ha.r
  have hw := ha.w
  have le := itoa_len e0 e1
  have lh := itoa_len h0 h1
  have lk := itoa_len k0 k1
  have lf := itoa_len f0 f1
  have lr := itoa_len r0 r1
  have lv := textV_len a.vk a.vx v0 v1
  have lx := hexT_len 16 a.w
  obtain ⟨T0, hT⟩ : ∃ T0, tellT o.d a = T0 := ⟨_, rfl⟩
  rw [hT]
  unfold tellT at hT
  unfold opL inO ansL
  by_cases he : a.e = 0
  · have t0 := hT.symm.trans (if_neg (fun h => h he))
    clear hT
    by_cases d1 : o.d = 1 ∨ o.d = 7
    · rw [if_pos d1] at t0
      repeat' (first | refine boolP_dec (fun _ => ?_) (fun _ => ?_) | apply boolP_not | refine boolP_b (fun _ => ?_) (fun _ => ?_) | refine wps_draw (id := 16) [Fx, Fx, Tx, Fx, Fx, Fx, Fx, Fx, Fx, Fx] (by kernel_rfl) ?_ | ((with_reducible show CallA _ _ _ _ _); refine call_ko (H0 := H) koW (rdig_ok _ loW a.h h0 h1) ?_; intro H2 k2 l2 n2 g2 q2; try simp (disch := omega) only [sm, sl] at l2 n2 g2 q2) | simp (maxSteps := 1000000) (disch := first | omega | (simp only [lenS, *]; omega)) only [↓sgg, sww, simprocAttr, sa, sS, *])
      all_goals first | exact ⟨by rw [t0], sameW⟩ | (first | (with_reducible exact sameW) | ((with_reducible show _ ∧ _); exact ⟨by first | rfl | (simp [*] <;> omega), sameW⟩)) | omega | trace_state
    rw [if_neg d1] at t0
    by_cases d2 : o.d = 2
    · rw [if_pos d2] at t0
      repeat' (first | refine boolP_dec (fun _ => ?_) (fun _ => ?_) | apply boolP_not | refine boolP_b (fun _ => ?_) (fun _ => ?_) | refine wps_draw (id := 16) [Fx, Fx, Tx, Fx, Fx, Fx, Fx, Fx, Fx, Fx] (by kernel_rfl) ?_ | ((with_reducible show CallA _ _ _ _ _); refine call_ko (H0 := H) koW (rtext_ok _ loW a.vk a.vx) ?_; intro H2 k2 l2 n2 g2 q2; try simp (disch := omega) only [sm, sl] at l2 n2 g2 q2) | simp (maxSteps := 1000000) (disch := first | omega | (simp only [lenS, *]; omega)) only [↓sgg, sww, simprocAttr, sa, sS, *])
      all_goals first | exact ⟨by rw [t0], sameW⟩ | (first | (with_reducible exact sameW) | ((with_reducible show _ ∧ _); exact ⟨by first | rfl | (simp [*] <;> omega), sameW⟩)) | omega | trace_state
    rw [if_neg d2] at t0
    by_cases d4 : o.d = 4
    · rw [if_pos d4] at t0
      repeat' (first | refine boolP_dec (fun _ => ?_) (fun _ => ?_) | apply boolP_not | refine boolP_b (fun _ => ?_) (fun _ => ?_) | refine wps_draw (id := 16) [Fx, Fx, Tx, Fx, Fx, Fx, Fx, Fx, Fx, Fx] (by kernel_rfl) ?_ | ((with_reducible show CallA _ _ _ _ _); refine call_ko (H0 := H) koW (rhex_ok _ loW a.w hw) ?_; intro H2 k2 l2 n2 g2 q2; try simp (disch := omega) only [sm, sl] at l2 n2 g2 q2) | simp (maxSteps := 1000000) (disch := first | omega | (simp only [lenS, *]; omega)) only [↓sgg, sww, simprocAttr, sa, sS, *])
      all_goals first | exact ⟨by rw [t0], sameW⟩ | (first | (with_reducible exact sameW) | ((with_reducible show _ ∧ _); exact ⟨by first | rfl | (simp [*] <;> omega), sameW⟩)) | omega | trace_state
    rw [if_neg d4] at t0
    by_cases d6 : o.d = 6
    · rw [if_pos d6] at t0
      cases hb : a.b with
      | true =>
        rw [hb, if_pos rfl] at t0
        repeat' (first | refine boolP_dec (fun _ => ?_) (fun _ => ?_) | apply boolP_not | refine boolP_b (fun _ => ?_) (fun _ => ?_) | refine wps_draw (id := 16) [Fx, Fx, Tx, Fx, Fx, Fx, Fx, Fx, Fx, Fx] (by kernel_rfl) ?_ | simp (maxSteps := 1000000) (disch := first | omega | (simp only [lenS, *]; omega)) only [↓sgg, sww, simprocAttr, sa, sS, *])
        all_goals first | exact ⟨by rw [t0], sameW⟩ | (first | (with_reducible exact sameW) | ((with_reducible show _ ∧ _); exact ⟨by first | rfl | (simp [*] <;> omega), sameW⟩)) | omega | trace_state
      | false =>
        rw [hb, if_neg (by decide)] at t0
        repeat' (first | refine boolP_dec (fun _ => ?_) (fun _ => ?_) | apply boolP_not | refine boolP_b (fun _ => ?_) (fun _ => ?_) | refine wps_draw (id := 16) [Fx, Fx, Tx, Fx, Fx, Fx, Fx, Fx, Fx, Fx] (by kernel_rfl) ?_ | simp (maxSteps := 1000000) (disch := first | omega | (simp only [lenS, *]; omega)) only [↓sgg, sww, simprocAttr, sa, sS, *])
        all_goals first | exact ⟨by rw [t0], sameW⟩ | (first | (with_reducible exact sameW) | ((with_reducible show _ ∧ _); exact ⟨by first | rfl | (simp [*] <;> omega), sameW⟩)) | omega | trace_state
    rw [if_neg d6] at t0
    by_cases d10 : o.d = 10
    · rw [if_pos d10] at t0
      repeat' (first | refine boolP_dec (fun _ => ?_) (fun _ => ?_) | apply boolP_not | refine boolP_b (fun _ => ?_) (fun _ => ?_) | refine wps_draw (id := 16) [Fx, Fx, Tx, Fx, Fx, Fx, Fx, Fx, Fx, Fx] (by kernel_rfl) ?_ | ((with_reducible show CallA _ _ _ _ _); (first | refine call_ko (H0 := H) koW (rdig_ok _ loW a.k k0 k1) ?_ | refine call_ko (H0 := H) koW (rdig_ok _ loW a.f f0 f1) ?_ | refine call_ko (H0 := H) koW (rdig_ok _ loW a.r r0 r1) ?_); intro H2 k2 l2 n2 g2 q2; try simp (disch := omega) only [sm, sl] at l2 n2 g2 q2) | simp (maxSteps := 1000000) (disch := first | omega | (simp only [lenS, *]; omega)) only [↓sgg, sww, simprocAttr, sa, sS, *])
      all_goals first | exact ⟨by rw [t0], sameW⟩ | (first | (with_reducible exact sameW) | ((with_reducible show _ ∧ _); exact ⟨by first | rfl | (simp [*] <;> omega), sameW⟩)) | omega | trace_state
    rw [if_neg d10] at t0
    repeat' (first | refine boolP_dec (fun _ => ?_) (fun _ => ?_) | apply boolP_not | refine boolP_b (fun _ => ?_) (fun _ => ?_) | refine wps_draw (id := 16) [Fx, Fx, Tx, Fx, Fx, Fx, Fx, Fx, Fx, Fx] (by kernel_rfl) ?_ | simp (maxSteps := 1000000) (disch := first | omega | (simp only [lenS, *]; omega)) only [↓sgg, sww, simprocAttr, sa, sS, *])
    all_goals first | exact ⟨by rw [t0], sameW⟩ | (first | (with_reducible exact sameW) | ((with_reducible show _ ∧ _); exact ⟨by first | rfl | (simp [*] <;> omega), sameW⟩)) | omega | trace_state
  · have t0 := hT.symm.trans (if_pos he)
    clear hT
    repeat' (first | refine boolP_dec (fun _ => ?_) (fun _ => ?_) | apply boolP_not | refine boolP_b (fun _ => ?_) (fun _ => ?_) | refine wps_draw (id := 16) [Fx, Fx, Tx, Fx, Fx, Fx, Fx, Fx, Fx, Fx] (by kernel_rfl) ?_ | ((with_reducible show CallA _ _ _ _ _); refine call_ko (H0 := H) koW (rdig_ok _ loW a.e e0 e1) ?_; intro H2 k2 l2 n2 g2 q2; try simp (disch := omega) only [sm, sl] at l2 n2 g2 q2) | simp (maxSteps := 1000000) (disch := first | omega | (simp only [lenS, *]; omega)) only [↓sgg, sww, simprocAttr, sa, sS, *])
    all_goals first | exact ⟨by rw [t0], sameW⟩ | (first | (with_reducible exact sameW) | ((with_reducible show _ ∧ _); exact ⟨by first | rfl | (simp [*] <;> omega), sameW⟩)) | omega | trace_state
end Go.AM
