/-
  Walks over letters of the functions that the law reaches.
-/
import Derived.Test.YtbpneihjlledpaaGreatDoorX7
set_option linter.unusedVariables false
set_option linter.unusedSectionVars false
namespace Go.AM
variable [Orc13]
attribute [local instance] fnMaps
open Go Go.Proofs
set_option maxRecDepth 100000
set_option maxHeartbeats 4000000
set_option linter.unusedSimpArgs false
def mayV (k x : Int) : Prop := k = 0 ∧ x = 0 ∨ k = 1 ∧ -2305843009213693952 ≤ x ∧ x ≤ 2305843009213693951 ∨ k = 2 ∧ 0 ≤ x ∧ x ≤ 1099511627776
instance (k x : Int) : Decidable (mayV k x) := by unfold mayV; infer_instance
structure Val where
  kind : Int
  x : Int
def okVal (v : Val) : Prop := mayV v.kind v.x
instance (v : Val) : Decidable (okVal v) := by unfold okVal; infer_instance
def textV (k x : Int) : List UInt8 := if mayV k x then (if k = 0 then [110, 105, 108] else if k = 1 then Lib.itoa x else 64 :: Lib.itoa x) else [63]
def wordV (k x : Int) : Int := if mayV k x then 4 * x % 18446744073709551616 + k else 0
def wdV (v : Val) : Int := wordV v.kind v.x
theorem shl_u2 (x : Int) : shiftOp .shl .u64 (IntKind.u64.wrap x) 2 = some (.int .u64 (4 * x % 18446744073709551616)) := by
  rw [shift_shl _ _ _ (by decide)]
  have h : ∀ y : Int, IntKind.u64.wrap y = y % 18446744073709551616 := fun y => rfl
  simp only [h]
  have : (2 : Int) ^ (min (2 : Int).toNat IntKind.u64.bits) = 4 := by decide
  rw [this]
  congr 2
  omega
theorem or_low {y : Int} (k : Nat) (h0 : 0 ≤ y) (h1 : y < 18446744073709551616) (h4 : y % 4 = 0) (hk : k < 4) : intOp .or .u64 y (k : Int) = some (.int .u64 (y + k)) := by
  obtain ⟨n, rfl⟩ := Int.eq_ofNat_of_zero_le h0
  rw [or_nat (by omega) (by omega)]
  congr 2
  have : n = 4 * (n / 4) := by omega
  rw [this, show 4 * (n / 4) = 2 ^ 2 * (n / 4) by omega, ← Nat.two_pow_add_eq_or_of_lt (by omega)]
  push_cast
  rfl
theorem or_1 (x : Int) : intOp .or .u64 (4 * x % 18446744073709551616) 1 = some (.int .u64 (4 * x % 18446744073709551616 + 1)) := or_low 1 (by omega) (by omega) (by omega) (by omega)
theorem or_2 (x : Int) : intOp .or .u64 (4 * x % 18446744073709551616) 2 = some (.int .u64 (4 * x % 18446744073709551616 + 2)) := or_low 2 (by omega) (by omega) (by omega) (by omega)
theorem fn55 : E.fn.get 55 = some Tryz.f55 := by kernel_rfl
theorem venc (H : Heap) (hlo : H.lo ≤ H.next) (v : Val) : CallA E (fnv 55) [.agg #[.int .i64 v.kind, .int .i64 v.x]] H fun r H' => r = .tuple #[.int .u64 (wdV v), .int .i64 (if okVal v then 0 else 1)] ∧ Same H H' := by
  refine callA_fn (by kernel_rfl) fn55 rfl rfl ?_
  simp only [Tryz.f55]
  repeat' (first | refine boolP_dec (fun _ => ?_) (fun _ => ?_) | apply boolP_not | refine boolP_b (fun _ => ?_) (fun _ => ?_) | simp (maxSteps := 1000000) (disch := first | omega | (simp only [lenS, *]; omega)) only [↓sgg, sww, simprocAttr, sa, shl_u2, or_1, or_2, *])
  all_goals refine ⟨?_, by exact sameW⟩
  all_goals first
    | (have hk : okVal v := by unfold okVal mayV; omega
       have e : wdV v = 4 * v.x % 18446744073709551616 + v.kind := if_pos hk
       rw [if_pos hk, e]
       simp [*]; done)
    | (have hk : ¬okVal v := by unfold okVal mayV; omega
       have e : wdV v = 0 := if_neg hk
       rw [if_neg hk, e]; done)
theorem venc_ok (H : Heap) (hlo : H.lo ≤ H.next) (k x : Int) : CallA E (fnv 55) [.agg #[.int .i64 k, .int .i64 x]] H fun r H' => r = .tuple #[.int .u64 (wordV k x), .int .i64 (if mayV k x then 0 else 1)] ∧ Same H H' := venc H hlo ⟨k, x⟩
theorem may_in {k x : Int} (h : mayV k x) : -9223372036854775808 ≤ x ∧ x ≤ 9223372036854775807 := by unfold mayV at h; omega
theorem may_k {k x : Int} (h : mayV k x) : k = 0 ∨ k = 1 ∨ k = 2 := by unfold mayV at h; omega
theorem fn41 : E.fn.get 41 = some Tryz.f41 := by kernel_rfl
theorem vtext_ok (H : Heap) (hlo : H.lo ≤ H.next) (k x : Int) (h0 : -9223372036854775808 ≤ x) (h1 : x ≤ 9223372036854775807) : CallA E (fnv 41) [.agg #[.int .i64 k, .int .i64 x]] H fun r H' => r = .string (B (textV k x)) ∧ Same H H' := by
  refine callA_fn (by kernel_rfl) fn41 rfl rfl ?_
  simp only [Tryz.f41]
  have hl := itoa_len h0 h1
  by_cases h : mayV k x
  · have hd : (if mayV k x then (0 : Int) else 1) = 0 := if_pos h
    rcases may_k h with rfl | rfl | rfl
    · have e : textV 0 x = [110, 105, 108] := (if_pos h).trans (if_pos rfl)
      repeat' (first | refine boolP_dec (fun _ => ?_) (fun _ => ?_) | apply boolP_not | refine boolP_b (fun _ => ?_) (fun _ => ?_) | ((with_reducible show CallA _ _ _ _ _); (first | refine call_ko (H0 := H) koW (venc_ok _ loW _ _) ?_ | refine call_ko (H0 := H) koW (form_ok _ x h0 h1) ?_); intro H2 k2 l2 n2 g2 q2; try simp (disch := omega) only [sm, sl] at l2 n2 g2 q2) | simp (maxSteps := 1000000) (disch := first | omega | (simp only [lenS, *]; omega)) only [↓sgg, sww, simprocAttr, sa, sS, *])
      all_goals first | (first | (with_reducible exact sameW) | ((with_reducible show _ ∧ _); exact ⟨by first | rfl | (simp [*] <;> omega), sameW⟩)) | omega
    · have e : textV 1 x = Lib.itoa x := (if_pos h).trans ((if_neg (by decide)).trans (if_pos rfl))
      repeat' (first | refine boolP_dec (fun _ => ?_) (fun _ => ?_) | apply boolP_not | refine boolP_b (fun _ => ?_) (fun _ => ?_) | ((with_reducible show CallA _ _ _ _ _); (first | refine call_ko (H0 := H) koW (venc_ok _ loW _ _) ?_ | refine call_ko (H0 := H) koW (form_ok _ x h0 h1) ?_); intro H2 k2 l2 n2 g2 q2; try simp (disch := omega) only [sm, sl] at l2 n2 g2 q2) | simp (maxSteps := 1000000) (disch := first | omega | (simp only [lenS, *]; omega)) only [↓sgg, sww, simprocAttr, sa, sS, *])
      all_goals first | (first | (with_reducible exact sameW) | ((with_reducible show _ ∧ _); exact ⟨by first | rfl | (simp [*] <;> omega), sameW⟩)) | omega
    · have e : textV 2 x = 64 :: Lib.itoa x := (if_pos h).trans ((if_neg (by decide)).trans (if_neg (by decide)))
      repeat' (first | refine boolP_dec (fun _ => ?_) (fun _ => ?_) | apply boolP_not | refine boolP_b (fun _ => ?_) (fun _ => ?_) | ((with_reducible show CallA _ _ _ _ _); (first | refine call_ko (H0 := H) koW (venc_ok _ loW _ _) ?_ | refine call_ko (H0 := H) koW (form_ok _ x h0 h1) ?_); intro H2 k2 l2 n2 g2 q2; try simp (disch := omega) only [sm, sl] at l2 n2 g2 q2) | simp (maxSteps := 1000000) (disch := first | omega | (simp only [lenS, *]; omega)) only [↓sgg, sww, simprocAttr, sa, sS, *])
      all_goals first | (first | (with_reducible exact sameW) | ((with_reducible show _ ∧ _); exact ⟨by first | rfl | (simp [*] <;> omega), sameW⟩)) | omega
  · have e : textV k x = [63] := if_neg h
    have hd : (if mayV k x then (0 : Int) else 1) = 1 := if_neg h
    repeat' (first | refine boolP_dec (fun _ => ?_) (fun _ => ?_) | apply boolP_not | refine boolP_b (fun _ => ?_) (fun _ => ?_) | ((with_reducible show CallA _ _ _ _ _); (first | refine call_ko (H0 := H) koW (venc_ok _ loW _ _) ?_ | refine call_ko (H0 := H) koW (form_ok _ x h0 h1) ?_); intro H2 k2 l2 n2 g2 q2; try simp (disch := omega) only [sm, sl] at l2 n2 g2 q2) | simp (maxSteps := 1000000) (disch := first | omega | (simp only [lenS, *]; omega)) only [↓sgg, sww, simprocAttr, sa, sS, *])
    all_goals first | (first | (with_reducible exact sameW) | ((with_reducible show _ ∧ _); exact ⟨by first | rfl | (simp [*] <;> omega), sameW⟩)) | omega
end Go.AM
