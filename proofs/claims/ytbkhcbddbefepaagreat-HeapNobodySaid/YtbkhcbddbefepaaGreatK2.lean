/-
  Walks over letters of the functions that the law reaches.
-/
import Derived.Test.YtbkhcbddbefepaaGreatB1
namespace Go.AM
attribute [local instance] fnMaps
open Go Go.Proofs
set_option maxRecDepth 100000
set_option maxHeartbeats 1000000
set_option linter.unusedSimpArgs false
theorem fn86 : E.fn.get 86 = some Tryz.f86 := by kernel_rfl
theorem fn85 : E.fn.get 85 = some Tryz.f85 := by kernel_rfl
theorem fn134 : E.fn.get 134 = some Tryz.f134 := by kernel_rfl
theorem fn56 : E.fn.get 56 = some Tryz.f56 := by kernel_rfl
theorem bv_nat {a : Nat} (h : a < 2 ^ 64) : (BitVec.ofInt 64 (a : Int)).toNat = a := by
  rw [BitVec.ofInt_natCast, BitVec.toNat_ofNat, Nat.mod_eq_of_lt h]
theorem and_nat {a b : Nat} (ha : a < 2 ^ 64) (hb : b < 2 ^ 64) : intOp .and .u64 (a : Int) (b : Int) = some (.int .u64 ((a &&& b : Nat) : Int)) := by
  have e : intOp .and .u64 (a : Int) (b : Int) = intR .u64 (((BitVec.ofInt 64 (a : Int) &&& BitVec.ofInt 64 (b : Int)).toNat : Nat) : Int) := rfl
  rw [e, BitVec.toNat_and, bv_nat ha, bv_nat hb, intR_some, wrap_u64 (by omega)]
  have : a &&& b ≤ a := Nat.and_le_left
  have h64 : (2 : Nat) ^ 64 = 18446744073709551616 := by decide
  omega
theorem or_nat {a b : Nat} (ha : a < 2 ^ 64) (hb : b < 2 ^ 64) : intOp .or .u64 (a : Int) (b : Int) = some (.int .u64 ((a ||| b : Nat) : Int)) := by
  have e : intOp .or .u64 (a : Int) (b : Int) = intR .u64 (((BitVec.ofInt 64 (a : Int) ||| BitVec.ofInt 64 (b : Int)).toNat : Nat) : Int) := rfl
  rw [e, BitVec.toNat_or, bv_nat ha, bv_nat hb, intR_some, wrap_u64 (by omega)]
  have : a ||| b < 2 ^ 64 := Nat.or_lt_two_pow ha hb
  have h64 : (2 : Nat) ^ 64 = 18446744073709551616 := by decide
  omega
def andNot (a b : Nat) : Nat := a &&& (2 ^ 64 - 1 - b)
theorem andnot_nat {a b : Nat} (ha : a < 2 ^ 64) (hb : b < 2 ^ 64) : intOp .andNot .u64 (a : Int) (b : Int) = some (.int .u64 ((andNot a b : Nat) : Int)) := by
  have e : intOp .andNot .u64 (a : Int) (b : Int) = intR .u64 (((BitVec.ofInt 64 (a : Int) &&& ~~~BitVec.ofInt 64 (b : Int)).toNat : Nat) : Int) := rfl
  rw [e, BitVec.toNat_and, BitVec.toNat_not, bv_nat ha, bv_nat hb, intR_some, wrap_u64 (by omega)]
  · rfl
  · have : a &&& (2 ^ 64 - 1 - b) ≤ a := Nat.and_le_left
    have h64 : (2 : Nat) ^ 64 = 18446744073709551616 := by decide
    omega
theorem bits64 : IntKind.u64.bits = 64 := rfl
theorem shr_nat {a n : Nat} (ha : a < 2 ^ 64) (hn : n < 64) : shiftOp .shr .u64 (a : Int) (n : Int) = some (.int .u64 ((a / 2 ^ n : Nat) : Int)) := by
  rw [shift_shr _ _ _ (by omega), bits64, Int.toNat_natCast, Nat.min_eq_left (by omega)]
  congr 2
  rw [Int.fdiv_eq_ediv_of_nonneg _ (Int.pow_nonneg (by decide))]
  norm_cast
theorem shl_nat {a n : Nat} (hn : n < 64) (h : a * 2 ^ n < 2 ^ 64) : shiftOp .shl .u64 (a : Int) (n : Int) = some (.int .u64 ((a * 2 ^ n : Nat) : Int)) := by
  rw [shift_shl _ _ _ (by omega), bits64, Int.toNat_natCast, Nat.min_eq_left (by omega)]
  have e : (a : Int) * 2 ^ n = ((a * 2 ^ n : Nat) : Int) := by norm_cast
  have h64 : (2 : Nat) ^ 64 = 18446744073709551616 := by decide
  rw [e, wrap_u64 (by omega) (by omega)]
def maskN (n : Nat) : Nat := if 64 ≤ n then 18446744073709551615 else 2 ^ n - 1
theorem maskN_lt (n : Nat) : maskN n < 2 ^ 64 := by
  unfold maskN
  split
  · decide
  · have : 2 ^ n ≤ 2 ^ 64 := Nat.pow_le_pow_right (by omega) (by omega)
    have : 0 < 2 ^ n := Nat.pow_pos (by omega)
    omega
theorem mask_ok (H : Heap) (n : Nat) : CallA E (fnv 86) [.int .i64 (n : Int)] H fun r H' => r = .int .u64 (maskN n : Nat) ∧ H' = H := by
  refine callA_fn (by kernel_rfl) fn86 rfl rfl ?_
  simp only [Tryz.f86]
  by_cases h : 64 ≤ n
  · have d : decide ((64 : Int) ≤ (n : Int)) = true := by rw [decide_eq_true_iff]; omega
    simp (config := { maxSteps := 1000000 }) (disch := omega) only [↓sh, ↓sh2, ↓reduceIte, sx, sl, sb, st, nbeq_ne, dle, relo_eq, wrap_i64, Nat.reduceBEq, Nat.reduceLT, Nat.reduceLeDiff, Nat.reduceAdd, Nat.reduceMul, Nat.reduceEqDiff, Int.reduceEq, Int.reduceLT, Int.reduceLE, Int.reduceNeg, Int.reduceToNat, Bool.false_eq_true, eq_self, sa, d]
    rw [maskN, if_pos h]; rfl
  · have d : decide ((64 : Int) ≤ (n : Int)) = false := by rw [decide_eq_false_iff_not]; omega
    have hp : 2 ^ n ≤ 2 ^ 63 := Nat.pow_le_pow_right (by omega) (by omega)
    have hp0 : 0 < 2 ^ n := Nat.pow_pos (by omega)
    have hs := shl_nat (a := 1) (n := n) (by omega) (by rw [Nat.one_mul]; omega)
    rw [Nat.one_mul] at hs
    have hm : maskN n = 2 ^ n - 1 := by rw [maskN, if_neg h]
    rw [hm]
    generalize 2 ^ n = p at hs hp hp0
    have hw : IntKind.u64.wrap ((p : Int) - 1) = ((p - 1 : Nat) : Int) := by rw [wrap_u64 (by omega) (by omega)]; omega
    replace hs : shiftOp .shl .u64 1 (n : Int) = some (.int .u64 (p : Int)) := hs
    simp (config := { maxSteps := 1000000 }) (disch := omega) only [↓sh, ↓sh2, ↓reduceIte, sx, sl, sb, st, nbeq_ne, dle, relo_eq, wrap_i64, Nat.reduceBEq, Nat.reduceLT, Nat.reduceLeDiff, Nat.reduceAdd, Nat.reduceMul, Nat.reduceEqDiff, Int.reduceEq, Int.reduceLT, Int.reduceLE, Int.reduceNeg, Int.reduceToNat, Bool.false_eq_true, eq_self, sa, d, hs, hw]
def partW (a n : Int) : Bool := if decide (0 ≤ a) then if decide (a < 64) then if decide (1 ≤ n) then decide (n ≤ 64 - a) else false else false else false
theorem partW_in {a n : Int} (h : partW a n = true) : 0 ≤ a ∧ a < 64 ∧ 1 ≤ n ∧ n ≤ 64 - a := by
  simp [partW] at h
  omega
theorem wpart_ok (H : Heap) (hlo : H.lo ≤ H.next) (a n : Int) : CallA E (fnv 85) [.int .i64 a, .int .i64 n] H fun r H' => r = .bool (partW a n) ∧ Same H H' := by
  refine callA_fn (by kernel_rfl) fn85 rfl rfl ?_
  simp only [Tryz.f85]
  cases x0 : decide (0 ≤ a)
  case false =>
    simp (config := { maxSteps := 1000000 }) (disch := omega) only [↓sh, ↓sh2, ↓reduceIte, sx, sl, sb, st, nbeq_ne, dle, relo_eq, wrap_i64, Nat.reduceBEq, Nat.reduceLT, Nat.reduceLeDiff, Nat.reduceAdd, Nat.reduceMul, Nat.reduceEqDiff, Int.reduceEq, Int.reduceLT, Int.reduceLE, Int.reduceNeg, Int.reduceToNat, Bool.false_eq_true, eq_self, sa, x0]
    exact ⟨by simp only [partW, x0]; rfl, Same.refl _⟩
  cases x1 : decide (a < 64)
  case false =>
    simp (config := { maxSteps := 1000000 }) (disch := omega) only [↓sh, ↓sh2, ↓reduceIte, sx, sl, sb, st, nbeq_ne, dle, relo_eq, wrap_i64, Nat.reduceBEq, Nat.reduceLT, Nat.reduceLeDiff, Nat.reduceAdd, Nat.reduceMul, Nat.reduceEqDiff, Int.reduceEq, Int.reduceLT, Int.reduceLE, Int.reduceNeg, Int.reduceToNat, Bool.false_eq_true, eq_self, sa, x0, x1]
    exact ⟨by simp only [partW, x0, x1]; rfl, Same.refl _⟩
  cases x2 : decide (1 ≤ n)
  case false =>
    simp (config := { maxSteps := 1000000 }) (disch := omega) only [↓sh, ↓sh2, ↓reduceIte, sx, sl, sb, st, nbeq_ne, dle, relo_eq, wrap_i64, Nat.reduceBEq, Nat.reduceLT, Nat.reduceLeDiff, Nat.reduceAdd, Nat.reduceMul, Nat.reduceEqDiff, Int.reduceEq, Int.reduceLT, Int.reduceLE, Int.reduceNeg, Int.reduceToNat, Bool.false_eq_true, eq_self, sa, x0, x1, x2]
    exact ⟨by simp only [partW, x0, x1, x2]; rfl, Same.refl _⟩
  have hw0 : 0 ≤ a := by simpa using x0
  have hw1 : a < 64 := by simpa using x1
  simp (config := { maxSteps := 1000000 }) (disch := omega) only [↓sh, ↓sh2, ↓reduceIte, sx, sl, sb, st, nbeq_ne, dle, relo_eq, wrap_i64, Nat.reduceBEq, Nat.reduceLT, Nat.reduceLeDiff, Nat.reduceAdd, Nat.reduceMul, Nat.reduceEqDiff, Int.reduceEq, Int.reduceLT, Int.reduceLE, Int.reduceNeg, Int.reduceToNat, Bool.false_eq_true, eq_self, sa, x0, x1, x2]
  exact ⟨by simp only [partW, x0, x1, x2]; rfl, Same.refl _⟩
end Go.AM
