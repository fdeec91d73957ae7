/-
  Walks over letters of the functions that the law reaches.
-/
import Derived.Test.YtfaplhodeekjnaaGreatB1
namespace Go.AM
attribute [local instance] fnMaps
open Go Go.Proofs
set_option maxRecDepth 100000
set_option maxHeartbeats 1000000
set_option linter.unusedSimpArgs false
theorem fn38 : E.fn.get 38 = some Tryz.f38 := by kernel_rfl
theorem fn37 : E.fn.get 37 = some Tryz.f37 := by kernel_rfl
theorem fn85 : E.fn.get 85 = some Tryz.f85 := by kernel_rfl
theorem fn19 : E.fn.get 19 = some Tryz.f19 := by kernel_rfl
theorem bv_nat {a : Nat} (h : a < 2 ^ 64) : (BitVec.ofInt 64 (a : Int)).toNat = a := by
  rw [BitVec.ofInt_natCast, BitVec.toNat_ofNat, Nat.mod_eq_of_lt h]
theorem and_nat {a b : Nat} (ha : a < 2 ^ 64) (hb : b < 2 ^ 64) : intOp .and .u64 (a : Int) (b : Int) = some (.int .u64 ((a &&& b : Nat) : Int)) := by
  have e : intOp .and .u64 (a : Int) (b : Int) = intR .u64 (((BitVec.ofInt 64 (a : Int) &&& BitVec.ofInt 64 (b : Int)).toNat : Nat) : Int) := rfl
  rw [e, BitVec.toNat_and, bv_nat ha, bv_nat hb, intR_some, wrap_u64 (by omega)]
  have : a &&& b ≤ a := Nat.and_le_left
  have h64 : (2 : Nat) ^ 64 = 18446744073709551616 := by decide
  omega
theorem or_nat {a b : Nat} (ha : a < 2 ^ 64) (hb : b < 2 ^ 64) : intOp .or .u64 (a : Int) (b : Int) = some (.int .u64 ((a ||| b : Nat) : Int)) := by
  have e : intOp .or .u64 (a : Int) (b : Int) = intR .u64 (((BitVec.ofInt 64 (a : Int) ||| BitVec.ofInt 64 (b : Int)).toNat : Nat) : Int) := rfl
  rw [e, BitVec.toNat_or, bv_nat ha, bv_nat hb, intR_some, wrap_u64 (by omega)]
  have : a ||| b < 2 ^ 64 := Nat.or_lt_two_pow ha hb
  have h64 : (2 : Nat) ^ 64 = 18446744073709551616 := by decide
  omega
def andNot (a b : Nat) : Nat := a &&& (2 ^ 64 - 1 - b)
theorem andnot_nat {a b : Nat} (ha : a < 2 ^ 64) (hb : b < 2 ^ 64) : intOp .andNot .u64 (a : Int) (b : Int) = some (.int .u64 ((andNot a b : Nat) : Int)) := by
  have e : intOp .andNot .u64 (a : Int) (b : Int) = intR .u64 (((BitVec.ofInt 64 (a : Int) &&& ~~~BitVec.ofInt 64 (b : Int)).toNat : Nat) : Int) := rfl
  rw [e, BitVec.toNat_and, BitVec.toNat_not, bv_nat ha, bv_nat hb, intR_some, wrap_u64 (by omega)]
  · rfl
  · have : a &&& (2 ^ 64 - 1 - b) ≤ a := Nat.and_le_left
    have h64 : (2 : Nat) ^ 64 = 18446744073709551616 := by decide
    omega
theorem bits64 : IntKind.u64.bits = 64 := rfl
theorem shr_nat {a n : Nat} (ha : a < 2 ^ 64) (hn : n < 64) : shiftOp .shr .u64 (a : Int) (n : Int) = some (.int .u64 ((a / 2 ^ n : Nat) : Int)) := by
  rw [shift_shr _ _ _ (by omega), bits64, Int.toNat_natCast, Nat.min_eq_left (by omega)]
  congr 2
  rw [Int.fdiv_eq_ediv_of_nonneg _ (Int.pow_nonneg (by decide))]
  norm_cast
theorem shl_nat {a n : Nat} (hn : n < 64) (h : a * 2 ^ n < 2 ^ 64) : shiftOp .shl .u64 (a : Int) (n : Int) = some (.int .u64 ((a * 2 ^ n : Nat) : Int)) := by
  rw [shift_shl _ _ _ (by omega), bits64, Int.toNat_natCast, Nat.min_eq_left (by omega)]
  have e : (a : Int) * 2 ^ n = ((a * 2 ^ n : Nat) : Int) := by norm_cast
  have h64 : (2 : Nat) ^ 64 = 18446744073709551616 := by decide
  rw [e, wrap_u64 (by omega) (by omega)]
def maskN (n : Nat) : Nat := if 64 ≤ n then 18446744073709551615 else 2 ^ n - 1
theorem maskN_lt (n : Nat) : maskN n < 2 ^ 64 := by
  unfold maskN
  split
  · decide
  · have : 2 ^ n ≤ 2 ^ 64 := Nat.pow_le_pow_right (by omega) (by omega)
    have : 0 < 2 ^ n := Nat.pow_pos (by omega)
    omega
theorem mask_ok (H : Heap) (n : Nat) : CallA E (fnv 38) [.int .i64 (n : Int)] H fun r H' => r = .int .u64 (maskN n : Nat) ∧ H' = H := by
  refine callA_fn (by kernel_rfl) fn38 rfl rfl ?_
  simp only [Tryz.f38]
  by_cases h : 64 ≤ n
  · have d : decide ((64 : Int) ≤ (n : Int)) = true := by rw [decide_eq_true_iff]; omega
    simp (config := { maxSteps := 1000000 }) (disch := omega) only [↓sh, ↓sh2, ↓reduceIte, sx, sl, sb, st, nbeq_ne, dle, relo_eq, wrap_i64, Nat.reduceBEq, Nat.reduceLT, Nat.reduceLeDiff, Nat.reduceAdd, Nat.reduceMul, Nat.reduceEqDiff, Int.reduceEq, Int.reduceLT, Int.reduceLE, Int.reduceNeg, Int.reduceToNat, Bool.false_eq_true, eq_self, sa, d]
    rw [maskN, if_pos h]; rfl
  · have d : decide ((64 : Int) ≤ (n : Int)) = false := by rw [decide_eq_false_iff_not]; omega
    have hp : 2 ^ n ≤ 2 ^ 63 := Nat.pow_le_pow_right (by omega) (by omega)
    have hp0 : 0 < 2 ^ n := Nat.pow_pos (by omega)
    have hs := shl_nat (a := 1) (n := n) (by omega) (by rw [Nat.one_mul]; omega)
    rw [Nat.one_mul] at hs
    have hm : maskN n = 2 ^ n - 1 := by rw [maskN, if_neg h]
    rw [hm]
    generalize 2 ^ n = p at hs hp hp0
    have hw : IntKind.u64.wrap ((p : Int) - 1) = ((p - 1 : Nat) : Int) := by rw [wrap_u64 (by omega) (by omega)]; omega
    replace hs : shiftOp .shl .u64 1 (n : Int) = some (.int .u64 (p : Int)) := hs
    simp (config := { maxSteps := 1000000 }) (disch := omega) only [↓sh, ↓sh2, ↓reduceIte, sx, sl, sb, st, nbeq_ne, dle, relo_eq, wrap_i64, Nat.reduceBEq, Nat.reduceLT, Nat.reduceLeDiff, Nat.reduceAdd, Nat.reduceMul, Nat.reduceEqDiff, Int.reduceEq, Int.reduceLT, Int.reduceLE, Int.reduceNeg, Int.reduceToNat, Bool.false_eq_true, eq_self, sa, d, hs, hw]
def partW (a n : Int) : Bool := if decide (0 ≤ a) then if decide (a < 64) then if decide (1 ≤ n) then decide (n ≤ 64 - a) else false else false else false
theorem partW_in {a n : Int} (h : partW a n = true) : 0 ≤ a ∧ a < 64 ∧ 1 ≤ n ∧ n ≤ 64 - a := by
  simp [partW] at h
  omega
theorem wpart_ok (H : Heap) (hlo : H.lo ≤ H.next) (a n : Int) : CallA E (fnv 37) [.int .i64 a, .int .i64 n] H fun r H' => r = .bool (partW a n) ∧ Same H H' := by
  refine callA_fn (by kernel_rfl) fn37 rfl rfl ?_
  simp only [Tryz.f37]
  cases x0 : decide (0 ≤ a)
  case false =>
    simp (config := { maxSteps := 1000000 }) (disch := omega) only [↓sh, ↓sh2, ↓reduceIte, sx, sl, sb, st, nbeq_ne, dle, relo_eq, wrap_i64, Nat.reduceBEq, Nat.reduceLT, Nat.reduceLeDiff, Nat.reduceAdd, Nat.reduceMul, Nat.reduceEqDiff, Int.reduceEq, Int.reduceLT, Int.reduceLE, Int.reduceNeg, Int.reduceToNat, Bool.false_eq_true, eq_self, sa, x0]
    exact ⟨by simp only [partW, x0]; rfl, Same.refl _⟩
  cases x1 : decide (a < 64)
  case false =>
    simp (config := { maxSteps := 1000000 }) (disch := omega) only [↓sh, ↓sh2, ↓reduceIte, sx, sl, sb, st, nbeq_ne, dle, relo_eq, wrap_i64, Nat.reduceBEq, Nat.reduceLT, Nat.reduceLeDiff, Nat.reduceAdd, Nat.reduceMul, Nat.reduceEqDiff, Int.reduceEq, Int.reduceLT, Int.reduceLE, Int.reduceNeg, Int.reduceToNat, Bool.false_eq_true, eq_self, sa, x0, x1]
    exact ⟨by simp only [partW, x0, x1]; rfl, Same.refl _⟩
  cases x2 : decide (1 ≤ n)
  case false =>
    simp (config := { maxSteps := 1000000 }) (disch := omega) only [↓sh, ↓sh2, ↓reduceIte, sx, sl, sb, st, nbeq_ne, dle, relo_eq, wrap_i64, Nat.reduceBEq, Nat.reduceLT, Nat.reduceLeDiff, Nat.reduceAdd, Nat.reduceMul, Nat.reduceEqDiff, Int.reduceEq, Int.reduceLT, Int.reduceLE, Int.reduceNeg, Int.reduceToNat, Bool.false_eq_true, eq_self, sa, x0, x1, x2]
    exact ⟨by simp only [partW, x0, x1, x2]; rfl, Same.refl _⟩
  have hw0 : 0 ≤ a := by simpa using x0
  have hw1 : a < 64 := by simpa using x1
  simp (config := { maxSteps := 1000000 }) (disch := omega) only [↓sh, ↓sh2, ↓reduceIte, sx, sl, sb, st, nbeq_ne, dle, relo_eq, wrap_i64, Nat.reduceBEq, Nat.reduceLT, Nat.reduceLeDiff, Nat.reduceAdd, Nat.reduceMul, Nat.reduceEqDiff, Int.reduceEq, Int.reduceLT, Int.reduceLE, Int.reduceNeg, Int.reduceToNat, Bool.false_eq_true, eq_self, sa, x0, x1, x2]
  exact ⟨by simp only [partW, x0, x1, x2]; rfl, Same.refl _⟩
end Go.AM
namespace Go.AM
attribute [local instance] fnMaps
open Go Go.Proofs
set_option maxRecDepth 100000
set_option maxHeartbeats 1000000
set_option linter.unusedSimpArgs false
theorem high_bit {x i : Nat} (hx : x < 2 ^ 64) (hi : 64 ≤ i) : x.testBit i = false := Nat.testBit_lt_two_pow (Nat.lt_of_lt_of_le hx (Nat.pow_le_pow_right (by omega) hi))
theorem andNot_bit {a b : Nat} (ha : a < 2 ^ 64) (hb : b < 2 ^ 64) (i : Nat) : (andNot a b).testBit i = (a.testBit i && !b.testBit i) := by
  rw [andNot, show 2 ^ 64 - 1 - b = 2 ^ 64 - (b + 1) by omega, Nat.testBit_and, Nat.testBit_two_pow_sub_succ hb]
  by_cases h : i < 64
  · simp [h]
  · rw [high_bit ha (by omega)]; simp
theorem andNot_mask {x n : Nat} (hx : x < 2 ^ 64) (hn : n < 64) : andNot x (2 ^ n - 1) = x / 2 ^ n * 2 ^ n := by
  have hm : 2 ^ n - 1 < 2 ^ 64 := by
    have : 2 ^ n ≤ 2 ^ 64 := Nat.pow_le_pow_right (by omega) (by omega)
    have : 0 < 2 ^ n := Nat.pow_pos (by omega)
    omega
  refine Nat.eq_of_testBit_eq fun i => ?_
  rw [andNot_bit hx hm, Nat.testBit_two_pow_sub_one, ← Nat.shiftRight_eq_div_pow, ← Nat.shiftLeft_eq, Nat.testBit_shiftLeft, Nat.testBit_shiftRight]
  by_cases h : i < n
  · simp [h, show ¬ n ≤ i by omega]
  · simp [h, show n ≤ i by omega, show n + (i - n) = i by omega]
theorem small_iff {x n : Nat} (hx : x < 2 ^ 64) (hn : n ≤ 64) : andNot x (maskN n) = 0 ↔ x < 2 ^ n := by
  unfold maskN
  by_cases h : 64 ≤ n
  · have : n = 64 := by omega
    subst this
    rw [if_pos h]
    constructor
    · intro _; exact hx
    · intro _
      show x &&& (2 ^ 64 - 1 - 18446744073709551615) = 0
      simp
  · rw [if_neg h, andNot_mask hx (by omega)]
    have hp : 0 < 2 ^ n := Nat.pow_pos (by omega)
    constructor
    · intro h0
      rcases Nat.mul_eq_zero.1 h0 with h1 | h1
      · exact (Nat.div_eq_zero_iff_lt hp).1 h1
      · omega
    · intro h1
      rw [Nat.div_eq_of_lt h1, Nat.zero_mul]
def getW (w a n : Nat) : Nat := w / 2 ^ a % 2 ^ n
theorem and_mask {x n : Nat} (hx : x < 2 ^ 64) (hn : n ≤ 64) : x &&& maskN n = x % 2 ^ n := by
  unfold maskN
  by_cases h : 64 ≤ n
  · have : n = 64 := by omega
    subst this
    rw [if_pos h, show (18446744073709551615 : Nat) = 2 ^ 64 - 1 by decide, Nat.and_two_pow_sub_one_eq_mod]
  · rw [if_neg h, Nat.and_two_pow_sub_one_eq_mod]
theorem get_ok (H : Heap) (hlo : H.lo ≤ H.next) (w : Nat) (hw : w < 2 ^ 64) (a n : Int) : CallA E (fnv 85) [.int .u64 (w : Int), .int .i64 a, .int .i64 n] H fun r H' => r = .tuple #[.int .u64 ((if partW a n then getW w a.toNat n.toNat else 0 : Nat) : Int), .bool (partW a n)] ∧ Same H H' := by
  refine callA_fn (by kernel_rfl) fn85 rfl rfl ?_
  simp only [Tryz.f85]
  simp (config := { maxSteps := 1000000 }) (disch := omega) only [↓sh, ↓sh2, ↓reduceIte, sx, sl, sb, st, nbeq_ne, dle, relo_eq, wrap_i64, Nat.reduceBEq, Nat.reduceLT, Nat.reduceLeDiff, Nat.reduceAdd, Nat.reduceMul, Nat.reduceEqDiff, Int.reduceEq, Int.reduceLT, Int.reduceLE, Int.reduceNeg, Int.reduceToNat, Bool.false_eq_true, eq_self, sa]
  refine (wpart_ok H hlo a n).mono ?_
  rintro r H2 ⟨rfl, s2⟩
  cases hp : partW a n
  case false =>
    simp (config := { maxSteps := 1000000 }) (disch := omega) only [↓sh, ↓sh2, ↓reduceIte, sx, sl, sb, st, nbeq_ne, dle, relo_eq, wrap_i64, Nat.reduceBEq, Nat.reduceLT, Nat.reduceLeDiff, Nat.reduceAdd, Nat.reduceMul, Nat.reduceEqDiff, Int.reduceEq, Int.reduceLT, Int.reduceLE, Int.reduceNeg, Int.reduceToNat, Bool.false_eq_true, eq_self, sa]
    exact ⟨rfl, s2⟩
  obtain ⟨h1, h2, h3, h4⟩ := partW_in hp
  obtain ⟨A, rfl⟩ : ∃ A : Nat, a = A := ⟨a.toNat, by omega⟩
  obtain ⟨N, rfl⟩ : ∃ N : Nat, n = N := ⟨n.toNat, by omega⟩
  have hs := shr_nat hw (n := A) (by omega)
  have hd : w / 2 ^ A < 2 ^ 64 := Nat.lt_of_le_of_lt (Nat.div_le_self _ _) hw
  have ha := and_nat hd (maskN_lt N)
  rw [and_mask hd (by omega)] at ha
  have l2 := s2.lo
  simp only [Int.toNat_natCast, if_true, getW]
  generalize w / 2 ^ A % 2 ^ N = res at ha
  generalize w / 2 ^ A = q at hs ha hd
  simp (config := { maxSteps := 1000000 }) (disch := omega) only [↓sh, ↓sh2, ↓reduceIte, sx, sl, sb, st, nbeq_ne, dle, relo_eq, wrap_i64, Nat.reduceBEq, Nat.reduceLT, Nat.reduceLeDiff, Nat.reduceAdd, Nat.reduceMul, Nat.reduceEqDiff, Int.reduceEq, Int.reduceLT, Int.reduceLE, Int.reduceNeg, Int.reduceToNat, Bool.false_eq_true, eq_self, sa]
  refine wps_draw [(false, [], []), (false, [], []), (false, [], []), (false, [], []), (false, [], []), (false, [], []), (false, [], []), (false, [], [])] (by kernel_rfl) ?_
  simp (config := { maxSteps := 1000000 }) (disch := omega) only [↓sh, ↓sh2, ↓reduceIte, sx, sl, sb, st, nbeq_ne, dle, relo_eq, wrap_i64, Nat.reduceBEq, Nat.reduceLT, Nat.reduceLeDiff, Nat.reduceAdd, Nat.reduceMul, Nat.reduceEqDiff, Int.reduceEq, Int.reduceLT, Int.reduceLE, Int.reduceNeg, Int.reduceToNat, Bool.false_eq_true, eq_self, sa, hs]
  refine (mask_ok _ N).mono ?_
  rintro r H3 ⟨rfl, rfl⟩
  simp (config := { maxSteps := 1000000 }) (disch := omega) only [↓sh, ↓sh2, ↓reduceIte, sx, sl, sb, st, nbeq_ne, dle, relo_eq, wrap_i64, Nat.reduceBEq, Nat.reduceLT, Nat.reduceLeDiff, Nat.reduceAdd, Nat.reduceMul, Nat.reduceEqDiff, Int.reduceEq, Int.reduceLT, Int.reduceLE, Int.reduceNeg, Int.reduceToNat, Bool.false_eq_true, eq_self, sa, ha]
  exact s2
end Go.AM
namespace Go.AM
attribute [local instance] fnMaps
open Go Go.Proofs
set_option maxRecDepth 100000
set_option maxHeartbeats 1000000
set_option linter.unusedSimpArgs false
theorem shl_lt {x N A : Nat} (hx : x < 2 ^ N) (h : N + A ≤ 64) : x * 2 ^ A < 2 ^ 64 := by
  have h1 : x * 2 ^ A < 2 ^ N * 2 ^ A := Nat.mul_lt_mul_of_pos_right hx (Nat.pow_pos (by omega))
  rw [← Nat.pow_add] at h1
  exact Nat.lt_of_lt_of_le h1 (Nat.pow_le_pow_right (by omega) h)
theorem maskN_bits {N : Nat} (h : N ≤ 64) : maskN N < 2 ^ N := by
  unfold maskN
  by_cases h6 : 64 ≤ N
  · have : N = 64 := by omega
    subst this
    rw [if_pos h6]; decide
  · rw [if_neg h6]
    have : 0 < 2 ^ N := Nat.pow_pos (by omega)
    omega
def putW (w a n x : Nat) : Nat := andNot w (maskN n * 2 ^ a) ||| (x * 2 ^ a)
theorem andNot_lt {a b : Nat} (h : a < 2 ^ 64) : andNot a b < 2 ^ 64 := Nat.lt_of_le_of_lt Nat.and_le_left h
theorem put_above {w a n x : Nat} (hw : w < 2 ^ a) (hn : n + a ≤ 64) : putW w a n x = w + x * 2 ^ a := by
  have hw64 : w < 2 ^ 64 := Nat.lt_of_lt_of_le hw (Nat.pow_le_pow_right (by omega) (by omega))
  have e : andNot w (maskN n * 2 ^ a) = w := by
    refine Nat.eq_of_testBit_eq fun i => ?_
    rw [andNot_bit hw64 (shl_lt (maskN_bits (by omega)) hn), ← Nat.shiftLeft_eq, Nat.testBit_shiftLeft]
    by_cases h : a ≤ i
    · rw [Nat.testBit_lt_two_pow (Nat.lt_of_lt_of_le hw (Nat.pow_le_pow_right (by omega) h))]; rfl
    · simp [h]
  rw [putW, e, Nat.mul_comm, Nat.add_comm]
  rw [Nat.two_pow_add_eq_or_of_lt hw, Nat.or_comm]
def okPut (a n : Int) (x : Nat) : Bool := if partW a n then decide (x < 2 ^ n.toNat) else false
theorem put_ok (H : Heap) (hlo : H.lo ≤ H.next) (w x : Nat) (hw : w < 2 ^ 64) (hx : x < 2 ^ 64) (a n : Int) : CallA E (fnv 19) [.int .u64 (w : Int), .int .i64 a, .int .i64 n, .int .u64 (x : Int)] H fun r H' => r = .tuple #[.int .u64 ((if okPut a n x then putW w a.toNat n.toNat x else 0 : Nat) : Int), .bool (okPut a n x)] ∧ Same H H' := by
  refine callA_fn (by kernel_rfl) fn19 rfl rfl ?_
  simp only [Tryz.f19]
  simp (config := { maxSteps := 1000000 }) (disch := omega) only [↓sh, ↓sh2, ↓reduceIte, sx, sl, sb, st, nbeq_ne, dle, relo_eq, wrap_i64, Nat.reduceBEq, Nat.reduceLT, Nat.reduceLeDiff, Nat.reduceAdd, Nat.reduceMul, Nat.reduceEqDiff, Int.reduceEq, Int.reduceLT, Int.reduceLE, Int.reduceNeg, Int.reduceToNat, Bool.false_eq_true, eq_self, sa, of_4]
  refine (wpart_ok H hlo a n).mono ?_
  rintro r H2 ⟨rfl, s2⟩
  cases hp : partW a n
  case false =>
    simp (config := { maxSteps := 1000000 }) (disch := omega) only [↓sh, ↓sh2, ↓reduceIte, sx, sl, sb, st, nbeq_ne, dle, relo_eq, wrap_i64, Nat.reduceBEq, Nat.reduceLT, Nat.reduceLeDiff, Nat.reduceAdd, Nat.reduceMul, Nat.reduceEqDiff, Int.reduceEq, Int.reduceLT, Int.reduceLE, Int.reduceNeg, Int.reduceToNat, Bool.false_eq_true, eq_self, sa]
    exact ⟨by simp only [okPut, hp]; rfl, s2⟩
  obtain ⟨h1, h2, h3, h4⟩ := partW_in hp
  obtain ⟨A, rfl⟩ : ∃ A : Nat, a = A := ⟨a.toNat, by omega⟩
  obtain ⟨N, rfl⟩ : ∃ N : Nat, n = N := ⟨n.toNat, by omega⟩
  have l2 := s2.lo
  have hok : okPut (A : Int) (N : Int) x = decide (x < 2 ^ N) := by simp only [okPut, hp, if_true, Int.toNat_natCast]
  have hn0 := andnot_nat hx (maskN_lt N)
  simp (config := { maxSteps := 1000000 }) (disch := omega) only [↓sh, ↓sh2, ↓reduceIte, sx, sl, sb, st, nbeq_ne, dle, relo_eq, wrap_i64, Nat.reduceBEq, Nat.reduceLT, Nat.reduceLeDiff, Nat.reduceAdd, Nat.reduceMul, Nat.reduceEqDiff, Int.reduceEq, Int.reduceLT, Int.reduceLE, Int.reduceNeg, Int.reduceToNat, Bool.false_eq_true, eq_self, sa]
  refine (mask_ok _ N).mono ?_
  rintro r H3 ⟨rfl, rfl⟩
  by_cases hxs : x < 2 ^ N
  rotate_left
  · have d0 : decide (((andNot x (maskN N) : Nat) : Int) = 0) = false := by
      rw [decide_eq_false_iff_not]
      intro h0
      exact hxs ((small_iff hx (by omega)).1 (by omega))
    have hok : okPut (A : Int) (N : Int) x = false := by rw [hok]; simpa using hxs
    simp (config := { maxSteps := 1000000 }) (disch := omega) only [↓sh, ↓sh2, ↓reduceIte, sx, sl, sb, st, nbeq_ne, dle, relo_eq, wrap_i64, Nat.reduceBEq, Nat.reduceLT, Nat.reduceLeDiff, Nat.reduceAdd, Nat.reduceMul, Nat.reduceEqDiff, Int.reduceEq, Int.reduceLT, Int.reduceLE, Int.reduceNeg, Int.reduceToNat, Bool.false_eq_true, eq_self, sa, hn0, d0]
    exact ⟨by rw [hok]; rfl, s2⟩
  have d0 : decide (((andNot x (maskN N) : Nat) : Int) = 0) = true := by
    rw [decide_eq_true_iff, (small_iff hx (by omega)).2 hxs]; rfl
  have hok : okPut (A : Int) (N : Int) x = true := by rw [hok]; simpa using hxs
  have hml := shl_lt (maskN_bits (show N ≤ 64 by omega)) (show N + A ≤ 64 by omega)
  have hxl := shl_lt hxs (show N + A ≤ 64 by omega)
  have hs1 := shl_nat (a := maskN N) (n := A) (by omega) hml
  have hs2 := shl_nat (a := x) (n := A) (by omega) hxl
  have hn1 := andnot_nat hw hml
  have hor := or_nat (andNot_lt (b := maskN N * 2 ^ A) hw) hxl
  rw [hok]
  simp only [if_true, Int.toNat_natCast, putW]
  clear hok hml hxl hxs
  generalize maskN N * 2 ^ A = m at hs1 hn1 hor
  generalize x * 2 ^ A = y at hs2 hor
  generalize andNot w m ||| y = z at hor
  generalize andNot w m = q at hn1 hor
  simp (config := { maxSteps := 1000000 }) (disch := omega) only [↓sh, ↓sh2, ↓reduceIte, sx, sl, sb, st, nbeq_ne, dle, relo_eq, wrap_i64, Nat.reduceBEq, Nat.reduceLT, Nat.reduceLeDiff, Nat.reduceAdd, Nat.reduceMul, Nat.reduceEqDiff, Int.reduceEq, Int.reduceLT, Int.reduceLE, Int.reduceNeg, Int.reduceToNat, Bool.false_eq_true, eq_self, sa, hn0, d0]
  refine wps_draw [(false, [], []), (false, [], []), (false, [], []), (false, [], []), (false, [], []), (false, [], []), (false, [], []), (false, [], []), (false, [], []), (false, [], []), (false, [], []), (false, [], [])] (by kernel_rfl) ?_
  simp (config := { maxSteps := 1000000 }) (disch := omega) only [↓sh, ↓sh2, ↓reduceIte, sx, sl, sb, st, nbeq_ne, dle, relo_eq, wrap_i64, Nat.reduceBEq, Nat.reduceLT, Nat.reduceLeDiff, Nat.reduceAdd, Nat.reduceMul, Nat.reduceEqDiff, Int.reduceEq, Int.reduceLT, Int.reduceLE, Int.reduceNeg, Int.reduceToNat, Bool.false_eq_true, eq_self, sa]
  refine (mask_ok _ N).mono ?_
  rintro r H4 ⟨rfl, rfl⟩
  simp (config := { maxSteps := 1000000 }) (disch := omega) only [↓sh, ↓sh2, ↓reduceIte, sx, sl, sb, st, nbeq_ne, dle, relo_eq, wrap_i64, Nat.reduceBEq, Nat.reduceLT, Nat.reduceLeDiff, Nat.reduceAdd, Nat.reduceMul, Nat.reduceEqDiff, Int.reduceEq, Int.reduceLT, Int.reduceLE, Int.reduceNeg, Int.reduceToNat, Bool.false_eq_true, eq_self, sa, hs1, hs2, hn1, hor]
  exact s2
end Go.AM
namespace Go.AM
attribute [local instance] fnMaps
open Go Go.Proofs
set_option maxRecDepth 100000
set_option maxHeartbeats 1000000
set_option linter.unusedSimpArgs false
theorem fn17 : E.fn.get 17 = some Tryz.f17 := by kernel_rfl
theorem fn18 : E.fn.get 18 = some Tryz.f18 := by kernel_rfl
theorem fn6 : E.fn.get 6 = some Tryz.f6 := by kernel_rfl
theorem fn43 : E.fn.get 43 = some Tryz.f43 := by kernel_rfl
structure Hd where
  kind : Int
  fields : Int
  raws : Int
  mark : Bool
  cursor : Int
def hdCells (h : Hd) : List Value := [.int .i64 h.kind, .int .i64 h.fields, .int .i64 h.raws, .bool h.mark, .int .i64 h.cursor]
def hdV (h : Hd) : Value := .agg #[.int .i64 h.kind, .int .i64 h.fields, .int .i64 h.raws, .bool h.mark, .int .i64 h.cursor]
def markI (h : Hd) : Int := if h.mark then 1 else 0
def numH (h : Hd) : Nat → Int
  | 0 => markI h
  | 1 => h.kind
  | 2 => h.fields
  | 3 => h.raws
  | _ => h.cursor
def atP : Nat → Nat
  | 0 => 2
  | 1 => 3
  | 2 => 8
  | 3 => 24
  | _ => 40
def nP : Nat → Nat
  | 0 => 1
  | 1 => 5
  | 2 => 16
  | 3 => 16
  | _ => 24
def mostP : Nat → Int
  | 0 => 1
  | 1 => 31
  | 2 => 4096
  | 3 => 4096
  | _ => 1048576
def wH (h : Hd) : Nat → Nat
  | 0 => 3
  | i + 1 => wH h i + (numH h i).toNat * 2 ^ atP i
def okN (h : Hd) (i : Nat) : Bool := if decide (numH h i < 0) then false else !decide (mostP i < numH h i)
def okH (h : Hd) : Bool := (List.range 5).all (okN h)
theorem okN_in {h : Hd} {i : Nat} (hk : okN h i = true) : 0 ≤ numH h i ∧ numH h i ≤ mostP i := by
  simp [okN] at hk
  omega
theorem wH_lt {h : Hd} : ∀ {i : Nat}, i ≤ 4 → (∀ j, j < i → okN h j = true) → wH h i < 2 ^ atP i
  | 0, _, _ => by show 3 < 2 ^ 2; decide
  | 1, _, hj => by
    have h0 := okN_in (hj 0 (by omega))
    simp only [wH, numH, mostP, atP] at h0 ⊢
    omega
  | 2, _, hj => by
    have h0 := okN_in (hj 0 (by omega))
    have h1 := okN_in (hj 1 (by omega))
    simp only [wH, numH, mostP, atP] at h0 h1 ⊢
    omega
  | 3, _, hj => by
    have h0 := okN_in (hj 0 (by omega))
    have h1 := okN_in (hj 1 (by omega))
    have h2 := okN_in (hj 2 (by omega))
    simp only [wH, numH, mostP, atP] at h0 h1 h2 ⊢
    omega
  | 4, _, hj => by
    have h0 := okN_in (hj 0 (by omega))
    have h1 := okN_in (hj 1 (by omega))
    have h2 := okN_in (hj 2 (by omega))
    have h3 := okN_in (hj 3 (by omega))
    simp only [wH, numH, mostP, atP] at h0 h1 h2 h3 ⊢
    omega
theorem lay_ok (H : Heap) (hlo : H.lo ≤ H.next) (w x A N : Nat) (hw : w < 2 ^ A) (hx : x < 2 ^ N) (hA : A < 64) (hN : 1 ≤ N) (hNA : N + A ≤ 64) : CallA E (fnv 19) [.int .u64 (w : Int), .int .i64 (A : Int), .int .i64 (N : Int), .int .u64 (x : Int)] H fun r H' => r = .tuple #[.int .u64 ((w + x * 2 ^ A : Nat) : Int), .bool true] ∧ Same H H' := by
  have hw64 : w < 2 ^ 64 := Nat.lt_of_lt_of_le hw (Nat.pow_le_pow_right (by omega) (by omega))
  have hx64 : x < 2 ^ 64 := Nat.lt_of_lt_of_le hx (Nat.pow_le_pow_right (by omega) (by omega))
  refine (put_ok H hlo w x hw64 hx64 A N).mono ?_
  rintro r H2 ⟨rfl, s2⟩
  have hp : partW (A : Int) (N : Int) = true := by
    simp [partW]; omega
  have hok : okPut (A : Int) (N : Int) x = true := by simp only [okPut, hp, if_true, Int.toNat_natCast]; simpa using hx
  refine ⟨?_, s2⟩
  rw [hok]
  simp only [if_true, Int.toNat_natCast]
  rw [put_above hw hNA]
theorem numbers_ok (H : Heap) (hlo : H.lo ≤ H.next) (h : Hd) : CallA E (fnv 17) [hdV h] H fun r H' => r = .agg #[.int .i64 (markI h), .int .i64 h.kind, .int .i64 h.fields, .int .i64 h.raws, .int .i64 h.cursor] ∧ Same H H' := by
  refine callA_fn (by kernel_rfl) fn17 rfl rfl ?_
  simp only [Tryz.f17, hdV]
  have s1 : Same H ((H.newRow [.int .i64 h.kind, .int .i64 h.fields, .int .i64 h.raws, .bool h.mark, .int .i64 h.cursor]).newRow [.int .i64 0, .int .i64 0, .int .i64 0, .int .i64 0, .int .i64 0]) := (same_newRow _).newRow _
  cases hm : h.mark
  · rw [hm] at s1
    simp (config := { maxSteps := 1000000 }) (disch := omega) only [↓sh, ↓sh2, ↓reduceIte, sx, sl, sb, st, nbeq_ne, dle, relo_eq, wrap_i64, Nat.reduceBEq, Nat.reduceLT, Nat.reduceLeDiff, Nat.reduceAdd, Nat.reduceMul, Nat.reduceEqDiff, Int.reduceEq, Int.reduceLT, Int.reduceLE, Int.reduceNeg, Int.reduceToNat, Bool.false_eq_true, eq_self, sa]
    exact ⟨by simp only [markI, hm]; rfl, s1.setRow (by omega) _⟩
  · rw [hm] at s1
    simp (config := { maxSteps := 1000000 }) (disch := omega) only [↓sh, ↓sh2, ↓reduceIte, sx, sl, sb, st, nbeq_ne, dle, relo_eq, wrap_i64, Nat.reduceBEq, Nat.reduceLT, Nat.reduceLeDiff, Nat.reduceAdd, Nat.reduceMul, Nat.reduceEqDiff, Int.reduceEq, Int.reduceLT, Int.reduceLE, Int.reduceNeg, Int.reduceToNat, Bool.false_eq_true, eq_self, sa]
    exact ⟨by simp only [markI, hm]; rfl, s1.setRow (by omega) _⟩
theorem parts_ok (H : Heap) (hlo : H.lo ≤ H.next) : CallA E (fnv 18) [] H fun r H' => r = .agg #[.int .i64 2, .int .i64 1, .int .i64 1, .int .i64 3, .int .i64 5, .int .i64 31, .int .i64 8, .int .i64 16, .int .i64 4096, .int .i64 24, .int .i64 16, .int .i64 4096, .int .i64 40, .int .i64 24, .int .i64 1048576] ∧ Same H H' := by
  refine callA_fn (by kernel_rfl) fn18 rfl rfl ?_
  simp only [Tryz.f18]
  simp (config := { maxSteps := 1000000 }) (disch := omega) only [↓sh, ↓sh2, ↓reduceIte, sx, sl, sb, st, nbeq_ne, dle, relo_eq, wrap_i64, Nat.reduceBEq, Nat.reduceLT, Nat.reduceLeDiff, Nat.reduceAdd, Nat.reduceMul, Nat.reduceEqDiff, Int.reduceEq, Int.reduceLT, Int.reduceLE, Int.reduceNeg, Int.reduceToNat, Bool.false_eq_true, eq_self, sa]
  exact same_box _ _ _
theorem enc_ok (H : Heap) (hlo : H.lo ≤ H.next) (h : Hd) : CallA E (fnv 6) [hdV h] H fun r H' => r = .tuple #[.int .u64 ((if okH h then wH h 5 else 0 : Nat) : Int), .int .i64 (if okH h then 0 else 1)] ∧ Same H H' := by
  refine callA_fn (by kernel_rfl) fn6 rfl rfl ?_
  simp only [Tryz.f6, hdV]
  simp (config := { maxSteps := 1000000 }) (disch := omega) only [↓sh, ↓sh2, ↓reduceIte, sx, sl, sb, st, nbeq_ne, dle, relo_eq, wrap_i64, Nat.reduceBEq, Nat.reduceLT, Nat.reduceLeDiff, Nat.reduceAdd, Nat.reduceMul, Nat.reduceEqDiff, Int.reduceEq, Int.reduceLT, Int.reduceLE, Int.reduceNeg, Int.reduceToNat, Bool.false_eq_true, eq_self, sa]
  refine callA_named (fun H1 e1 => ?_)
  have s1 : Same H H1 := by rw [e1]; exact same_newRow _
  have n1 : H1.next = H.next + 1 := by rw [e1]; simp (disch := omega) only [setRow_get, newRow_get, newRow_next, setRow_next, newRow_lo, setRow_lo, newRow_grps, setRow_grps, newRow_relo, setRow_relo, relo_objs, relo_next, relo_lo, nbeq_ne, sl]
  have l1 := s1.lo
  clear e1
  refine (numbers_ok H1 (by omega) h).mono ?_
  rintro r H2 ⟨rfl, s2⟩
  have n2 := s2.nxt
  have l2 := s2.lo
  simp (config := { maxSteps := 1000000 }) (disch := omega) only [↓sh, ↓sh2, ↓reduceIte, sx, sl, sb, st, nbeq_ne, dle, relo_eq, wrap_i64, Nat.reduceBEq, Nat.reduceLT, Nat.reduceLeDiff, Nat.reduceAdd, Nat.reduceMul, Nat.reduceEqDiff, Int.reduceEq, Int.reduceLT, Int.reduceLE, Int.reduceNeg, Int.reduceToNat, Bool.false_eq_true, eq_self, sa]
  refine callA_named (fun H3 e3 => ?_)
  have s3 : Same H2 H3 := by rw [e3]; exact same_box _ _ _
  have n3 : H3.next = H2.next + 1 := by rw [e3]; simp (disch := omega) only [setRow_get, newRow_get, newRow_next, setRow_next, newRow_lo, setRow_lo, newRow_grps, setRow_grps, newRow_relo, setRow_relo, relo_objs, relo_next, relo_lo, nbeq_ne, sl]
  have l3 := s3.lo
  have gN : H3.objs.get H2.next = some (.row [.int .i64 (markI h), .int .i64 h.kind, .int .i64 h.fields, .int .i64 h.raws, .int .i64 h.cursor] none true) := by rw [e3]; simp (disch := omega) only [setRow_get, newRow_get, newRow_next, setRow_next, newRow_lo, setRow_lo, newRow_grps, setRow_grps, newRow_relo, setRow_relo, relo_objs, relo_next, relo_lo, nbeq_ne, sl]
  clear e3
  refine (parts_ok H3 (by omega)).mono ?_
  rintro r H4 ⟨rfl, s4⟩
  have n4 := s4.nxt
  have l4 := s4.lo
  have gN := s4.keeps (by omega) gN
  have s04 := s1.trans (s2.trans (s3.trans s4))
  refine wp_loopQ (by kernel_rfl) (fun k T X => ∃ i : Nat, k = 5 - i ∧ i ≤ 5 ∧ T.get 11 = some (.int .i64 i) ∧ T.get 4 = some (.int .u64 (wH h i : Nat)) ∧ T.get 5 = some (ptr H2.next 0) ∧ T.get 10 = some (.agg #[.int .i64 2, .int .i64 1, .int .i64 1, .int .i64 3, .int .i64 5, .int .i64 31, .int .i64 8, .int .i64 16, .int .i64 4096, .int .i64 24, .int .i64 16, .int .i64 4096, .int .i64 40, .int .i64 24, .int .i64 1048576]) ∧ Same H4 X ∧ ∀ j, j < i → okN h j = true) 5 ?_ ?_
  · exact ⟨0, by omega, by omega, rfl, rfl, rfl, rfl, Same.refl _, fun j h => absurd h (by omega)⟩
  rintro k T X ⟨i, rfl, hi, h11, h4, h5, h10, s, hall⟩ Qs hQ hQr hQe
  have nX := s.nxt
  have lX := s.lo
  have gX := s.keeps (by omega) gN
  have bad : i ≤ 4 → okN h i = false → okH h = false := by
    intro h1 h2
    rw [okH, List.all_eq_false]
    exact ⟨i, by simp; omega, by simp [h2]⟩
  have more : i ≤ 4 → okN h i = true → ∀ j, j < i + 1 → okN h j = true := by
    intro h1 h2 j hj
    by_cases e : j = i
    · subst e; exact h2
    · exact hall j (by omega)
  obtain rfl | rfl | rfl | rfl | rfl | rfl : i = 0 ∨ i = 1 ∨ i = 2 ∨ i = 3 ∨ i = 4 ∨ i = 5 := by omega
  · have hwl := wH_lt (h := h) (i := 0) (by omega) hall
    replace h11 : T.get 11 = some (.int .i64 0) := h11
    have sB := same_box X [Value.int .i64 0, Value.int .i64 0, Value.int .i64 0] [Value.int .i64 2, Value.int .i64 1, Value.int .i64 1]
    cases y1 : decide (markI h < 0)
    case true =>
      simp (config := { maxSteps := 1000000 }) (disch := omega) only [↓sh, ↓sh2, ↓reduceIte, sx, sl, sb, st, nbeq_ne, dle, relo_eq, wrap_i64, Nat.reduceBEq, Nat.reduceLT, Nat.reduceLeDiff, Nat.reduceAdd, Nat.reduceMul, Nat.reduceEqDiff, Int.reduceEq, Int.reduceLT, Int.reduceLE, Int.reduceNeg, Int.reduceToNat, Bool.false_eq_true, eq_self, sa, h11, h10, gX]
      refine wps_draw [(false, [], []), (false, [], []), (false, [], []), (false, [], []), (false, [], []), (false, [], []), (false, [], []), (false, [], []), (false, [], []), (false, [], []), (false, [], []), (false, [], [])] (by kernel_rfl) ?_
      simp (config := { maxSteps := 1000000 }) (disch := omega) only [↓sh, ↓sh2, ↓reduceIte, sx, sl, sb, st, nbeq_ne, dle, relo_eq, wrap_i64, Nat.reduceBEq, Nat.reduceLT, Nat.reduceLeDiff, Nat.reduceAdd, Nat.reduceMul, Nat.reduceEqDiff, Int.reduceEq, Int.reduceLT, Int.reduceLE, Int.reduceNeg, Int.reduceToNat, Bool.false_eq_true, eq_self, sa, h11, h10, h5, gX, y1]
      refine hQr _ _ _ ?_
      simp (config := { maxSteps := 1000000 }) (disch := omega) only [↓sh, ↓sh2, ↓reduceIte, sx, sl, sb, st, nbeq_ne, dle, relo_eq, wrap_i64, Nat.reduceBEq, Nat.reduceLT, Nat.reduceLeDiff, Nat.reduceAdd, Nat.reduceMul, Nat.reduceEqDiff, Int.reduceEq, Int.reduceLT, Int.reduceLE, Int.reduceNeg, Int.reduceToNat, Bool.false_eq_true, eq_self, sa]
      have hok := bad (by omega) (by simp only [okN, numH, y1]; rfl)
      rw [hok]
      exact ⟨rfl, s04.trans (s.trans sB)⟩
    cases y2 : decide (1 < markI h)
    case true =>
      simp (config := { maxSteps := 1000000 }) (disch := omega) only [↓sh, ↓sh2, ↓reduceIte, sx, sl, sb, st, nbeq_ne, dle, relo_eq, wrap_i64, Nat.reduceBEq, Nat.reduceLT, Nat.reduceLeDiff, Nat.reduceAdd, Nat.reduceMul, Nat.reduceEqDiff, Int.reduceEq, Int.reduceLT, Int.reduceLE, Int.reduceNeg, Int.reduceToNat, Bool.false_eq_true, eq_self, sa, h11, h10, gX]
      refine wps_draw [(false, [], []), (false, [], []), (false, [], []), (false, [], []), (false, [], []), (false, [], []), (false, [], []), (false, [], []), (false, [], []), (false, [], []), (false, [], []), (false, [], [])] (by kernel_rfl) ?_
      simp (config := { maxSteps := 1000000 }) (disch := omega) only [↓sh, ↓sh2, ↓reduceIte, sx, sl, sb, st, nbeq_ne, dle, relo_eq, wrap_i64, Nat.reduceBEq, Nat.reduceLT, Nat.reduceLeDiff, Nat.reduceAdd, Nat.reduceMul, Nat.reduceEqDiff, Int.reduceEq, Int.reduceLT, Int.reduceLE, Int.reduceNeg, Int.reduceToNat, Bool.false_eq_true, eq_self, sa, h11, h10, h5, gX, y1, y2]
      refine hQr _ _ _ ?_
      simp (config := { maxSteps := 1000000 }) (disch := omega) only [↓sh, ↓sh2, ↓reduceIte, sx, sl, sb, st, nbeq_ne, dle, relo_eq, wrap_i64, Nat.reduceBEq, Nat.reduceLT, Nat.reduceLeDiff, Nat.reduceAdd, Nat.reduceMul, Nat.reduceEqDiff, Int.reduceEq, Int.reduceLT, Int.reduceLE, Int.reduceNeg, Int.reduceToNat, Bool.false_eq_true, eq_self, sa]
      have hok := bad (by omega) (by simp only [okN, numH, mostP, y1, y2]; rfl)
      rw [hok]
      exact ⟨rfl, s04.trans (s.trans sB)⟩
    have hk := more (by omega) (by simp only [okN, numH, mostP, y1, y2]; rfl)
    have y3 : 0 ≤ markI h := by rw [decide_eq_false_iff_not] at y1; omega
    have y4 : markI h ≤ 1 := by rw [decide_eq_false_iff_not] at y2; omega
    obtain ⟨x, hx⟩ : ∃ x : Nat, markI h = x := ⟨(markI h).toNat, by omega⟩
    have hnum : (numH h 0).toNat = x := by simp only [numH, hx, Int.toNat_natCast]
    have hcv : IntKind.u64.wrap (markI h) = (x : Int) := by rw [wrap_u64 (by omega) (by omega)]; exact hx
    simp (config := { maxSteps := 1000000 }) (disch := omega) only [↓sh, ↓sh2, ↓reduceIte, sx, sl, sb, st, nbeq_ne, dle, relo_eq, wrap_i64, Nat.reduceBEq, Nat.reduceLT, Nat.reduceLeDiff, Nat.reduceAdd, Nat.reduceMul, Nat.reduceEqDiff, Int.reduceEq, Int.reduceLT, Int.reduceLE, Int.reduceNeg, Int.reduceToNat, Bool.false_eq_true, eq_self, sa, h11, h10, gX]
    refine wps_draw [(false, [], []), (false, [], []), (false, [], []), (false, [], []), (false, [], []), (false, [], []), (false, [], []), (false, [], []), (false, [], []), (false, [], []), (false, [], []), (false, [], [])] (by kernel_rfl) ?_
    simp (config := { maxSteps := 1000000 }) (disch := omega) only [↓sh, ↓sh2, ↓reduceIte, sx, sl, sb, st, nbeq_ne, dle, relo_eq, wrap_i64, Nat.reduceBEq, Nat.reduceLT, Nat.reduceLeDiff, Nat.reduceAdd, Nat.reduceMul, Nat.reduceEqDiff, Int.reduceEq, Int.reduceLT, Int.reduceLE, Int.reduceNeg, Int.reduceToNat, Bool.false_eq_true, eq_self, sa, h11, h10, h5, h4, gX, y1, y2]
    refine wps_draw [(false, [], []), (false, [], []), (false, [], []), (false, [], []), (false, [], []), (false, [], []), (false, [], []), (false, [], []), (false, [], []), (false, [], []), (false, [], []), (false, [], []), (false, [], []), (false, [], [])] (by kernel_rfl) ?_
    simp (config := { maxSteps := 1000000 }) (disch := omega) only [↓sh, ↓sh2, ↓reduceIte, sx, sl, sb, st, nbeq_ne, dle, relo_eq, wrap_i64, Nat.reduceBEq, Nat.reduceLT, Nat.reduceLeDiff, Nat.reduceAdd, Nat.reduceMul, Nat.reduceEqDiff, Int.reduceEq, Int.reduceLT, Int.reduceLE, Int.reduceNeg, Int.reduceToNat, Bool.false_eq_true, eq_self, sa, h11, h10, h5, h4, gX, hcv]
    refine (lay_ok _ (by simp (disch := omega) only [setRow_get, newRow_get, newRow_next, setRow_next, newRow_lo, setRow_lo, newRow_grps, setRow_grps, newRow_relo, setRow_relo, relo_objs, relo_next, relo_lo, nbeq_ne, sl]; omega) (wH h 0) x 2 1 hwl (by omega) (by omega) (by omega) (by omega)).mono ?_
    rintro r X2 ⟨rfl, s2x⟩
    have l2x := s2x.lo
    simp only [setRow_lo, newRow_lo] at l2x
    have hw1 : wH h 1 = wH h 0 + x * 2 ^ 2 := by
      show wH h 0 + (numH h 0).toNat * 2 ^ atP 0 = _
      rw [hnum]; rfl
    simp (config := { maxSteps := 1000000 }) (disch := omega) only [↓sh, ↓sh2, ↓reduceIte, sx, sl, sb, st, nbeq_ne, dle, relo_eq, wrap_i64, Nat.reduceBEq, Nat.reduceLT, Nat.reduceLeDiff, Nat.reduceAdd, Nat.reduceMul, Nat.reduceEqDiff, Int.reduceEq, Int.reduceLT, Int.reduceLE, Int.reduceNeg, Int.reduceToNat, Bool.false_eq_true, eq_self, sa, h11]
    refine hQ _ _ (5 - 1) (by omega) ?_
    refine ⟨1, rfl, by omega, ?_, ?_, ?_, ?_, s.trans (sB.trans s2x), hk⟩
    · simp (config := { maxSteps := 1000000 }) (disch := omega) only [↓sh, ↓sh2, ↓reduceIte, sx, sl, sb, st, nbeq_ne, dle, relo_eq, wrap_i64, Nat.reduceBEq, Nat.reduceLT, Nat.reduceLeDiff, Nat.reduceAdd, Nat.reduceMul, Nat.reduceEqDiff, Int.reduceEq, Int.reduceLT, Int.reduceLE, Int.reduceNeg, Int.reduceToNat, Bool.false_eq_true, eq_self, sa, h11]
      rfl
    · rw [hw1]
      simp (config := { maxSteps := 1000000 }) (disch := omega) only [↓sh, ↓sh2, ↓reduceIte, sx, sl, sb, st, nbeq_ne, dle, relo_eq, wrap_i64, Nat.reduceBEq, Nat.reduceLT, Nat.reduceLeDiff, Nat.reduceAdd, Nat.reduceMul, Nat.reduceEqDiff, Int.reduceEq, Int.reduceLT, Int.reduceLE, Int.reduceNeg, Int.reduceToNat, Bool.false_eq_true, eq_self, sa]
    · simp (config := { maxSteps := 1000000 }) (disch := omega) only [↓sh, ↓sh2, ↓reduceIte, sx, sl, sb, st, nbeq_ne, dle, relo_eq, wrap_i64, Nat.reduceBEq, Nat.reduceLT, Nat.reduceLeDiff, Nat.reduceAdd, Nat.reduceMul, Nat.reduceEqDiff, Int.reduceEq, Int.reduceLT, Int.reduceLE, Int.reduceNeg, Int.reduceToNat, Bool.false_eq_true, eq_self, sa, h5]
    · simp (config := { maxSteps := 1000000 }) (disch := omega) only [↓sh, ↓sh2, ↓reduceIte, sx, sl, sb, st, nbeq_ne, dle, relo_eq, wrap_i64, Nat.reduceBEq, Nat.reduceLT, Nat.reduceLeDiff, Nat.reduceAdd, Nat.reduceMul, Nat.reduceEqDiff, Int.reduceEq, Int.reduceLT, Int.reduceLE, Int.reduceNeg, Int.reduceToNat, Bool.false_eq_true, eq_self, sa, h10]
  · have hwl := wH_lt (h := h) (i := 1) (by omega) hall
    replace h11 : T.get 11 = some (.int .i64 1) := h11
    have sB := same_box X [Value.int .i64 0, Value.int .i64 0, Value.int .i64 0] [Value.int .i64 3, Value.int .i64 5, Value.int .i64 31]
    cases y1 : decide (h.kind < 0)
    case true =>
      simp (config := { maxSteps := 1000000 }) (disch := omega) only [↓sh, ↓sh2, ↓reduceIte, sx, sl, sb, st, nbeq_ne, dle, relo_eq, wrap_i64, Nat.reduceBEq, Nat.reduceLT, Nat.reduceLeDiff, Nat.reduceAdd, Nat.reduceMul, Nat.reduceEqDiff, Int.reduceEq, Int.reduceLT, Int.reduceLE, Int.reduceNeg, Int.reduceToNat, Bool.false_eq_true, eq_self, sa, h11, h10, gX]
      refine wps_draw [(false, [], []), (false, [], []), (false, [], []), (false, [], []), (false, [], []), (false, [], []), (false, [], []), (false, [], []), (false, [], []), (false, [], []), (false, [], []), (false, [], [])] (by kernel_rfl) ?_
      simp (config := { maxSteps := 1000000 }) (disch := omega) only [↓sh, ↓sh2, ↓reduceIte, sx, sl, sb, st, nbeq_ne, dle, relo_eq, wrap_i64, Nat.reduceBEq, Nat.reduceLT, Nat.reduceLeDiff, Nat.reduceAdd, Nat.reduceMul, Nat.reduceEqDiff, Int.reduceEq, Int.reduceLT, Int.reduceLE, Int.reduceNeg, Int.reduceToNat, Bool.false_eq_true, eq_self, sa, h11, h10, h5, gX, y1]
      refine hQr _ _ _ ?_
      simp (config := { maxSteps := 1000000 }) (disch := omega) only [↓sh, ↓sh2, ↓reduceIte, sx, sl, sb, st, nbeq_ne, dle, relo_eq, wrap_i64, Nat.reduceBEq, Nat.reduceLT, Nat.reduceLeDiff, Nat.reduceAdd, Nat.reduceMul, Nat.reduceEqDiff, Int.reduceEq, Int.reduceLT, Int.reduceLE, Int.reduceNeg, Int.reduceToNat, Bool.false_eq_true, eq_self, sa]
      have hok := bad (by omega) (by simp only [okN, numH, y1]; rfl)
      rw [hok]
      exact ⟨rfl, s04.trans (s.trans sB)⟩
    cases y2 : decide (31 < h.kind)
    case true =>
      simp (config := { maxSteps := 1000000 }) (disch := omega) only [↓sh, ↓sh2, ↓reduceIte, sx, sl, sb, st, nbeq_ne, dle, relo_eq, wrap_i64, Nat.reduceBEq, Nat.reduceLT, Nat.reduceLeDiff, Nat.reduceAdd, Nat.reduceMul, Nat.reduceEqDiff, Int.reduceEq, Int.reduceLT, Int.reduceLE, Int.reduceNeg, Int.reduceToNat, Bool.false_eq_true, eq_self, sa, h11, h10, gX]
      refine wps_draw [(false, [], []), (false, [], []), (false, [], []), (false, [], []), (false, [], []), (false, [], []), (false, [], []), (false, [], []), (false, [], []), (false, [], []), (false, [], []), (false, [], [])] (by kernel_rfl) ?_
      simp (config := { maxSteps := 1000000 }) (disch := omega) only [↓sh, ↓sh2, ↓reduceIte, sx, sl, sb, st, nbeq_ne, dle, relo_eq, wrap_i64, Nat.reduceBEq, Nat.reduceLT, Nat.reduceLeDiff, Nat.reduceAdd, Nat.reduceMul, Nat.reduceEqDiff, Int.reduceEq, Int.reduceLT, Int.reduceLE, Int.reduceNeg, Int.reduceToNat, Bool.false_eq_true, eq_self, sa, h11, h10, h5, gX, y1, y2]
      refine hQr _ _ _ ?_
      simp (config := { maxSteps := 1000000 }) (disch := omega) only [↓sh, ↓sh2, ↓reduceIte, sx, sl, sb, st, nbeq_ne, dle, relo_eq, wrap_i64, Nat.reduceBEq, Nat.reduceLT, Nat.reduceLeDiff, Nat.reduceAdd, Nat.reduceMul, Nat.reduceEqDiff, Int.reduceEq, Int.reduceLT, Int.reduceLE, Int.reduceNeg, Int.reduceToNat, Bool.false_eq_true, eq_self, sa]
      have hok := bad (by omega) (by simp only [okN, numH, mostP, y1, y2]; rfl)
      rw [hok]
      exact ⟨rfl, s04.trans (s.trans sB)⟩
    have hk := more (by omega) (by simp only [okN, numH, mostP, y1, y2]; rfl)
    have y3 : 0 ≤ h.kind := by rw [decide_eq_false_iff_not] at y1; omega
    have y4 : h.kind ≤ 31 := by rw [decide_eq_false_iff_not] at y2; omega
    obtain ⟨x, hx⟩ : ∃ x : Nat, h.kind = x := ⟨(h.kind).toNat, by omega⟩
    have hnum : (numH h 1).toNat = x := by simp only [numH, hx, Int.toNat_natCast]
    have hcv : IntKind.u64.wrap (h.kind) = (x : Int) := by rw [wrap_u64 (by omega) (by omega)]; exact hx
    simp (config := { maxSteps := 1000000 }) (disch := omega) only [↓sh, ↓sh2, ↓reduceIte, sx, sl, sb, st, nbeq_ne, dle, relo_eq, wrap_i64, Nat.reduceBEq, Nat.reduceLT, Nat.reduceLeDiff, Nat.reduceAdd, Nat.reduceMul, Nat.reduceEqDiff, Int.reduceEq, Int.reduceLT, Int.reduceLE, Int.reduceNeg, Int.reduceToNat, Bool.false_eq_true, eq_self, sa, h11, h10, gX]
    refine wps_draw [(false, [], []), (false, [], []), (false, [], []), (false, [], []), (false, [], []), (false, [], []), (false, [], []), (false, [], []), (false, [], []), (false, [], []), (false, [], []), (false, [], [])] (by kernel_rfl) ?_
    simp (config := { maxSteps := 1000000 }) (disch := omega) only [↓sh, ↓sh2, ↓reduceIte, sx, sl, sb, st, nbeq_ne, dle, relo_eq, wrap_i64, Nat.reduceBEq, Nat.reduceLT, Nat.reduceLeDiff, Nat.reduceAdd, Nat.reduceMul, Nat.reduceEqDiff, Int.reduceEq, Int.reduceLT, Int.reduceLE, Int.reduceNeg, Int.reduceToNat, Bool.false_eq_true, eq_self, sa, h11, h10, h5, h4, gX, y1, y2]
    refine wps_draw [(false, [], []), (false, [], []), (false, [], []), (false, [], []), (false, [], []), (false, [], []), (false, [], []), (false, [], []), (false, [], []), (false, [], []), (false, [], []), (false, [], []), (false, [], []), (false, [], [])] (by kernel_rfl) ?_
    simp (config := { maxSteps := 1000000 }) (disch := omega) only [↓sh, ↓sh2, ↓reduceIte, sx, sl, sb, st, nbeq_ne, dle, relo_eq, wrap_i64, Nat.reduceBEq, Nat.reduceLT, Nat.reduceLeDiff, Nat.reduceAdd, Nat.reduceMul, Nat.reduceEqDiff, Int.reduceEq, Int.reduceLT, Int.reduceLE, Int.reduceNeg, Int.reduceToNat, Bool.false_eq_true, eq_self, sa, h11, h10, h5, h4, gX, hcv]
    refine (lay_ok _ (by simp (disch := omega) only [setRow_get, newRow_get, newRow_next, setRow_next, newRow_lo, setRow_lo, newRow_grps, setRow_grps, newRow_relo, setRow_relo, relo_objs, relo_next, relo_lo, nbeq_ne, sl]; omega) (wH h 1) x 3 5 hwl (by omega) (by omega) (by omega) (by omega)).mono ?_
    rintro r X2 ⟨rfl, s2x⟩
    have l2x := s2x.lo
    simp only [setRow_lo, newRow_lo] at l2x
    have hw1 : wH h 2 = wH h 1 + x * 2 ^ 3 := by
      show wH h 1 + (numH h 1).toNat * 2 ^ atP 1 = _
      rw [hnum]; rfl
    simp (config := { maxSteps := 1000000 }) (disch := omega) only [↓sh, ↓sh2, ↓reduceIte, sx, sl, sb, st, nbeq_ne, dle, relo_eq, wrap_i64, Nat.reduceBEq, Nat.reduceLT, Nat.reduceLeDiff, Nat.reduceAdd, Nat.reduceMul, Nat.reduceEqDiff, Int.reduceEq, Int.reduceLT, Int.reduceLE, Int.reduceNeg, Int.reduceToNat, Bool.false_eq_true, eq_self, sa, h11]
    refine hQ _ _ (5 - 2) (by omega) ?_
    refine ⟨2, rfl, by omega, ?_, ?_, ?_, ?_, s.trans (sB.trans s2x), hk⟩
    · simp (config := { maxSteps := 1000000 }) (disch := omega) only [↓sh, ↓sh2, ↓reduceIte, sx, sl, sb, st, nbeq_ne, dle, relo_eq, wrap_i64, Nat.reduceBEq, Nat.reduceLT, Nat.reduceLeDiff, Nat.reduceAdd, Nat.reduceMul, Nat.reduceEqDiff, Int.reduceEq, Int.reduceLT, Int.reduceLE, Int.reduceNeg, Int.reduceToNat, Bool.false_eq_true, eq_self, sa, h11]
      rfl
    · rw [hw1]
      simp (config := { maxSteps := 1000000 }) (disch := omega) only [↓sh, ↓sh2, ↓reduceIte, sx, sl, sb, st, nbeq_ne, dle, relo_eq, wrap_i64, Nat.reduceBEq, Nat.reduceLT, Nat.reduceLeDiff, Nat.reduceAdd, Nat.reduceMul, Nat.reduceEqDiff, Int.reduceEq, Int.reduceLT, Int.reduceLE, Int.reduceNeg, Int.reduceToNat, Bool.false_eq_true, eq_self, sa]
    · simp (config := { maxSteps := 1000000 }) (disch := omega) only [↓sh, ↓sh2, ↓reduceIte, sx, sl, sb, st, nbeq_ne, dle, relo_eq, wrap_i64, Nat.reduceBEq, Nat.reduceLT, Nat.reduceLeDiff, Nat.reduceAdd, Nat.reduceMul, Nat.reduceEqDiff, Int.reduceEq, Int.reduceLT, Int.reduceLE, Int.reduceNeg, Int.reduceToNat, Bool.false_eq_true, eq_self, sa, h5]
    · simp (config := { maxSteps := 1000000 }) (disch := omega) only [↓sh, ↓sh2, ↓reduceIte, sx, sl, sb, st, nbeq_ne, dle, relo_eq, wrap_i64, Nat.reduceBEq, Nat.reduceLT, Nat.reduceLeDiff, Nat.reduceAdd, Nat.reduceMul, Nat.reduceEqDiff, Int.reduceEq, Int.reduceLT, Int.reduceLE, Int.reduceNeg, Int.reduceToNat, Bool.false_eq_true, eq_self, sa, h10]
  · have hwl := wH_lt (h := h) (i := 2) (by omega) hall
    replace h11 : T.get 11 = some (.int .i64 2) := h11
    have sB := same_box X [Value.int .i64 0, Value.int .i64 0, Value.int .i64 0] [Value.int .i64 8, Value.int .i64 16, Value.int .i64 4096]
    cases y1 : decide (h.fields < 0)
    case true =>
      simp (config := { maxSteps := 1000000 }) (disch := omega) only [↓sh, ↓sh2, ↓reduceIte, sx, sl, sb, st, nbeq_ne, dle, relo_eq, wrap_i64, Nat.reduceBEq, Nat.reduceLT, Nat.reduceLeDiff, Nat.reduceAdd, Nat.reduceMul, Nat.reduceEqDiff, Int.reduceEq, Int.reduceLT, Int.reduceLE, Int.reduceNeg, Int.reduceToNat, Bool.false_eq_true, eq_self, sa, h11, h10, gX]
      refine wps_draw [(false, [], []), (false, [], []), (false, [], []), (false, [], []), (false, [], []), (false, [], []), (false, [], []), (false, [], []), (false, [], []), (false, [], []), (false, [], []), (false, [], [])] (by kernel_rfl) ?_
      simp (config := { maxSteps := 1000000 }) (disch := omega) only [↓sh, ↓sh2, ↓reduceIte, sx, sl, sb, st, nbeq_ne, dle, relo_eq, wrap_i64, Nat.reduceBEq, Nat.reduceLT, Nat.reduceLeDiff, Nat.reduceAdd, Nat.reduceMul, Nat.reduceEqDiff, Int.reduceEq, Int.reduceLT, Int.reduceLE, Int.reduceNeg, Int.reduceToNat, Bool.false_eq_true, eq_self, sa, h11, h10, h5, gX, y1]
      refine hQr _ _ _ ?_
      simp (config := { maxSteps := 1000000 }) (disch := omega) only [↓sh, ↓sh2, ↓reduceIte, sx, sl, sb, st, nbeq_ne, dle, relo_eq, wrap_i64, Nat.reduceBEq, Nat.reduceLT, Nat.reduceLeDiff, Nat.reduceAdd, Nat.reduceMul, Nat.reduceEqDiff, Int.reduceEq, Int.reduceLT, Int.reduceLE, Int.reduceNeg, Int.reduceToNat, Bool.false_eq_true, eq_self, sa]
      have hok := bad (by omega) (by simp only [okN, numH, y1]; rfl)
      rw [hok]
      exact ⟨rfl, s04.trans (s.trans sB)⟩
    cases y2 : decide (4096 < h.fields)
    case true =>
      simp (config := { maxSteps := 1000000 }) (disch := omega) only [↓sh, ↓sh2, ↓reduceIte, sx, sl, sb, st, nbeq_ne, dle, relo_eq, wrap_i64, Nat.reduceBEq, Nat.reduceLT, Nat.reduceLeDiff, Nat.reduceAdd, Nat.reduceMul, Nat.reduceEqDiff, Int.reduceEq, Int.reduceLT, Int.reduceLE, Int.reduceNeg, Int.reduceToNat, Bool.false_eq_true, eq_self, sa, h11, h10, gX]
      refine wps_draw [(false, [], []), (false, [], []), (false, [], []), (false, [], []), (false, [], []), (false, [], []), (false, [], []), (false, [], []), (false, [], []), (false, [], []), (false, [], []), (false, [], [])] (by kernel_rfl) ?_
      simp (config := { maxSteps := 1000000 }) (disch := omega) only [↓sh, ↓sh2, ↓reduceIte, sx, sl, sb, st, nbeq_ne, dle, relo_eq, wrap_i64, Nat.reduceBEq, Nat.reduceLT, Nat.reduceLeDiff, Nat.reduceAdd, Nat.reduceMul, Nat.reduceEqDiff, Int.reduceEq, Int.reduceLT, Int.reduceLE, Int.reduceNeg, Int.reduceToNat, Bool.false_eq_true, eq_self, sa, h11, h10, h5, gX, y1, y2]
      refine hQr _ _ _ ?_
      simp (config := { maxSteps := 1000000 }) (disch := omega) only [↓sh, ↓sh2, ↓reduceIte, sx, sl, sb, st, nbeq_ne, dle, relo_eq, wrap_i64, Nat.reduceBEq, Nat.reduceLT, Nat.reduceLeDiff, Nat.reduceAdd, Nat.reduceMul, Nat.reduceEqDiff, Int.reduceEq, Int.reduceLT, Int.reduceLE, Int.reduceNeg, Int.reduceToNat, Bool.false_eq_true, eq_self, sa]
      have hok := bad (by omega) (by simp only [okN, numH, mostP, y1, y2]; rfl)
      rw [hok]
      exact ⟨rfl, s04.trans (s.trans sB)⟩
    have hk := more (by omega) (by simp only [okN, numH, mostP, y1, y2]; rfl)
    have y3 : 0 ≤ h.fields := by rw [decide_eq_false_iff_not] at y1; omega
    have y4 : h.fields ≤ 4096 := by rw [decide_eq_false_iff_not] at y2; omega
    obtain ⟨x, hx⟩ : ∃ x : Nat, h.fields = x := ⟨(h.fields).toNat, by omega⟩
    have hnum : (numH h 2).toNat = x := by simp only [numH, hx, Int.toNat_natCast]
    have hcv : IntKind.u64.wrap (h.fields) = (x : Int) := by rw [wrap_u64 (by omega) (by omega)]; exact hx
    simp (config := { maxSteps := 1000000 }) (disch := omega) only [↓sh, ↓sh2, ↓reduceIte, sx, sl, sb, st, nbeq_ne, dle, relo_eq, wrap_i64, Nat.reduceBEq, Nat.reduceLT, Nat.reduceLeDiff, Nat.reduceAdd, Nat.reduceMul, Nat.reduceEqDiff, Int.reduceEq, Int.reduceLT, Int.reduceLE, Int.reduceNeg, Int.reduceToNat, Bool.false_eq_true, eq_self, sa, h11, h10, gX]
    refine wps_draw [(false, [], []), (false, [], []), (false, [], []), (false, [], []), (false, [], []), (false, [], []), (false, [], []), (false, [], []), (false, [], []), (false, [], []), (false, [], []), (false, [], [])] (by kernel_rfl) ?_
    simp (config := { maxSteps := 1000000 }) (disch := omega) only [↓sh, ↓sh2, ↓reduceIte, sx, sl, sb, st, nbeq_ne, dle, relo_eq, wrap_i64, Nat.reduceBEq, Nat.reduceLT, Nat.reduceLeDiff, Nat.reduceAdd, Nat.reduceMul, Nat.reduceEqDiff, Int.reduceEq, Int.reduceLT, Int.reduceLE, Int.reduceNeg, Int.reduceToNat, Bool.false_eq_true, eq_self, sa, h11, h10, h5, h4, gX, y1, y2]
    refine wps_draw [(false, [], []), (false, [], []), (false, [], []), (false, [], []), (false, [], []), (false, [], []), (false, [], []), (false, [], []), (false, [], []), (false, [], []), (false, [], []), (false, [], []), (false, [], []), (false, [], [])] (by kernel_rfl) ?_
    simp (config := { maxSteps := 1000000 }) (disch := omega) only [↓sh, ↓sh2, ↓reduceIte, sx, sl, sb, st, nbeq_ne, dle, relo_eq, wrap_i64, Nat.reduceBEq, Nat.reduceLT, Nat.reduceLeDiff, Nat.reduceAdd, Nat.reduceMul, Nat.reduceEqDiff, Int.reduceEq, Int.reduceLT, Int.reduceLE, Int.reduceNeg, Int.reduceToNat, Bool.false_eq_true, eq_self, sa, h11, h10, h5, h4, gX, hcv]
    refine (lay_ok _ (by simp (disch := omega) only [setRow_get, newRow_get, newRow_next, setRow_next, newRow_lo, setRow_lo, newRow_grps, setRow_grps, newRow_relo, setRow_relo, relo_objs, relo_next, relo_lo, nbeq_ne, sl]; omega) (wH h 2) x 8 16 hwl (by omega) (by omega) (by omega) (by omega)).mono ?_
    rintro r X2 ⟨rfl, s2x⟩
    have l2x := s2x.lo
    simp only [setRow_lo, newRow_lo] at l2x
    have hw1 : wH h 3 = wH h 2 + x * 2 ^ 8 := by
      show wH h 2 + (numH h 2).toNat * 2 ^ atP 2 = _
      rw [hnum]; rfl
    simp (config := { maxSteps := 1000000 }) (disch := omega) only [↓sh, ↓sh2, ↓reduceIte, sx, sl, sb, st, nbeq_ne, dle, relo_eq, wrap_i64, Nat.reduceBEq, Nat.reduceLT, Nat.reduceLeDiff, Nat.reduceAdd, Nat.reduceMul, Nat.reduceEqDiff, Int.reduceEq, Int.reduceLT, Int.reduceLE, Int.reduceNeg, Int.reduceToNat, Bool.false_eq_true, eq_self, sa, h11]
    refine hQ _ _ (5 - 3) (by omega) ?_
    refine ⟨3, rfl, by omega, ?_, ?_, ?_, ?_, s.trans (sB.trans s2x), hk⟩
    · simp (config := { maxSteps := 1000000 }) (disch := omega) only [↓sh, ↓sh2, ↓reduceIte, sx, sl, sb, st, nbeq_ne, dle, relo_eq, wrap_i64, Nat.reduceBEq, Nat.reduceLT, Nat.reduceLeDiff, Nat.reduceAdd, Nat.reduceMul, Nat.reduceEqDiff, Int.reduceEq, Int.reduceLT, Int.reduceLE, Int.reduceNeg, Int.reduceToNat, Bool.false_eq_true, eq_self, sa, h11]
      rfl
    · rw [hw1]
      simp (config := { maxSteps := 1000000 }) (disch := omega) only [↓sh, ↓sh2, ↓reduceIte, sx, sl, sb, st, nbeq_ne, dle, relo_eq, wrap_i64, Nat.reduceBEq, Nat.reduceLT, Nat.reduceLeDiff, Nat.reduceAdd, Nat.reduceMul, Nat.reduceEqDiff, Int.reduceEq, Int.reduceLT, Int.reduceLE, Int.reduceNeg, Int.reduceToNat, Bool.false_eq_true, eq_self, sa]
    · simp (config := { maxSteps := 1000000 }) (disch := omega) only [↓sh, ↓sh2, ↓reduceIte, sx, sl, sb, st, nbeq_ne, dle, relo_eq, wrap_i64, Nat.reduceBEq, Nat.reduceLT, Nat.reduceLeDiff, Nat.reduceAdd, Nat.reduceMul, Nat.reduceEqDiff, Int.reduceEq, Int.reduceLT, Int.reduceLE, Int.reduceNeg, Int.reduceToNat, Bool.false_eq_true, eq_self, sa, h5]
    · simp (config := { maxSteps := 1000000 }) (disch := omega) only [↓sh, ↓sh2, ↓reduceIte, sx, sl, sb, st, nbeq_ne, dle, relo_eq, wrap_i64, Nat.reduceBEq, Nat.reduceLT, Nat.reduceLeDiff, Nat.reduceAdd, Nat.reduceMul, Nat.reduceEqDiff, Int.reduceEq, Int.reduceLT, Int.reduceLE, Int.reduceNeg, Int.reduceToNat, Bool.false_eq_true, eq_self, sa, h10]
  · have hwl := wH_lt (h := h) (i := 3) (by omega) hall
    replace h11 : T.get 11 = some (.int .i64 3) := h11
    have sB := same_box X [Value.int .i64 0, Value.int .i64 0, Value.int .i64 0] [Value.int .i64 24, Value.int .i64 16, Value.int .i64 4096]
    cases y1 : decide (h.raws < 0)
    case true =>
      simp (config := { maxSteps := 1000000 }) (disch := omega) only [↓sh, ↓sh2, ↓reduceIte, sx, sl, sb, st, nbeq_ne, dle, relo_eq, wrap_i64, Nat.reduceBEq, Nat.reduceLT, Nat.reduceLeDiff, Nat.reduceAdd, Nat.reduceMul, Nat.reduceEqDiff, Int.reduceEq, Int.reduceLT, Int.reduceLE, Int.reduceNeg, Int.reduceToNat, Bool.false_eq_true, eq_self, sa, h11, h10, gX]
      refine wps_draw [(false, [], []), (false, [], []), (false, [], []), (false, [], []), (false, [], []), (false, [], []), (false, [], []), (false, [], []), (false, [], []), (false, [], []), (false, [], []), (false, [], [])] (by kernel_rfl) ?_
      simp (config := { maxSteps := 1000000 }) (disch := omega) only [↓sh, ↓sh2, ↓reduceIte, sx, sl, sb, st, nbeq_ne, dle, relo_eq, wrap_i64, Nat.reduceBEq, Nat.reduceLT, Nat.reduceLeDiff, Nat.reduceAdd, Nat.reduceMul, Nat.reduceEqDiff, Int.reduceEq, Int.reduceLT, Int.reduceLE, Int.reduceNeg, Int.reduceToNat, Bool.false_eq_true, eq_self, sa, h11, h10, h5, gX, y1]
      refine hQr _ _ _ ?_
      simp (config := { maxSteps := 1000000 }) (disch := omega) only [↓sh, ↓sh2, ↓reduceIte, sx, sl, sb, st, nbeq_ne, dle, relo_eq, wrap_i64, Nat.reduceBEq, Nat.reduceLT, Nat.reduceLeDiff, Nat.reduceAdd, Nat.reduceMul, Nat.reduceEqDiff, Int.reduceEq, Int.reduceLT, Int.reduceLE, Int.reduceNeg, Int.reduceToNat, Bool.false_eq_true, eq_self, sa]
      have hok := bad (by omega) (by simp only [okN, numH, y1]; rfl)
      rw [hok]
      exact ⟨rfl, s04.trans (s.trans sB)⟩
    cases y2 : decide (4096 < h.raws)
    case true =>
      simp (config := { maxSteps := 1000000 }) (disch := omega) only [↓sh, ↓sh2, ↓reduceIte, sx, sl, sb, st, nbeq_ne, dle, relo_eq, wrap_i64, Nat.reduceBEq, Nat.reduceLT, Nat.reduceLeDiff, Nat.reduceAdd, Nat.reduceMul, Nat.reduceEqDiff, Int.reduceEq, Int.reduceLT, Int.reduceLE, Int.reduceNeg, Int.reduceToNat, Bool.false_eq_true, eq_self, sa, h11, h10, gX]
      refine wps_draw [(false, [], []), (false, [], []), (false, [], []), (false, [], []), (false, [], []), (false, [], []), (false, [], []), (false, [], []), (false, [], []), (false, [], []), (false, [], []), (false, [], [])] (by kernel_rfl) ?_
      simp (config := { maxSteps := 1000000 }) (disch := omega) only [↓sh, ↓sh2, ↓reduceIte, sx, sl, sb, st, nbeq_ne, dle, relo_eq, wrap_i64, Nat.reduceBEq, Nat.reduceLT, Nat.reduceLeDiff, Nat.reduceAdd, Nat.reduceMul, Nat.reduceEqDiff, Int.reduceEq, Int.reduceLT, Int.reduceLE, Int.reduceNeg, Int.reduceToNat, Bool.false_eq_true, eq_self, sa, h11, h10, h5, gX, y1, y2]
      refine hQr _ _ _ ?_
      simp (config := { maxSteps := 1000000 }) (disch := omega) only [↓sh, ↓sh2, ↓reduceIte, sx, sl, sb, st, nbeq_ne, dle, relo_eq, wrap_i64, Nat.reduceBEq, Nat.reduceLT, Nat.reduceLeDiff, Nat.reduceAdd, Nat.reduceMul, Nat.reduceEqDiff, Int.reduceEq, Int.reduceLT, Int.reduceLE, Int.reduceNeg, Int.reduceToNat, Bool.false_eq_true, eq_self, sa]
      have hok := bad (by omega) (by simp only [okN, numH, mostP, y1, y2]; rfl)
      rw [hok]
      exact ⟨rfl, s04.trans (s.trans sB)⟩
    have hk := more (by omega) (by simp only [okN, numH, mostP, y1, y2]; rfl)
    have y3 : 0 ≤ h.raws := by rw [decide_eq_false_iff_not] at y1; omega
    have y4 : h.raws ≤ 4096 := by rw [decide_eq_false_iff_not] at y2; omega
    obtain ⟨x, hx⟩ : ∃ x : Nat, h.raws = x := ⟨(h.raws).toNat, by omega⟩
    have hnum : (numH h 3).toNat = x := by simp only [numH, hx, Int.toNat_natCast]
    have hcv : IntKind.u64.wrap (h.raws) = (x : Int) := by rw [wrap_u64 (by omega) (by omega)]; exact hx
    simp (config := { maxSteps := 1000000 }) (disch := omega) only [↓sh, ↓sh2, ↓reduceIte, sx, sl, sb, st, nbeq_ne, dle, relo_eq, wrap_i64, Nat.reduceBEq, Nat.reduceLT, Nat.reduceLeDiff, Nat.reduceAdd, Nat.reduceMul, Nat.reduceEqDiff, Int.reduceEq, Int.reduceLT, Int.reduceLE, Int.reduceNeg, Int.reduceToNat, Bool.false_eq_true, eq_self, sa, h11, h10, gX]
    refine wps_draw [(false, [], []), (false, [], []), (false, [], []), (false, [], []), (false, [], []), (false, [], []), (false, [], []), (false, [], []), (false, [], []), (false, [], []), (false, [], []), (false, [], [])] (by kernel_rfl) ?_
    simp (config := { maxSteps := 1000000 }) (disch := omega) only [↓sh, ↓sh2, ↓reduceIte, sx, sl, sb, st, nbeq_ne, dle, relo_eq, wrap_i64, Nat.reduceBEq, Nat.reduceLT, Nat.reduceLeDiff, Nat.reduceAdd, Nat.reduceMul, Nat.reduceEqDiff, Int.reduceEq, Int.reduceLT, Int.reduceLE, Int.reduceNeg, Int.reduceToNat, Bool.false_eq_true, eq_self, sa, h11, h10, h5, h4, gX, y1, y2]
    refine wps_draw [(false, [], []), (false, [], []), (false, [], []), (false, [], []), (false, [], []), (false, [], []), (false, [], []), (false, [], []), (false, [], []), (false, [], []), (false, [], []), (false, [], []), (false, [], []), (false, [], [])] (by kernel_rfl) ?_
    simp (config := { maxSteps := 1000000 }) (disch := omega) only [↓sh, ↓sh2, ↓reduceIte, sx, sl, sb, st, nbeq_ne, dle, relo_eq, wrap_i64, Nat.reduceBEq, Nat.reduceLT, Nat.reduceLeDiff, Nat.reduceAdd, Nat.reduceMul, Nat.reduceEqDiff, Int.reduceEq, Int.reduceLT, Int.reduceLE, Int.reduceNeg, Int.reduceToNat, Bool.false_eq_true, eq_self, sa, h11, h10, h5, h4, gX, hcv]
    refine (lay_ok _ (by simp (disch := omega) only [setRow_get, newRow_get, newRow_next, setRow_next, newRow_lo, setRow_lo, newRow_grps, setRow_grps, newRow_relo, setRow_relo, relo_objs, relo_next, relo_lo, nbeq_ne, sl]; omega) (wH h 3) x 24 16 hwl (by omega) (by omega) (by omega) (by omega)).mono ?_
    rintro r X2 ⟨rfl, s2x⟩
    have l2x := s2x.lo
    simp only [setRow_lo, newRow_lo] at l2x
    have hw1 : wH h 4 = wH h 3 + x * 2 ^ 24 := by
      show wH h 3 + (numH h 3).toNat * 2 ^ atP 3 = _
      rw [hnum]; rfl
    simp (config := { maxSteps := 1000000 }) (disch := omega) only [↓sh, ↓sh2, ↓reduceIte, sx, sl, sb, st, nbeq_ne, dle, relo_eq, wrap_i64, Nat.reduceBEq, Nat.reduceLT, Nat.reduceLeDiff, Nat.reduceAdd, Nat.reduceMul, Nat.reduceEqDiff, Int.reduceEq, Int.reduceLT, Int.reduceLE, Int.reduceNeg, Int.reduceToNat, Bool.false_eq_true, eq_self, sa, h11]
    refine hQ _ _ (5 - 4) (by omega) ?_
    refine ⟨4, rfl, by omega, ?_, ?_, ?_, ?_, s.trans (sB.trans s2x), hk⟩
    · simp (config := { maxSteps := 1000000 }) (disch := omega) only [↓sh, ↓sh2, ↓reduceIte, sx, sl, sb, st, nbeq_ne, dle, relo_eq, wrap_i64, Nat.reduceBEq, Nat.reduceLT, Nat.reduceLeDiff, Nat.reduceAdd, Nat.reduceMul, Nat.reduceEqDiff, Int.reduceEq, Int.reduceLT, Int.reduceLE, Int.reduceNeg, Int.reduceToNat, Bool.false_eq_true, eq_self, sa, h11]
      rfl
    · rw [hw1]
      simp (config := { maxSteps := 1000000 }) (disch := omega) only [↓sh, ↓sh2, ↓reduceIte, sx, sl, sb, st, nbeq_ne, dle, relo_eq, wrap_i64, Nat.reduceBEq, Nat.reduceLT, Nat.reduceLeDiff, Nat.reduceAdd, Nat.reduceMul, Nat.reduceEqDiff, Int.reduceEq, Int.reduceLT, Int.reduceLE, Int.reduceNeg, Int.reduceToNat, Bool.false_eq_true, eq_self, sa]
    · simp (config := { maxSteps := 1000000 }) (disch := omega) only [↓sh, ↓sh2, ↓reduceIte, sx, sl, sb, st, nbeq_ne, dle, relo_eq, wrap_i64, Nat.reduceBEq, Nat.reduceLT, Nat.reduceLeDiff, Nat.reduceAdd, Nat.reduceMul, Nat.reduceEqDiff, Int.reduceEq, Int.reduceLT, Int.reduceLE, Int.reduceNeg, Int.reduceToNat, Bool.false_eq_true, eq_self, sa, h5]
    · simp (config := { maxSteps := 1000000 }) (disch := omega) only [↓sh, ↓sh2, ↓reduceIte, sx, sl, sb, st, nbeq_ne, dle, relo_eq, wrap_i64, Nat.reduceBEq, Nat.reduceLT, Nat.reduceLeDiff, Nat.reduceAdd, Nat.reduceMul, Nat.reduceEqDiff, Int.reduceEq, Int.reduceLT, Int.reduceLE, Int.reduceNeg, Int.reduceToNat, Bool.false_eq_true, eq_self, sa, h10]
  · have hwl := wH_lt (h := h) (i := 4) (by omega) hall
    replace h11 : T.get 11 = some (.int .i64 4) := h11
    have sB := same_box X [Value.int .i64 0, Value.int .i64 0, Value.int .i64 0] [Value.int .i64 40, Value.int .i64 24, Value.int .i64 1048576]
    cases y1 : decide (h.cursor < 0)
    case true =>
      simp (config := { maxSteps := 1000000 }) (disch := omega) only [↓sh, ↓sh2, ↓reduceIte, sx, sl, sb, st, nbeq_ne, dle, relo_eq, wrap_i64, Nat.reduceBEq, Nat.reduceLT, Nat.reduceLeDiff, Nat.reduceAdd, Nat.reduceMul, Nat.reduceEqDiff, Int.reduceEq, Int.reduceLT, Int.reduceLE, Int.reduceNeg, Int.reduceToNat, Bool.false_eq_true, eq_self, sa, h11, h10, gX]
      refine wps_draw [(false, [], []), (false, [], []), (false, [], []), (false, [], []), (false, [], []), (false, [], []), (false, [], []), (false, [], []), (false, [], []), (false, [], []), (false, [], []), (false, [], [])] (by kernel_rfl) ?_
      simp (config := { maxSteps := 1000000 }) (disch := omega) only [↓sh, ↓sh2, ↓reduceIte, sx, sl, sb, st, nbeq_ne, dle, relo_eq, wrap_i64, Nat.reduceBEq, Nat.reduceLT, Nat.reduceLeDiff, Nat.reduceAdd, Nat.reduceMul, Nat.reduceEqDiff, Int.reduceEq, Int.reduceLT, Int.reduceLE, Int.reduceNeg, Int.reduceToNat, Bool.false_eq_true, eq_self, sa, h11, h10, h5, gX, y1]
      refine hQr _ _ _ ?_
      simp (config := { maxSteps := 1000000 }) (disch := omega) only [↓sh, ↓sh2, ↓reduceIte, sx, sl, sb, st, nbeq_ne, dle, relo_eq, wrap_i64, Nat.reduceBEq, Nat.reduceLT, Nat.reduceLeDiff, Nat.reduceAdd, Nat.reduceMul, Nat.reduceEqDiff, Int.reduceEq, Int.reduceLT, Int.reduceLE, Int.reduceNeg, Int.reduceToNat, Bool.false_eq_true, eq_self, sa]
      have hok := bad (by omega) (by simp only [okN, numH, y1]; rfl)
      rw [hok]
      exact ⟨rfl, s04.trans (s.trans sB)⟩
    cases y2 : decide (1048576 < h.cursor)
    case true =>
      simp (config := { maxSteps := 1000000 }) (disch := omega) only [↓sh, ↓sh2, ↓reduceIte, sx, sl, sb, st, nbeq_ne, dle, relo_eq, wrap_i64, Nat.reduceBEq, Nat.reduceLT, Nat.reduceLeDiff, Nat.reduceAdd, Nat.reduceMul, Nat.reduceEqDiff, Int.reduceEq, Int.reduceLT, Int.reduceLE, Int.reduceNeg, Int.reduceToNat, Bool.false_eq_true, eq_self, sa, h11, h10, gX]
      refine wps_draw [(false, [], []), (false, [], []), (false, [], []), (false, [], []), (false, [], []), (false, [], []), (false, [], []), (false, [], []), (false, [], []), (false, [], []), (false, [], []), (false, [], [])] (by kernel_rfl) ?_
      simp (config := { maxSteps := 1000000 }) (disch := omega) only [↓sh, ↓sh2, ↓reduceIte, sx, sl, sb, st, nbeq_ne, dle, relo_eq, wrap_i64, Nat.reduceBEq, Nat.reduceLT, Nat.reduceLeDiff, Nat.reduceAdd, Nat.reduceMul, Nat.reduceEqDiff, Int.reduceEq, Int.reduceLT, Int.reduceLE, Int.reduceNeg, Int.reduceToNat, Bool.false_eq_true, eq_self, sa, h11, h10, h5, gX, y1, y2]
      refine hQr _ _ _ ?_
      simp (config := { maxSteps := 1000000 }) (disch := omega) only [↓sh, ↓sh2, ↓reduceIte, sx, sl, sb, st, nbeq_ne, dle, relo_eq, wrap_i64, Nat.reduceBEq, Nat.reduceLT, Nat.reduceLeDiff, Nat.reduceAdd, Nat.reduceMul, Nat.reduceEqDiff, Int.reduceEq, Int.reduceLT, Int.reduceLE, Int.reduceNeg, Int.reduceToNat, Bool.false_eq_true, eq_self, sa]
      have hok := bad (by omega) (by simp only [okN, numH, mostP, y1, y2]; rfl)
      rw [hok]
      exact ⟨rfl, s04.trans (s.trans sB)⟩
    have hk := more (by omega) (by simp only [okN, numH, mostP, y1, y2]; rfl)
    have y3 : 0 ≤ h.cursor := by rw [decide_eq_false_iff_not] at y1; omega
    have y4 : h.cursor ≤ 1048576 := by rw [decide_eq_false_iff_not] at y2; omega
    obtain ⟨x, hx⟩ : ∃ x : Nat, h.cursor = x := ⟨(h.cursor).toNat, by omega⟩
    have hnum : (numH h 4).toNat = x := by simp only [numH, hx, Int.toNat_natCast]
    have hcv : IntKind.u64.wrap (h.cursor) = (x : Int) := by rw [wrap_u64 (by omega) (by omega)]; exact hx
    simp (config := { maxSteps := 1000000 }) (disch := omega) only [↓sh, ↓sh2, ↓reduceIte, sx, sl, sb, st, nbeq_ne, dle, relo_eq, wrap_i64, Nat.reduceBEq, Nat.reduceLT, Nat.reduceLeDiff, Nat.reduceAdd, Nat.reduceMul, Nat.reduceEqDiff, Int.reduceEq, Int.reduceLT, Int.reduceLE, Int.reduceNeg, Int.reduceToNat, Bool.false_eq_true, eq_self, sa, h11, h10, gX]
    refine wps_draw [(false, [], []), (false, [], []), (false, [], []), (false, [], []), (false, [], []), (false, [], []), (false, [], []), (false, [], []), (false, [], []), (false, [], []), (false, [], []), (false, [], [])] (by kernel_rfl) ?_
    simp (config := { maxSteps := 1000000 }) (disch := omega) only [↓sh, ↓sh2, ↓reduceIte, sx, sl, sb, st, nbeq_ne, dle, relo_eq, wrap_i64, Nat.reduceBEq, Nat.reduceLT, Nat.reduceLeDiff, Nat.reduceAdd, Nat.reduceMul, Nat.reduceEqDiff, Int.reduceEq, Int.reduceLT, Int.reduceLE, Int.reduceNeg, Int.reduceToNat, Bool.false_eq_true, eq_self, sa, h11, h10, h5, h4, gX, y1, y2]
    refine wps_draw [(false, [], []), (false, [], []), (false, [], []), (false, [], []), (false, [], []), (false, [], []), (false, [], []), (false, [], []), (false, [], []), (false, [], []), (false, [], []), (false, [], []), (false, [], []), (false, [], [])] (by kernel_rfl) ?_
    simp (config := { maxSteps := 1000000 }) (disch := omega) only [↓sh, ↓sh2, ↓reduceIte, sx, sl, sb, st, nbeq_ne, dle, relo_eq, wrap_i64, Nat.reduceBEq, Nat.reduceLT, Nat.reduceLeDiff, Nat.reduceAdd, Nat.reduceMul, Nat.reduceEqDiff, Int.reduceEq, Int.reduceLT, Int.reduceLE, Int.reduceNeg, Int.reduceToNat, Bool.false_eq_true, eq_self, sa, h11, h10, h5, h4, gX, hcv]
    refine (lay_ok _ (by simp (disch := omega) only [setRow_get, newRow_get, newRow_next, setRow_next, newRow_lo, setRow_lo, newRow_grps, setRow_grps, newRow_relo, setRow_relo, relo_objs, relo_next, relo_lo, nbeq_ne, sl]; omega) (wH h 4) x 40 24 hwl (by omega) (by omega) (by omega) (by omega)).mono ?_
    rintro r X2 ⟨rfl, s2x⟩
    have l2x := s2x.lo
    simp only [setRow_lo, newRow_lo] at l2x
    have hw1 : wH h 5 = wH h 4 + x * 2 ^ 40 := by
      show wH h 4 + (numH h 4).toNat * 2 ^ atP 4 = _
      rw [hnum]; rfl
    simp (config := { maxSteps := 1000000 }) (disch := omega) only [↓sh, ↓sh2, ↓reduceIte, sx, sl, sb, st, nbeq_ne, dle, relo_eq, wrap_i64, Nat.reduceBEq, Nat.reduceLT, Nat.reduceLeDiff, Nat.reduceAdd, Nat.reduceMul, Nat.reduceEqDiff, Int.reduceEq, Int.reduceLT, Int.reduceLE, Int.reduceNeg, Int.reduceToNat, Bool.false_eq_true, eq_self, sa, h11]
    refine hQ _ _ (5 - 5) (by omega) ?_
    refine ⟨5, rfl, by omega, ?_, ?_, ?_, ?_, s.trans (sB.trans s2x), hk⟩
    · simp (config := { maxSteps := 1000000 }) (disch := omega) only [↓sh, ↓sh2, ↓reduceIte, sx, sl, sb, st, nbeq_ne, dle, relo_eq, wrap_i64, Nat.reduceBEq, Nat.reduceLT, Nat.reduceLeDiff, Nat.reduceAdd, Nat.reduceMul, Nat.reduceEqDiff, Int.reduceEq, Int.reduceLT, Int.reduceLE, Int.reduceNeg, Int.reduceToNat, Bool.false_eq_true, eq_self, sa, h11]
      rfl
    · rw [hw1]
      simp (config := { maxSteps := 1000000 }) (disch := omega) only [↓sh, ↓sh2, ↓reduceIte, sx, sl, sb, st, nbeq_ne, dle, relo_eq, wrap_i64, Nat.reduceBEq, Nat.reduceLT, Nat.reduceLeDiff, Nat.reduceAdd, Nat.reduceMul, Nat.reduceEqDiff, Int.reduceEq, Int.reduceLT, Int.reduceLE, Int.reduceNeg, Int.reduceToNat, Bool.false_eq_true, eq_self, sa]
    · simp (config := { maxSteps := 1000000 }) (disch := omega) only [↓sh, ↓sh2, ↓reduceIte, sx, sl, sb, st, nbeq_ne, dle, relo_eq, wrap_i64, Nat.reduceBEq, Nat.reduceLT, Nat.reduceLeDiff, Nat.reduceAdd, Nat.reduceMul, Nat.reduceEqDiff, Int.reduceEq, Int.reduceLT, Int.reduceLE, Int.reduceNeg, Int.reduceToNat, Bool.false_eq_true, eq_self, sa, h5]
    · simp (config := { maxSteps := 1000000 }) (disch := omega) only [↓sh, ↓sh2, ↓reduceIte, sx, sl, sb, st, nbeq_ne, dle, relo_eq, wrap_i64, Nat.reduceBEq, Nat.reduceLT, Nat.reduceLeDiff, Nat.reduceAdd, Nat.reduceMul, Nat.reduceEqDiff, Int.reduceEq, Int.reduceLT, Int.reduceLE, Int.reduceNeg, Int.reduceToNat, Bool.false_eq_true, eq_self, sa, h10]
  · replace h11 : T.get 11 = some (.int .i64 5) := h11
    simp (config := { maxSteps := 1000000 }) (disch := omega) only [↓sh, ↓sh2, ↓reduceIte, sx, sl, sb, st, nbeq_ne, dle, relo_eq, wrap_i64, Nat.reduceBEq, Nat.reduceLT, Nat.reduceLeDiff, Nat.reduceAdd, Nat.reduceMul, Nat.reduceEqDiff, Int.reduceEq, Int.reduceLT, Int.reduceLE, Int.reduceNeg, Int.reduceToNat, Bool.false_eq_true, eq_self, sa, h11]
    refine hQe _ _ _ _ ?_
    simp (config := { maxSteps := 1000000 }) (disch := omega) only [↓sh, ↓sh2, ↓reduceIte, sx, sl, sb, st, nbeq_ne, dle, relo_eq, wrap_i64, Nat.reduceBEq, Nat.reduceLT, Nat.reduceLeDiff, Nat.reduceAdd, Nat.reduceMul, Nat.reduceEqDiff, Int.reduceEq, Int.reduceLT, Int.reduceLE, Int.reduceNeg, Int.reduceToNat, Bool.false_eq_true, eq_self, sa, h4]
    have hok : okH h = true := by
      rw [okH, List.all_eq_true]
      intro j hj
      exact hall j (by simpa using hj)
    rw [hok]
    exact ⟨rfl, s04.trans s⟩
end Go.AM
namespace Go.AM
attribute [local instance] fnMaps
open Go Go.Proofs
set_option maxRecDepth 100000
set_option maxHeartbeats 1000000
set_option linter.unusedSimpArgs false
theorem fn60 : E.fn.get 60 = some Tryz.f60 := by kernel_rfl
theorem getW_lt (w a n : Nat) : getW w a n < 2 ^ n := Nat.mod_lt _ (Nat.pow_pos (by omega))
def sizeH (h : Hd) : Int := if okH h then 1 + h.fields + h.raws else 0
theorem okH_in {h : Hd} (hk : okH h = true) : 0 ≤ h.kind ∧ h.kind ≤ 31 ∧ 0 ≤ h.fields ∧ h.fields ≤ 4096 ∧ 0 ≤ h.raws ∧ h.raws ≤ 4096 ∧ 0 ≤ h.cursor ∧ h.cursor ≤ 1048576 := by
  have hj : ∀ j, j < 5 → okN h j = true := fun j hj => List.all_eq_true.1 hk j (by simpa using hj)
  have h1 := okN_in (hj 1 (by omega))
  have h2 := okN_in (hj 2 (by omega))
  have h3 := okN_in (hj 3 (by omega))
  have h4 := okN_in (hj 4 (by omega))
  simp only [numH, mostP] at h1 h2 h3 h4
  omega
theorem hsize_ok (H : Heap) (hlo : H.lo ≤ H.next) (h : Hd) : CallA E (fnv 43) [hdV h] H fun r H' => r = .int .i64 (sizeH h) ∧ Same H H' := by
  refine callA_fn (by kernel_rfl) fn43 rfl rfl ?_
  simp only [Tryz.f43, hdV]
  simp (config := { maxSteps := 1000000 }) (disch := omega) only [↓sh, ↓sh2, ↓reduceIte, sx, sl, sb, st, nbeq_ne, dle, relo_eq, wrap_i64, Nat.reduceBEq, Nat.reduceLT, Nat.reduceLeDiff, Nat.reduceAdd, Nat.reduceMul, Nat.reduceEqDiff, Int.reduceEq, Int.reduceLT, Int.reduceLE, Int.reduceNeg, Int.reduceToNat, Bool.false_eq_true, eq_self, sa]
  refine callA_named (fun H1 e1 => ?_)
  have s1 : Same H H1 := by rw [e1]; exact same_newRow _
  have n1 : H1.next = H.next + 1 := by rw [e1]; simp (disch := omega) only [setRow_get, newRow_get, newRow_next, setRow_next, newRow_lo, setRow_lo, newRow_grps, setRow_grps, newRow_relo, setRow_relo, relo_objs, relo_next, relo_lo, nbeq_ne, sl]
  have l1 := s1.lo
  have b1 : H1.objs.get H.next = some (.row [.int .i64 h.kind, .int .i64 h.fields, .int .i64 h.raws, .bool h.mark, .int .i64 h.cursor] none true) := by rw [e1]; simp (disch := omega) only [setRow_get, newRow_get, newRow_next, setRow_next, newRow_lo, setRow_lo, newRow_grps, setRow_grps, newRow_relo, setRow_relo, relo_objs, relo_next, relo_lo, nbeq_ne, sl]
  clear e1
  refine (enc_ok H1 (by omega) h).mono ?_
  rintro r H2 ⟨hr, s2⟩
  have b2 := s2.keeps (by omega) b1
  cases hk : okH h
  case false =>
    rw [hk] at hr
    replace hr : r = .tuple #[.int .u64 0, .int .i64 1] := hr
    subst hr
    simp (config := { maxSteps := 1000000 }) (disch := omega) only [↓sh, ↓sh2, ↓reduceIte, sx, sl, sb, st, nbeq_ne, dle, relo_eq, wrap_i64, Nat.reduceBEq, Nat.reduceLT, Nat.reduceLeDiff, Nat.reduceAdd, Nat.reduceMul, Nat.reduceEqDiff, Int.reduceEq, Int.reduceLT, Int.reduceLE, Int.reduceNeg, Int.reduceToNat, Bool.false_eq_true, eq_self, sa]
    exact ⟨by simp only [sizeH, hk]; rfl, s1.trans s2⟩
  rw [hk] at hr
  replace hr : r = .tuple #[.int .u64 (wH h 5 : Nat), .int .i64 0] := hr
  subst hr
  obtain ⟨q1, q2, q3, q4, q5, q6, q7, q8⟩ := okH_in hk
  simp (config := { maxSteps := 1000000 }) (disch := omega) only [↓sh, ↓sh2, ↓reduceIte, sx, sl, sb, st, nbeq_ne, dle, relo_eq, wrap_i64, Nat.reduceBEq, Nat.reduceLT, Nat.reduceLeDiff, Nat.reduceAdd, Nat.reduceMul, Nat.reduceEqDiff, Int.reduceEq, Int.reduceLT, Int.reduceLE, Int.reduceNeg, Int.reduceToNat, Bool.false_eq_true, eq_self, sa, b2]
  exact ⟨by simp only [sizeH, hk]; rfl, s1.trans s2⟩
def decHd (w : Nat) : Hd := ⟨(getW w 3 5 : Nat), (getW w 8 16 : Nat), (getW w 24 16 : Nat), decide (((getW w 2 1 : Nat) : Int) = 1), (getW w 40 24 : Nat)⟩
def isHd (w : Nat) : Bool := if okH (decHd w) then decide (wH (decHd w) 5 = w) else false
def zeroHd : Hd := ⟨0, 0, 0, false, 0⟩
theorem hdec_ok (H : Heap) (hlo : H.lo ≤ H.next) (w : Nat) (hw : w < 2 ^ 64) : CallA E (fnv 60) [.int .u64 (w : Int)] H fun r H' => r = .tuple #[hdV (if isHd w then decHd w else zeroHd), .int .i64 (if isHd w then 0 else 3)] ∧ Same H H' := by
  refine callA_fn (by kernel_rfl) fn60 rfl rfl ?_
  simp only [Tryz.f60]
  simp (config := { maxSteps := 1000000 }) (disch := omega) only [↓sh, ↓sh2, ↓reduceIte, sx, sl, sb, st, nbeq_ne, dle, relo_eq, wrap_i64, Nat.reduceBEq, Nat.reduceLT, Nat.reduceLeDiff, Nat.reduceAdd, Nat.reduceMul, Nat.reduceEqDiff, Int.reduceEq, Int.reduceLT, Int.reduceLE, Int.reduceNeg, Int.reduceToNat, Bool.false_eq_true, eq_self, sa]
  refine callA_named (fun H1 e1 => ?_)
  have s1 : Same H H1 := by rw [e1]; exact (same_newRow _).newRow _
  have n1 : H1.next = H.next + 1 + 1 := by rw [e1]; simp (disch := omega) only [setRow_get, newRow_get, newRow_next, setRow_next, newRow_lo, setRow_lo, newRow_grps, setRow_grps, newRow_relo, setRow_relo, relo_objs, relo_next, relo_lo, nbeq_ne, sl]
  have l1 := s1.lo
  have bR : H1.objs.get H.next = some (.row [.int .i64 0, .int .i64 0, .int .i64 0, .bool false, .int .i64 0] none true) := by rw [e1]; simp (disch := omega) only [setRow_get, newRow_get, newRow_next, setRow_next, newRow_lo, setRow_lo, newRow_grps, setRow_grps, newRow_relo, setRow_relo, relo_objs, relo_next, relo_lo, nbeq_ne, sl]
  have bN : H1.objs.get (H.next + 1) = some (.row [Value.int .i64 0, Value.int .i64 0, Value.int .i64 0, Value.int .i64 0, Value.int .i64 0] none true) := by rw [e1]; simp (disch := omega) only [setRow_get, newRow_get, newRow_next, setRow_next, newRow_lo, setRow_lo, newRow_grps, setRow_grps, newRow_relo, setRow_relo, relo_objs, relo_next, relo_lo, nbeq_ne, sl]
  clear e1
  refine (parts_ok H1 (by omega)).mono ?_
  rintro r H2 ⟨rfl, s2⟩
  have n2 := s2.nxt
  have l2 := s2.lo
  have bR := s2.keeps (by omega) bR
  have bN := s2.keeps (by omega) bN
  have s02 := s1.trans s2
  refine wp_loopQ (by kernel_rfl) (fun k T X => ∃ (i : Nat) (row : List Value), k = 5 - i ∧ i ≤ 5 ∧ T.get 13 = some (.int .i64 i) ∧ T.get 0 = some (.int .u64 (w : Int)) ∧ T.get 4 = some (ptr (H.next + 1) 0) ∧ T.get 2 = some (ptr H.next 0) ∧ T.get 12 = some (.agg #[.int .i64 2, .int .i64 1, .int .i64 1, .int .i64 3, .int .i64 5, .int .i64 31, .int .i64 8, .int .i64 16, .int .i64 4096, .int .i64 24, .int .i64 16, .int .i64 4096, .int .i64 40, .int .i64 24, .int .i64 1048576]) ∧ SameBut (H.next + 1) H2 X ∧ X.objs.get (H.next + 1) = some (.row row none true) ∧ ((i = 0 ∧ row = [Value.int .i64 0, Value.int .i64 0, Value.int .i64 0, Value.int .i64 0, Value.int .i64 0]) ∨ (i = 1 ∧ row = [Value.int .i64 ((getW w 2 1 : Nat) : Int), Value.int .i64 0, Value.int .i64 0, Value.int .i64 0, Value.int .i64 0]) ∨ (i = 2 ∧ row = [Value.int .i64 ((getW w 2 1 : Nat) : Int), Value.int .i64 ((getW w 3 5 : Nat) : Int), Value.int .i64 0, Value.int .i64 0, Value.int .i64 0]) ∨ (i = 3 ∧ row = [Value.int .i64 ((getW w 2 1 : Nat) : Int), Value.int .i64 ((getW w 3 5 : Nat) : Int), Value.int .i64 ((getW w 8 16 : Nat) : Int), Value.int .i64 0, Value.int .i64 0]) ∨ (i = 4 ∧ row = [Value.int .i64 ((getW w 2 1 : Nat) : Int), Value.int .i64 ((getW w 3 5 : Nat) : Int), Value.int .i64 ((getW w 8 16 : Nat) : Int), Value.int .i64 ((getW w 24 16 : Nat) : Int), Value.int .i64 0]) ∨ (i = 5 ∧ row = [Value.int .i64 ((getW w 2 1 : Nat) : Int), Value.int .i64 ((getW w 3 5 : Nat) : Int), Value.int .i64 ((getW w 8 16 : Nat) : Int), Value.int .i64 ((getW w 24 16 : Nat) : Int), Value.int .i64 ((getW w 40 24 : Nat) : Int)]))) 5 ?_ ?_
  · exact ⟨0, _, by omega, by omega, rfl, rfl, rfl, rfl, rfl, (Same.refl _).but _, bN, .inl ⟨rfl, rfl⟩⟩
  rintro k T X ⟨i, row, rfl, hi, h13, h0, h4, h2, h12, s, hX, hrow⟩ Qs hQ hQr hQe
  have nX := s.nxt
  have lX := s.lo
  have bRX := s.keeps (by omega) (by omega) bR
  have s0X := s.same s02 (by omega)
  rcases hrow with ⟨rfl, rfl⟩ | ⟨rfl, rfl⟩ | ⟨rfl, rfl⟩ | ⟨rfl, rfl⟩ | ⟨rfl, rfl⟩ | ⟨rfl, rfl⟩
  · replace h13 : T.get 13 = some (.int .i64 0) := h13
    have sB := same_box X [Value.int .i64 0, Value.int .i64 0, Value.int .i64 0] [Value.int .i64 2, Value.int .i64 1, Value.int .i64 1]
    have hlt := getW_lt w 2 1
    simp (config := { maxSteps := 1000000 }) (disch := omega) only [↓sh, ↓sh2, ↓reduceIte, sx, sl, sb, st, nbeq_ne, dle, relo_eq, wrap_i64, Nat.reduceBEq, Nat.reduceLT, Nat.reduceLeDiff, Nat.reduceAdd, Nat.reduceMul, Nat.reduceEqDiff, Int.reduceEq, Int.reduceLT, Int.reduceLE, Int.reduceNeg, Int.reduceToNat, Bool.false_eq_true, eq_self, sa, h13, h12, h0]
    refine (get_ok _ (by simp (disch := omega) only [setRow_get, newRow_get, newRow_next, setRow_next, newRow_lo, setRow_lo, newRow_grps, setRow_grps, newRow_relo, setRow_relo, relo_objs, relo_next, relo_lo, nbeq_ne, sl]; omega) w hw 2 1).mono ?_
    rintro r X2 ⟨hr, s2x⟩
    have l2x := s2x.lo
    simp only [setRow_lo, newRow_lo] at l2x
    have hX2 : X2.objs.get (H.next + 1) = _ := s2x.keeps (by simp (disch := omega) only [setRow_get, newRow_get, newRow_next, setRow_next, newRow_lo, setRow_lo, newRow_grps, setRow_grps, newRow_relo, setRow_relo, relo_objs, relo_next, relo_lo, nbeq_ne, sl]; omega) (sB.keeps (by omega) hX)
    replace hr : r = .tuple #[.int .u64 ((getW w 2 1 : Nat) : Int), .bool true] := hr
    subst hr
    simp (config := { maxSteps := 1000000 }) (disch := omega) only [↓sh, ↓sh2, ↓reduceIte, sx, sl, sb, st, nbeq_ne, dle, relo_eq, wrap_i64, Nat.reduceBEq, Nat.reduceLT, Nat.reduceLeDiff, Nat.reduceAdd, Nat.reduceMul, Nat.reduceEqDiff, Int.reduceEq, Int.reduceLT, Int.reduceLE, Int.reduceNeg, Int.reduceToNat, Bool.false_eq_true, eq_self, sa, h13, h4, hX2]
    refine hQ _ _ (5 - 1) (by omega) ?_
    refine ⟨1, _, rfl, by omega, ?_, ?_, ?_, ?_, ?_, (s.trans (sB.trans s2x)).setRow _, by simp (disch := omega) only [setRow_get, newRow_get, newRow_next, setRow_next, newRow_lo, setRow_lo, newRow_grps, setRow_grps, newRow_relo, setRow_relo, relo_objs, relo_next, relo_lo, nbeq_ne, sl], .inr (.inl ⟨rfl, rfl⟩)⟩
    · simp (config := { maxSteps := 1000000 }) (disch := omega) only [↓sh, ↓sh2, ↓reduceIte, sx, sl, sb, st, nbeq_ne, dle, relo_eq, wrap_i64, Nat.reduceBEq, Nat.reduceLT, Nat.reduceLeDiff, Nat.reduceAdd, Nat.reduceMul, Nat.reduceEqDiff, Int.reduceEq, Int.reduceLT, Int.reduceLE, Int.reduceNeg, Int.reduceToNat, Bool.false_eq_true, eq_self, sa, h13]
      rfl
    · simp (config := { maxSteps := 1000000 }) (disch := omega) only [↓sh, ↓sh2, ↓reduceIte, sx, sl, sb, st, nbeq_ne, dle, relo_eq, wrap_i64, Nat.reduceBEq, Nat.reduceLT, Nat.reduceLeDiff, Nat.reduceAdd, Nat.reduceMul, Nat.reduceEqDiff, Int.reduceEq, Int.reduceLT, Int.reduceLE, Int.reduceNeg, Int.reduceToNat, Bool.false_eq_true, eq_self, sa, h0]
    · simp (config := { maxSteps := 1000000 }) (disch := omega) only [↓sh, ↓sh2, ↓reduceIte, sx, sl, sb, st, nbeq_ne, dle, relo_eq, wrap_i64, Nat.reduceBEq, Nat.reduceLT, Nat.reduceLeDiff, Nat.reduceAdd, Nat.reduceMul, Nat.reduceEqDiff, Int.reduceEq, Int.reduceLT, Int.reduceLE, Int.reduceNeg, Int.reduceToNat, Bool.false_eq_true, eq_self, sa, h4]
    · simp (config := { maxSteps := 1000000 }) (disch := omega) only [↓sh, ↓sh2, ↓reduceIte, sx, sl, sb, st, nbeq_ne, dle, relo_eq, wrap_i64, Nat.reduceBEq, Nat.reduceLT, Nat.reduceLeDiff, Nat.reduceAdd, Nat.reduceMul, Nat.reduceEqDiff, Int.reduceEq, Int.reduceLT, Int.reduceLE, Int.reduceNeg, Int.reduceToNat, Bool.false_eq_true, eq_self, sa, h2]
    · simp (config := { maxSteps := 1000000 }) (disch := omega) only [↓sh, ↓sh2, ↓reduceIte, sx, sl, sb, st, nbeq_ne, dle, relo_eq, wrap_i64, Nat.reduceBEq, Nat.reduceLT, Nat.reduceLeDiff, Nat.reduceAdd, Nat.reduceMul, Nat.reduceEqDiff, Int.reduceEq, Int.reduceLT, Int.reduceLE, Int.reduceNeg, Int.reduceToNat, Bool.false_eq_true, eq_self, sa, h12]
  · replace h13 : T.get 13 = some (.int .i64 1) := h13
    have sB := same_box X [Value.int .i64 0, Value.int .i64 0, Value.int .i64 0] [Value.int .i64 3, Value.int .i64 5, Value.int .i64 31]
    have hlt := getW_lt w 3 5
    simp (config := { maxSteps := 1000000 }) (disch := omega) only [↓sh, ↓sh2, ↓reduceIte, sx, sl, sb, st, nbeq_ne, dle, relo_eq, wrap_i64, Nat.reduceBEq, Nat.reduceLT, Nat.reduceLeDiff, Nat.reduceAdd, Nat.reduceMul, Nat.reduceEqDiff, Int.reduceEq, Int.reduceLT, Int.reduceLE, Int.reduceNeg, Int.reduceToNat, Bool.false_eq_true, eq_self, sa, h13, h12, h0]
    refine (get_ok _ (by simp (disch := omega) only [setRow_get, newRow_get, newRow_next, setRow_next, newRow_lo, setRow_lo, newRow_grps, setRow_grps, newRow_relo, setRow_relo, relo_objs, relo_next, relo_lo, nbeq_ne, sl]; omega) w hw 3 5).mono ?_
    rintro r X2 ⟨hr, s2x⟩
    have l2x := s2x.lo
    simp only [setRow_lo, newRow_lo] at l2x
    have hX2 : X2.objs.get (H.next + 1) = _ := s2x.keeps (by simp (disch := omega) only [setRow_get, newRow_get, newRow_next, setRow_next, newRow_lo, setRow_lo, newRow_grps, setRow_grps, newRow_relo, setRow_relo, relo_objs, relo_next, relo_lo, nbeq_ne, sl]; omega) (sB.keeps (by omega) hX)
    replace hr : r = .tuple #[.int .u64 ((getW w 3 5 : Nat) : Int), .bool true] := hr
    subst hr
    simp (config := { maxSteps := 1000000 }) (disch := omega) only [↓sh, ↓sh2, ↓reduceIte, sx, sl, sb, st, nbeq_ne, dle, relo_eq, wrap_i64, Nat.reduceBEq, Nat.reduceLT, Nat.reduceLeDiff, Nat.reduceAdd, Nat.reduceMul, Nat.reduceEqDiff, Int.reduceEq, Int.reduceLT, Int.reduceLE, Int.reduceNeg, Int.reduceToNat, Bool.false_eq_true, eq_self, sa, h13, h4, hX2]
    refine hQ _ _ (5 - 2) (by omega) ?_
    refine ⟨2, _, rfl, by omega, ?_, ?_, ?_, ?_, ?_, (s.trans (sB.trans s2x)).setRow _, by simp (disch := omega) only [setRow_get, newRow_get, newRow_next, setRow_next, newRow_lo, setRow_lo, newRow_grps, setRow_grps, newRow_relo, setRow_relo, relo_objs, relo_next, relo_lo, nbeq_ne, sl], .inr (.inr (.inl ⟨rfl, rfl⟩))⟩
    · simp (config := { maxSteps := 1000000 }) (disch := omega) only [↓sh, ↓sh2, ↓reduceIte, sx, sl, sb, st, nbeq_ne, dle, relo_eq, wrap_i64, Nat.reduceBEq, Nat.reduceLT, Nat.reduceLeDiff, Nat.reduceAdd, Nat.reduceMul, Nat.reduceEqDiff, Int.reduceEq, Int.reduceLT, Int.reduceLE, Int.reduceNeg, Int.reduceToNat, Bool.false_eq_true, eq_self, sa, h13]
      rfl
    · simp (config := { maxSteps := 1000000 }) (disch := omega) only [↓sh, ↓sh2, ↓reduceIte, sx, sl, sb, st, nbeq_ne, dle, relo_eq, wrap_i64, Nat.reduceBEq, Nat.reduceLT, Nat.reduceLeDiff, Nat.reduceAdd, Nat.reduceMul, Nat.reduceEqDiff, Int.reduceEq, Int.reduceLT, Int.reduceLE, Int.reduceNeg, Int.reduceToNat, Bool.false_eq_true, eq_self, sa, h0]
    · simp (config := { maxSteps := 1000000 }) (disch := omega) only [↓sh, ↓sh2, ↓reduceIte, sx, sl, sb, st, nbeq_ne, dle, relo_eq, wrap_i64, Nat.reduceBEq, Nat.reduceLT, Nat.reduceLeDiff, Nat.reduceAdd, Nat.reduceMul, Nat.reduceEqDiff, Int.reduceEq, Int.reduceLT, Int.reduceLE, Int.reduceNeg, Int.reduceToNat, Bool.false_eq_true, eq_self, sa, h4]
    · simp (config := { maxSteps := 1000000 }) (disch := omega) only [↓sh, ↓sh2, ↓reduceIte, sx, sl, sb, st, nbeq_ne, dle, relo_eq, wrap_i64, Nat.reduceBEq, Nat.reduceLT, Nat.reduceLeDiff, Nat.reduceAdd, Nat.reduceMul, Nat.reduceEqDiff, Int.reduceEq, Int.reduceLT, Int.reduceLE, Int.reduceNeg, Int.reduceToNat, Bool.false_eq_true, eq_self, sa, h2]
    · simp (config := { maxSteps := 1000000 }) (disch := omega) only [↓sh, ↓sh2, ↓reduceIte, sx, sl, sb, st, nbeq_ne, dle, relo_eq, wrap_i64, Nat.reduceBEq, Nat.reduceLT, Nat.reduceLeDiff, Nat.reduceAdd, Nat.reduceMul, Nat.reduceEqDiff, Int.reduceEq, Int.reduceLT, Int.reduceLE, Int.reduceNeg, Int.reduceToNat, Bool.false_eq_true, eq_self, sa, h12]
  · replace h13 : T.get 13 = some (.int .i64 2) := h13
    have sB := same_box X [Value.int .i64 0, Value.int .i64 0, Value.int .i64 0] [Value.int .i64 8, Value.int .i64 16, Value.int .i64 4096]
    have hlt := getW_lt w 8 16
    simp (config := { maxSteps := 1000000 }) (disch := omega) only [↓sh, ↓sh2, ↓reduceIte, sx, sl, sb, st, nbeq_ne, dle, relo_eq, wrap_i64, Nat.reduceBEq, Nat.reduceLT, Nat.reduceLeDiff, Nat.reduceAdd, Nat.reduceMul, Nat.reduceEqDiff, Int.reduceEq, Int.reduceLT, Int.reduceLE, Int.reduceNeg, Int.reduceToNat, Bool.false_eq_true, eq_self, sa, h13, h12, h0]
    refine (get_ok _ (by simp (disch := omega) only [setRow_get, newRow_get, newRow_next, setRow_next, newRow_lo, setRow_lo, newRow_grps, setRow_grps, newRow_relo, setRow_relo, relo_objs, relo_next, relo_lo, nbeq_ne, sl]; omega) w hw 8 16).mono ?_
    rintro r X2 ⟨hr, s2x⟩
    have l2x := s2x.lo
    simp only [setRow_lo, newRow_lo] at l2x
    have hX2 : X2.objs.get (H.next + 1) = _ := s2x.keeps (by simp (disch := omega) only [setRow_get, newRow_get, newRow_next, setRow_next, newRow_lo, setRow_lo, newRow_grps, setRow_grps, newRow_relo, setRow_relo, relo_objs, relo_next, relo_lo, nbeq_ne, sl]; omega) (sB.keeps (by omega) hX)
    replace hr : r = .tuple #[.int .u64 ((getW w 8 16 : Nat) : Int), .bool true] := hr
    subst hr
    simp (config := { maxSteps := 1000000 }) (disch := omega) only [↓sh, ↓sh2, ↓reduceIte, sx, sl, sb, st, nbeq_ne, dle, relo_eq, wrap_i64, Nat.reduceBEq, Nat.reduceLT, Nat.reduceLeDiff, Nat.reduceAdd, Nat.reduceMul, Nat.reduceEqDiff, Int.reduceEq, Int.reduceLT, Int.reduceLE, Int.reduceNeg, Int.reduceToNat, Bool.false_eq_true, eq_self, sa, h13, h4, hX2]
    refine hQ _ _ (5 - 3) (by omega) ?_
    refine ⟨3, _, rfl, by omega, ?_, ?_, ?_, ?_, ?_, (s.trans (sB.trans s2x)).setRow _, by simp (disch := omega) only [setRow_get, newRow_get, newRow_next, setRow_next, newRow_lo, setRow_lo, newRow_grps, setRow_grps, newRow_relo, setRow_relo, relo_objs, relo_next, relo_lo, nbeq_ne, sl], .inr (.inr (.inr (.inl ⟨rfl, rfl⟩)))⟩
    · simp (config := { maxSteps := 1000000 }) (disch := omega) only [↓sh, ↓sh2, ↓reduceIte, sx, sl, sb, st, nbeq_ne, dle, relo_eq, wrap_i64, Nat.reduceBEq, Nat.reduceLT, Nat.reduceLeDiff, Nat.reduceAdd, Nat.reduceMul, Nat.reduceEqDiff, Int.reduceEq, Int.reduceLT, Int.reduceLE, Int.reduceNeg, Int.reduceToNat, Bool.false_eq_true, eq_self, sa, h13]
      rfl
    · simp (config := { maxSteps := 1000000 }) (disch := omega) only [↓sh, ↓sh2, ↓reduceIte, sx, sl, sb, st, nbeq_ne, dle, relo_eq, wrap_i64, Nat.reduceBEq, Nat.reduceLT, Nat.reduceLeDiff, Nat.reduceAdd, Nat.reduceMul, Nat.reduceEqDiff, Int.reduceEq, Int.reduceLT, Int.reduceLE, Int.reduceNeg, Int.reduceToNat, Bool.false_eq_true, eq_self, sa, h0]
    · simp (config := { maxSteps := 1000000 }) (disch := omega) only [↓sh, ↓sh2, ↓reduceIte, sx, sl, sb, st, nbeq_ne, dle, relo_eq, wrap_i64, Nat.reduceBEq, Nat.reduceLT, Nat.reduceLeDiff, Nat.reduceAdd, Nat.reduceMul, Nat.reduceEqDiff, Int.reduceEq, Int.reduceLT, Int.reduceLE, Int.reduceNeg, Int.reduceToNat, Bool.false_eq_true, eq_self, sa, h4]
    · simp (config := { maxSteps := 1000000 }) (disch := omega) only [↓sh, ↓sh2, ↓reduceIte, sx, sl, sb, st, nbeq_ne, dle, relo_eq, wrap_i64, Nat.reduceBEq, Nat.reduceLT, Nat.reduceLeDiff, Nat.reduceAdd, Nat.reduceMul, Nat.reduceEqDiff, Int.reduceEq, Int.reduceLT, Int.reduceLE, Int.reduceNeg, Int.reduceToNat, Bool.false_eq_true, eq_self, sa, h2]
    · simp (config := { maxSteps := 1000000 }) (disch := omega) only [↓sh, ↓sh2, ↓reduceIte, sx, sl, sb, st, nbeq_ne, dle, relo_eq, wrap_i64, Nat.reduceBEq, Nat.reduceLT, Nat.reduceLeDiff, Nat.reduceAdd, Nat.reduceMul, Nat.reduceEqDiff, Int.reduceEq, Int.reduceLT, Int.reduceLE, Int.reduceNeg, Int.reduceToNat, Bool.false_eq_true, eq_self, sa, h12]
  · replace h13 : T.get 13 = some (.int .i64 3) := h13
    have sB := same_box X [Value.int .i64 0, Value.int .i64 0, Value.int .i64 0] [Value.int .i64 24, Value.int .i64 16, Value.int .i64 4096]
    have hlt := getW_lt w 24 16
    simp (config := { maxSteps := 1000000 }) (disch := omega) only [↓sh, ↓sh2, ↓reduceIte, sx, sl, sb, st, nbeq_ne, dle, relo_eq, wrap_i64, Nat.reduceBEq, Nat.reduceLT, Nat.reduceLeDiff, Nat.reduceAdd, Nat.reduceMul, Nat.reduceEqDiff, Int.reduceEq, Int.reduceLT, Int.reduceLE, Int.reduceNeg, Int.reduceToNat, Bool.false_eq_true, eq_self, sa, h13, h12, h0]
    refine (get_ok _ (by simp (disch := omega) only [setRow_get, newRow_get, newRow_next, setRow_next, newRow_lo, setRow_lo, newRow_grps, setRow_grps, newRow_relo, setRow_relo, relo_objs, relo_next, relo_lo, nbeq_ne, sl]; omega) w hw 24 16).mono ?_
    rintro r X2 ⟨hr, s2x⟩
    have l2x := s2x.lo
    simp only [setRow_lo, newRow_lo] at l2x
    have hX2 : X2.objs.get (H.next + 1) = _ := s2x.keeps (by simp (disch := omega) only [setRow_get, newRow_get, newRow_next, setRow_next, newRow_lo, setRow_lo, newRow_grps, setRow_grps, newRow_relo, setRow_relo, relo_objs, relo_next, relo_lo, nbeq_ne, sl]; omega) (sB.keeps (by omega) hX)
    replace hr : r = .tuple #[.int .u64 ((getW w 24 16 : Nat) : Int), .bool true] := hr
    subst hr
    simp (config := { maxSteps := 1000000 }) (disch := omega) only [↓sh, ↓sh2, ↓reduceIte, sx, sl, sb, st, nbeq_ne, dle, relo_eq, wrap_i64, Nat.reduceBEq, Nat.reduceLT, Nat.reduceLeDiff, Nat.reduceAdd, Nat.reduceMul, Nat.reduceEqDiff, Int.reduceEq, Int.reduceLT, Int.reduceLE, Int.reduceNeg, Int.reduceToNat, Bool.false_eq_true, eq_self, sa, h13, h4, hX2]
    refine hQ _ _ (5 - 4) (by omega) ?_
    refine ⟨4, _, rfl, by omega, ?_, ?_, ?_, ?_, ?_, (s.trans (sB.trans s2x)).setRow _, by simp (disch := omega) only [setRow_get, newRow_get, newRow_next, setRow_next, newRow_lo, setRow_lo, newRow_grps, setRow_grps, newRow_relo, setRow_relo, relo_objs, relo_next, relo_lo, nbeq_ne, sl], .inr (.inr (.inr (.inr (.inl ⟨rfl, rfl⟩))))⟩
    · simp (config := { maxSteps := 1000000 }) (disch := omega) only [↓sh, ↓sh2, ↓reduceIte, sx, sl, sb, st, nbeq_ne, dle, relo_eq, wrap_i64, Nat.reduceBEq, Nat.reduceLT, Nat.reduceLeDiff, Nat.reduceAdd, Nat.reduceMul, Nat.reduceEqDiff, Int.reduceEq, Int.reduceLT, Int.reduceLE, Int.reduceNeg, Int.reduceToNat, Bool.false_eq_true, eq_self, sa, h13]
      rfl
    · simp (config := { maxSteps := 1000000 }) (disch := omega) only [↓sh, ↓sh2, ↓reduceIte, sx, sl, sb, st, nbeq_ne, dle, relo_eq, wrap_i64, Nat.reduceBEq, Nat.reduceLT, Nat.reduceLeDiff, Nat.reduceAdd, Nat.reduceMul, Nat.reduceEqDiff, Int.reduceEq, Int.reduceLT, Int.reduceLE, Int.reduceNeg, Int.reduceToNat, Bool.false_eq_true, eq_self, sa, h0]
    · simp (config := { maxSteps := 1000000 }) (disch := omega) only [↓sh, ↓sh2, ↓reduceIte, sx, sl, sb, st, nbeq_ne, dle, relo_eq, wrap_i64, Nat.reduceBEq, Nat.reduceLT, Nat.reduceLeDiff, Nat.reduceAdd, Nat.reduceMul, Nat.reduceEqDiff, Int.reduceEq, Int.reduceLT, Int.reduceLE, Int.reduceNeg, Int.reduceToNat, Bool.false_eq_true, eq_self, sa, h4]
    · simp (config := { maxSteps := 1000000 }) (disch := omega) only [↓sh, ↓sh2, ↓reduceIte, sx, sl, sb, st, nbeq_ne, dle, relo_eq, wrap_i64, Nat.reduceBEq, Nat.reduceLT, Nat.reduceLeDiff, Nat.reduceAdd, Nat.reduceMul, Nat.reduceEqDiff, Int.reduceEq, Int.reduceLT, Int.reduceLE, Int.reduceNeg, Int.reduceToNat, Bool.false_eq_true, eq_self, sa, h2]
    · simp (config := { maxSteps := 1000000 }) (disch := omega) only [↓sh, ↓sh2, ↓reduceIte, sx, sl, sb, st, nbeq_ne, dle, relo_eq, wrap_i64, Nat.reduceBEq, Nat.reduceLT, Nat.reduceLeDiff, Nat.reduceAdd, Nat.reduceMul, Nat.reduceEqDiff, Int.reduceEq, Int.reduceLT, Int.reduceLE, Int.reduceNeg, Int.reduceToNat, Bool.false_eq_true, eq_self, sa, h12]
  · replace h13 : T.get 13 = some (.int .i64 4) := h13
    have sB := same_box X [Value.int .i64 0, Value.int .i64 0, Value.int .i64 0] [Value.int .i64 40, Value.int .i64 24, Value.int .i64 1048576]
    have hlt := getW_lt w 40 24
    simp (config := { maxSteps := 1000000 }) (disch := omega) only [↓sh, ↓sh2, ↓reduceIte, sx, sl, sb, st, nbeq_ne, dle, relo_eq, wrap_i64, Nat.reduceBEq, Nat.reduceLT, Nat.reduceLeDiff, Nat.reduceAdd, Nat.reduceMul, Nat.reduceEqDiff, Int.reduceEq, Int.reduceLT, Int.reduceLE, Int.reduceNeg, Int.reduceToNat, Bool.false_eq_true, eq_self, sa, h13, h12, h0]
    refine (get_ok _ (by simp (disch := omega) only [setRow_get, newRow_get, newRow_next, setRow_next, newRow_lo, setRow_lo, newRow_grps, setRow_grps, newRow_relo, setRow_relo, relo_objs, relo_next, relo_lo, nbeq_ne, sl]; omega) w hw 40 24).mono ?_
    rintro r X2 ⟨hr, s2x⟩
    have l2x := s2x.lo
    simp only [setRow_lo, newRow_lo] at l2x
    have hX2 : X2.objs.get (H.next + 1) = _ := s2x.keeps (by simp (disch := omega) only [setRow_get, newRow_get, newRow_next, setRow_next, newRow_lo, setRow_lo, newRow_grps, setRow_grps, newRow_relo, setRow_relo, relo_objs, relo_next, relo_lo, nbeq_ne, sl]; omega) (sB.keeps (by omega) hX)
    replace hr : r = .tuple #[.int .u64 ((getW w 40 24 : Nat) : Int), .bool true] := hr
    subst hr
    simp (config := { maxSteps := 1000000 }) (disch := omega) only [↓sh, ↓sh2, ↓reduceIte, sx, sl, sb, st, nbeq_ne, dle, relo_eq, wrap_i64, Nat.reduceBEq, Nat.reduceLT, Nat.reduceLeDiff, Nat.reduceAdd, Nat.reduceMul, Nat.reduceEqDiff, Int.reduceEq, Int.reduceLT, Int.reduceLE, Int.reduceNeg, Int.reduceToNat, Bool.false_eq_true, eq_self, sa, h13, h4, hX2]
    refine hQ _ _ (5 - 5) (by omega) ?_
    refine ⟨5, _, rfl, by omega, ?_, ?_, ?_, ?_, ?_, (s.trans (sB.trans s2x)).setRow _, by simp (disch := omega) only [setRow_get, newRow_get, newRow_next, setRow_next, newRow_lo, setRow_lo, newRow_grps, setRow_grps, newRow_relo, setRow_relo, relo_objs, relo_next, relo_lo, nbeq_ne, sl], .inr (.inr (.inr (.inr (.inr (⟨rfl, rfl⟩)))))⟩
    · simp (config := { maxSteps := 1000000 }) (disch := omega) only [↓sh, ↓sh2, ↓reduceIte, sx, sl, sb, st, nbeq_ne, dle, relo_eq, wrap_i64, Nat.reduceBEq, Nat.reduceLT, Nat.reduceLeDiff, Nat.reduceAdd, Nat.reduceMul, Nat.reduceEqDiff, Int.reduceEq, Int.reduceLT, Int.reduceLE, Int.reduceNeg, Int.reduceToNat, Bool.false_eq_true, eq_self, sa, h13]
      rfl
    · simp (config := { maxSteps := 1000000 }) (disch := omega) only [↓sh, ↓sh2, ↓reduceIte, sx, sl, sb, st, nbeq_ne, dle, relo_eq, wrap_i64, Nat.reduceBEq, Nat.reduceLT, Nat.reduceLeDiff, Nat.reduceAdd, Nat.reduceMul, Nat.reduceEqDiff, Int.reduceEq, Int.reduceLT, Int.reduceLE, Int.reduceNeg, Int.reduceToNat, Bool.false_eq_true, eq_self, sa, h0]
    · simp (config := { maxSteps := 1000000 }) (disch := omega) only [↓sh, ↓sh2, ↓reduceIte, sx, sl, sb, st, nbeq_ne, dle, relo_eq, wrap_i64, Nat.reduceBEq, Nat.reduceLT, Nat.reduceLeDiff, Nat.reduceAdd, Nat.reduceMul, Nat.reduceEqDiff, Int.reduceEq, Int.reduceLT, Int.reduceLE, Int.reduceNeg, Int.reduceToNat, Bool.false_eq_true, eq_self, sa, h4]
    · simp (config := { maxSteps := 1000000 }) (disch := omega) only [↓sh, ↓sh2, ↓reduceIte, sx, sl, sb, st, nbeq_ne, dle, relo_eq, wrap_i64, Nat.reduceBEq, Nat.reduceLT, Nat.reduceLeDiff, Nat.reduceAdd, Nat.reduceMul, Nat.reduceEqDiff, Int.reduceEq, Int.reduceLT, Int.reduceLE, Int.reduceNeg, Int.reduceToNat, Bool.false_eq_true, eq_self, sa, h2]
    · simp (config := { maxSteps := 1000000 }) (disch := omega) only [↓sh, ↓sh2, ↓reduceIte, sx, sl, sb, st, nbeq_ne, dle, relo_eq, wrap_i64, Nat.reduceBEq, Nat.reduceLT, Nat.reduceLeDiff, Nat.reduceAdd, Nat.reduceMul, Nat.reduceEqDiff, Int.reduceEq, Int.reduceLT, Int.reduceLE, Int.reduceNeg, Int.reduceToNat, Bool.false_eq_true, eq_self, sa, h12]
  · replace h13 : T.get 13 = some (.int .i64 5) := h13
    simp (config := { maxSteps := 1000000 }) (disch := omega) only [↓sh, ↓sh2, ↓reduceIte, sx, sl, sb, st, nbeq_ne, dle, relo_eq, wrap_i64, Nat.reduceBEq, Nat.reduceLT, Nat.reduceLeDiff, Nat.reduceAdd, Nat.reduceMul, Nat.reduceEqDiff, Int.reduceEq, Int.reduceLT, Int.reduceLE, Int.reduceNeg, Int.reduceToNat, Bool.false_eq_true, eq_self, sa, h13]
    refine hQe _ _ _ _ ?_
    simp (config := { maxSteps := 1000000 }) (disch := omega) only [↓sh, ↓sh2, ↓reduceIte, sx, sl, sb, st, nbeq_ne, dle, relo_eq, wrap_i64, Nat.reduceBEq, Nat.reduceLT, Nat.reduceLeDiff, Nat.reduceAdd, Nat.reduceMul, Nat.reduceEqDiff, Int.reduceEq, Int.reduceLT, Int.reduceLE, Int.reduceNeg, Int.reduceToNat, Bool.false_eq_true, eq_self, sa, h4, hX]
    refine callA_named (fun H5 e5 => ?_)
    have s5 : Same X H5 := by rw [e5]; exact same_box _ _ _
    have n5 : H5.next = X.next + 1 := by rw [e5]; simp (disch := omega) only [setRow_get, newRow_get, newRow_next, setRow_next, newRow_lo, setRow_lo, newRow_grps, setRow_grps, newRow_relo, setRow_relo, relo_objs, relo_next, relo_lo, nbeq_ne, sl]
    have l5 := s5.lo
    have b5 : H5.objs.get X.next = some (.row (hdCells (decHd w)) none true) := by rw [e5, setRow_get, nbeq_eq rfl]; rfl
    clear e5
    refine (enc_ok H5 (by omega) (decHd w)).mono ?_
    rintro r H6 ⟨hr, s6⟩
    have n6 := s6.nxt
    have l6 := s6.lo
    have b6 := s6.keeps (by omega) b5
    have bR6 := s6.keeps (by omega) (s5.keeps (by omega) bRX)
    have s06 := s0X.trans (s5.trans s6)
    simp only [hdCells] at b6
    cases hk : okH (decHd w)
    case false =>
      rw [hk] at hr
      replace hr : r = .tuple #[.int .u64 0, .int .i64 1] := hr
      subst hr
      have hi : isHd w = false := by simp only [isHd, hk]; rfl
      simp (config := { maxSteps := 1000000 }) (disch := omega) only [↓sh, ↓sh2, ↓reduceIte, sx, sl, sb, st, nbeq_ne, dle, relo_eq, wrap_i64, Nat.reduceBEq, Nat.reduceLT, Nat.reduceLeDiff, Nat.reduceAdd, Nat.reduceMul, Nat.reduceEqDiff, Int.reduceEq, Int.reduceLT, Int.reduceLE, Int.reduceNeg, Int.reduceToNat, Bool.false_eq_true, eq_self, sa, h0, h2, bR6, b6]
      rw [hi]
      exact ⟨rfl, s06.setRow (by omega) _⟩
    rw [hk] at hr
    replace hr : r = .tuple #[.int .u64 (wH (decHd w) 5 : Nat), .int .i64 0] := hr
    subst hr
    cases he : decide (((wH (decHd w) 5 : Nat) : Int) = (w : Int))
    case false =>
      have hi : isHd w = false := by
        simp only [isHd, hk]
        rw [decide_eq_false_iff_not] at he
        rw [if_pos trivial, decide_eq_false_iff_not]
        omega
      simp (config := { maxSteps := 1000000 }) (disch := omega) only [↓sh, ↓sh2, ↓reduceIte, sx, sl, sb, st, nbeq_ne, dle, relo_eq, wrap_i64, Nat.reduceBEq, Nat.reduceLT, Nat.reduceLeDiff, Nat.reduceAdd, Nat.reduceMul, Nat.reduceEqDiff, Int.reduceEq, Int.reduceLT, Int.reduceLE, Int.reduceNeg, Int.reduceToNat, Bool.false_eq_true, eq_self, sa, h0, h2, bR6, b6, he]
      rw [hi]
      exact ⟨rfl, s06.setRow (by omega) _⟩
    have hi : isHd w = true := by
      simp only [isHd, hk]
      rw [decide_eq_true_iff] at he
      rw [if_pos trivial, decide_eq_true_iff]
      omega
    simp (config := { maxSteps := 1000000 }) (disch := omega) only [↓sh, ↓sh2, ↓reduceIte, sx, sl, sb, st, nbeq_ne, dle, relo_eq, wrap_i64, Nat.reduceBEq, Nat.reduceLT, Nat.reduceLeDiff, Nat.reduceAdd, Nat.reduceMul, Nat.reduceEqDiff, Int.reduceEq, Int.reduceLT, Int.reduceLE, Int.reduceNeg, Int.reduceToNat, Bool.false_eq_true, eq_self, sa, h0, h2, bR6, b6, he]
    rw [hi]
    exact ⟨rfl, s06.setRow (by omega) _⟩
end Go.AM
