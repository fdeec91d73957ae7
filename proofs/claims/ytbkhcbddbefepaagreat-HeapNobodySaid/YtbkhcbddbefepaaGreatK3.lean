/-
  Walks over letters of the functions that the law reaches.
-/
import Derived.Test.YtbkhcbddbefepaaGreatK2
namespace Go.AM
attribute [local instance] fnMaps
open Go Go.Proofs
set_option maxRecDepth 100000
set_option maxHeartbeats 1000000
set_option linter.unusedSimpArgs false
theorem high_bit {x i : Nat} (hx : x < 2 ^ 64) (hi : 64 ≤ i) : x.testBit i = false := Nat.testBit_lt_two_pow (Nat.lt_of_lt_of_le hx (Nat.pow_le_pow_right (by omega) hi))
theorem andNot_bit {a b : Nat} (ha : a < 2 ^ 64) (hb : b < 2 ^ 64) (i : Nat) : (andNot a b).testBit i = (a.testBit i && !b.testBit i) := by
  rw [andNot, show 2 ^ 64 - 1 - b = 2 ^ 64 - (b + 1) by omega, Nat.testBit_and, Nat.testBit_two_pow_sub_succ hb]
  by_cases h : i < 64
  · simp [h]
  · rw [high_bit ha (by omega)]; simp
theorem andNot_mask {x n : Nat} (hx : x < 2 ^ 64) (hn : n < 64) : andNot x (2 ^ n - 1) = x / 2 ^ n * 2 ^ n := by
  have hm : 2 ^ n - 1 < 2 ^ 64 := by
    have : 2 ^ n ≤ 2 ^ 64 := Nat.pow_le_pow_right (by omega) (by omega)
    have : 0 < 2 ^ n := Nat.pow_pos (by omega)
    omega
  refine Nat.eq_of_testBit_eq fun i => ?_
  rw [andNot_bit hx hm, Nat.testBit_two_pow_sub_one, ← Nat.shiftRight_eq_div_pow, ← Nat.shiftLeft_eq, Nat.testBit_shiftLeft, Nat.testBit_shiftRight]
  by_cases h : i < n
  · simp [h, show ¬ n ≤ i by omega]
  · simp [h, show n ≤ i by omega, show n + (i - n) = i by omega]
theorem small_iff {x n : Nat} (hx : x < 2 ^ 64) (hn : n ≤ 64) : andNot x (maskN n) = 0 ↔ x < 2 ^ n := by
  unfold maskN
  by_cases h : 64 ≤ n
  · have : n = 64 := by omega
    subst this
    rw [if_pos h]
    constructor
    · intro _; exact hx
    · intro _
      show x &&& (2 ^ 64 - 1 - 18446744073709551615) = 0
      simp
  · rw [if_neg h, andNot_mask hx (by omega)]
    have hp : 0 < 2 ^ n := Nat.pow_pos (by omega)
    constructor
    · intro h0
      rcases Nat.mul_eq_zero.1 h0 with h1 | h1
      · exact (Nat.div_eq_zero_iff_lt hp).1 h1
      · omega
    · intro h1
      rw [Nat.div_eq_of_lt h1, Nat.zero_mul]
def getW (w a n : Nat) : Nat := w / 2 ^ a % 2 ^ n
theorem and_mask {x n : Nat} (hx : x < 2 ^ 64) (hn : n ≤ 64) : x &&& maskN n = x % 2 ^ n := by
  unfold maskN
  by_cases h : 64 ≤ n
  · have : n = 64 := by omega
    subst this
    rw [if_pos h, show (18446744073709551615 : Nat) = 2 ^ 64 - 1 by decide, Nat.and_two_pow_sub_one_eq_mod]
  · rw [if_neg h, Nat.and_two_pow_sub_one_eq_mod]
theorem get_ok (H : Heap) (hlo : H.lo ≤ H.next) (w : Nat) (hw : w < 2 ^ 64) (a n : Int) : CallA E (fnv 134) [.int .u64 (w : Int), .int .i64 a, .int .i64 n] H fun r H' => r = .tuple #[.int .u64 ((if partW a n then getW w a.toNat n.toNat else 0 : Nat) : Int), .bool (partW a n)] ∧ Same H H' := by
  refine callA_fn (by kernel_rfl) fn134 rfl rfl ?_
  simp only [Tryz.f134]
  simp (config := { maxSteps := 1000000 }) (disch := omega) only [↓sh, ↓sh2, ↓reduceIte, sx, sl, sb, st, nbeq_ne, dle, relo_eq, wrap_i64, Nat.reduceBEq, Nat.reduceLT, Nat.reduceLeDiff, Nat.reduceAdd, Nat.reduceMul, Nat.reduceEqDiff, Int.reduceEq, Int.reduceLT, Int.reduceLE, Int.reduceNeg, Int.reduceToNat, Bool.false_eq_true, eq_self, sa]
  refine (wpart_ok H hlo a n).mono ?_
  rintro r H2 ⟨rfl, s2⟩
  cases hp : partW a n
  case false =>
    simp (config := { maxSteps := 1000000 }) (disch := omega) only [↓sh, ↓sh2, ↓reduceIte, sx, sl, sb, st, nbeq_ne, dle, relo_eq, wrap_i64, Nat.reduceBEq, Nat.reduceLT, Nat.reduceLeDiff, Nat.reduceAdd, Nat.reduceMul, Nat.reduceEqDiff, Int.reduceEq, Int.reduceLT, Int.reduceLE, Int.reduceNeg, Int.reduceToNat, Bool.false_eq_true, eq_self, sa]
    exact ⟨rfl, s2⟩
  obtain ⟨h1, h2, h3, h4⟩ := partW_in hp
  obtain ⟨A, rfl⟩ : ∃ A : Nat, a = A := ⟨a.toNat, by omega⟩
  obtain ⟨N, rfl⟩ : ∃ N : Nat, n = N := ⟨n.toNat, by omega⟩
  have hs := shr_nat hw (n := A) (by omega)
  have hd : w / 2 ^ A < 2 ^ 64 := Nat.lt_of_le_of_lt (Nat.div_le_self _ _) hw
  have ha := and_nat hd (maskN_lt N)
  rw [and_mask hd (by omega)] at ha
  have l2 := s2.lo
  simp only [Int.toNat_natCast, if_true, getW]
  generalize w / 2 ^ A % 2 ^ N = res at ha
  generalize w / 2 ^ A = q at hs ha hd
  simp (config := { maxSteps := 1000000 }) (disch := omega) only [↓sh, ↓sh2, ↓reduceIte, sx, sl, sb, st, nbeq_ne, dle, relo_eq, wrap_i64, Nat.reduceBEq, Nat.reduceLT, Nat.reduceLeDiff, Nat.reduceAdd, Nat.reduceMul, Nat.reduceEqDiff, Int.reduceEq, Int.reduceLT, Int.reduceLE, Int.reduceNeg, Int.reduceToNat, Bool.false_eq_true, eq_self, sa]
  refine wps_draw [(false, [], []), (false, [], []), (false, [], []), (false, [], []), (false, [], []), (false, [], []), (false, [], []), (false, [], [])] (by kernel_rfl) ?_
  simp (config := { maxSteps := 1000000 }) (disch := omega) only [↓sh, ↓sh2, ↓reduceIte, sx, sl, sb, st, nbeq_ne, dle, relo_eq, wrap_i64, Nat.reduceBEq, Nat.reduceLT, Nat.reduceLeDiff, Nat.reduceAdd, Nat.reduceMul, Nat.reduceEqDiff, Int.reduceEq, Int.reduceLT, Int.reduceLE, Int.reduceNeg, Int.reduceToNat, Bool.false_eq_true, eq_self, sa, hs]
  refine (mask_ok _ N).mono ?_
  rintro r H3 ⟨rfl, rfl⟩
  simp (config := { maxSteps := 1000000 }) (disch := omega) only [↓sh, ↓sh2, ↓reduceIte, sx, sl, sb, st, nbeq_ne, dle, relo_eq, wrap_i64, Nat.reduceBEq, Nat.reduceLT, Nat.reduceLeDiff, Nat.reduceAdd, Nat.reduceMul, Nat.reduceEqDiff, Int.reduceEq, Int.reduceLT, Int.reduceLE, Int.reduceNeg, Int.reduceToNat, Bool.false_eq_true, eq_self, sa, ha]
  exact s2
end Go.AM
