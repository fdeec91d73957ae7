/-
  Walks over letters of the functions that the law reaches.
-/
import Derived.Test.YtbkhcbddbefepaaGreatK3
namespace Go.AM
attribute [local instance] fnMaps
open Go Go.Proofs
set_option maxRecDepth 100000
set_option maxHeartbeats 1000000
set_option linter.unusedSimpArgs false
theorem shl_lt {x N A : Nat} (hx : x < 2 ^ N) (h : N + A ≤ 64) : x * 2 ^ A < 2 ^ 64 := by
  have h1 : x * 2 ^ A < 2 ^ N * 2 ^ A := Nat.mul_lt_mul_of_pos_right hx (Nat.pow_pos (by omega))
  rw [← Nat.pow_add] at h1
  exact Nat.lt_of_lt_of_le h1 (Nat.pow_le_pow_right (by omega) h)
theorem maskN_bits {N : Nat} (h : N ≤ 64) : maskN N < 2 ^ N := by
  unfold maskN
  by_cases h6 : 64 ≤ N
  · have : N = 64 := by omega
    subst this
    rw [if_pos h6]; decide
  · rw [if_neg h6]
    have : 0 < 2 ^ N := Nat.pow_pos (by omega)
    omega
def putW (w a n x : Nat) : Nat := andNot w (maskN n * 2 ^ a) ||| (x * 2 ^ a)
theorem andNot_lt {a b : Nat} (h : a < 2 ^ 64) : andNot a b < 2 ^ 64 := Nat.lt_of_le_of_lt Nat.and_le_left h
theorem put_above {w a n x : Nat} (hw : w < 2 ^ a) (hn : n + a ≤ 64) : putW w a n x = w + x * 2 ^ a := by
  have hw64 : w < 2 ^ 64 := Nat.lt_of_lt_of_le hw (Nat.pow_le_pow_right (by omega) (by omega))
  have e : andNot w (maskN n * 2 ^ a) = w := by
    refine Nat.eq_of_testBit_eq fun i => ?_
    rw [andNot_bit hw64 (shl_lt (maskN_bits (by omega)) hn), ← Nat.shiftLeft_eq, Nat.testBit_shiftLeft]
    by_cases h : a ≤ i
    · rw [Nat.testBit_lt_two_pow (Nat.lt_of_lt_of_le hw (Nat.pow_le_pow_right (by omega) h))]; rfl
    · simp [h]
  rw [putW, e, Nat.mul_comm, Nat.add_comm]
  rw [Nat.two_pow_add_eq_or_of_lt hw, Nat.or_comm]
def okPut (a n : Int) (x : Nat) : Bool := if partW a n then decide (x < 2 ^ n.toNat) else false
theorem put_ok (H : Heap) (hlo : H.lo ≤ H.next) (w x : Nat) (hw : w < 2 ^ 64) (hx : x < 2 ^ 64) (a n : Int) : CallA E (fnv 56) [.int .u64 (w : Int), .int .i64 a, .int .i64 n, .int .u64 (x : Int)] H fun r H' => r = .tuple #[.int .u64 ((if okPut a n x then putW w a.toNat n.toNat x else 0 : Nat) : Int), .bool (okPut a n x)] ∧ Same H H' := by
  refine callA_fn (by kernel_rfl) fn56 rfl rfl ?_
  simp only [Tryz.f56]
  simp (config := { maxSteps := 1000000 }) (disch := omega) only [↓sh, ↓sh2, ↓reduceIte, sx, sl, sb, st, nbeq_ne, dle, relo_eq, wrap_i64, Nat.reduceBEq, Nat.reduceLT, Nat.reduceLeDiff, Nat.reduceAdd, Nat.reduceMul, Nat.reduceEqDiff, Int.reduceEq, Int.reduceLT, Int.reduceLE, Int.reduceNeg, Int.reduceToNat, Bool.false_eq_true, eq_self, sa, of_4]
  refine (wpart_ok H hlo a n).mono ?_
  rintro r H2 ⟨rfl, s2⟩
  cases hp : partW a n
  case false =>
    simp (config := { maxSteps := 1000000 }) (disch := omega) only [↓sh, ↓sh2, ↓reduceIte, sx, sl, sb, st, nbeq_ne, dle, relo_eq, wrap_i64, Nat.reduceBEq, Nat.reduceLT, Nat.reduceLeDiff, Nat.reduceAdd, Nat.reduceMul, Nat.reduceEqDiff, Int.reduceEq, Int.reduceLT, Int.reduceLE, Int.reduceNeg, Int.reduceToNat, Bool.false_eq_true, eq_self, sa]
    exact ⟨by simp only [okPut, hp]; rfl, s2⟩
  obtain ⟨h1, h2, h3, h4⟩ := partW_in hp
  obtain ⟨A, rfl⟩ : ∃ A : Nat, a = A := ⟨a.toNat, by omega⟩
  obtain ⟨N, rfl⟩ : ∃ N : Nat, n = N := ⟨n.toNat, by omega⟩
  have l2 := s2.lo
  have hok : okPut (A : Int) (N : Int) x = decide (x < 2 ^ N) := by simp only [okPut, hp, if_true, Int.toNat_natCast]
  have hn0 := andnot_nat hx (maskN_lt N)
  simp (config := { maxSteps := 1000000 }) (disch := omega) only [↓sh, ↓sh2, ↓reduceIte, sx, sl, sb, st, nbeq_ne, dle, relo_eq, wrap_i64, Nat.reduceBEq, Nat.reduceLT, Nat.reduceLeDiff, Nat.reduceAdd, Nat.reduceMul, Nat.reduceEqDiff, Int.reduceEq, Int.reduceLT, Int.reduceLE, Int.reduceNeg, Int.reduceToNat, Bool.false_eq_true, eq_self, sa]
  refine (mask_ok _ N).mono ?_
  rintro r H3 ⟨rfl, rfl⟩
  by_cases hxs : x < 2 ^ N
  rotate_left
  · have d0 : decide (((andNot x (maskN N) : Nat) : Int) = 0) = false := by
      rw [decide_eq_false_iff_not]
      intro h0
      exact hxs ((small_iff hx (by omega)).1 (by omega))
    have hok : okPut (A : Int) (N : Int) x = false := by rw [hok]; simpa using hxs
    simp (config := { maxSteps := 1000000 }) (disch := omega) only [↓sh, ↓sh2, ↓reduceIte, sx, sl, sb, st, nbeq_ne, dle, relo_eq, wrap_i64, Nat.reduceBEq, Nat.reduceLT, Nat.reduceLeDiff, Nat.reduceAdd, Nat.reduceMul, Nat.reduceEqDiff, Int.reduceEq, Int.reduceLT, Int.reduceLE, Int.reduceNeg, Int.reduceToNat, Bool.false_eq_true, eq_self, sa, hn0, d0]
    exact ⟨by rw [hok]; rfl, s2⟩
  have d0 : decide (((andNot x (maskN N) : Nat) : Int) = 0) = true := by
    rw [decide_eq_true_iff, (small_iff hx (by omega)).2 hxs]; rfl
  have hok : okPut (A : Int) (N : Int) x = true := by rw [hok]; simpa using hxs
  have hml := shl_lt (maskN_bits (show N ≤ 64 by omega)) (show N + A ≤ 64 by omega)
  have hxl := shl_lt hxs (show N + A ≤ 64 by omega)
  have hs1 := shl_nat (a := maskN N) (n := A) (by omega) hml
  have hs2 := shl_nat (a := x) (n := A) (by omega) hxl
  have hn1 := andnot_nat hw hml
  have hor := or_nat (andNot_lt (b := maskN N * 2 ^ A) hw) hxl
  rw [hok]
  simp only [if_true, Int.toNat_natCast, putW]
  clear hok hml hxl hxs
  generalize maskN N * 2 ^ A = m at hs1 hn1 hor
  generalize x * 2 ^ A = y at hs2 hor
  generalize andNot w m ||| y = z at hor
  generalize andNot w m = q at hn1 hor
  simp (config := { maxSteps := 1000000 }) (disch := omega) only [↓sh, ↓sh2, ↓reduceIte, sx, sl, sb, st, nbeq_ne, dle, relo_eq, wrap_i64, Nat.reduceBEq, Nat.reduceLT, Nat.reduceLeDiff, Nat.reduceAdd, Nat.reduceMul, Nat.reduceEqDiff, Int.reduceEq, Int.reduceLT, Int.reduceLE, Int.reduceNeg, Int.reduceToNat, Bool.false_eq_true, eq_self, sa, hn0, d0]
  refine wps_draw [(false, [], []), (false, [], []), (false, [], []), (false, [], []), (false, [], []), (false, [], []), (false, [], []), (false, [], []), (false, [], []), (false, [], []), (false, [], []), (false, [], [])] (by kernel_rfl) ?_
  simp (config := { maxSteps := 1000000 }) (disch := omega) only [↓sh, ↓sh2, ↓reduceIte, sx, sl, sb, st, nbeq_ne, dle, relo_eq, wrap_i64, Nat.reduceBEq, Nat.reduceLT, Nat.reduceLeDiff, Nat.reduceAdd, Nat.reduceMul, Nat.reduceEqDiff, Int.reduceEq, Int.reduceLT, Int.reduceLE, Int.reduceNeg, Int.reduceToNat, Bool.false_eq_true, eq_self, sa]
  refine (mask_ok _ N).mono ?_
  rintro r H4 ⟨rfl, rfl⟩
  simp (config := { maxSteps := 1000000 }) (disch := omega) only [↓sh, ↓sh2, ↓reduceIte, sx, sl, sb, st, nbeq_ne, dle, relo_eq, wrap_i64, Nat.reduceBEq, Nat.reduceLT, Nat.reduceLeDiff, Nat.reduceAdd, Nat.reduceMul, Nat.reduceEqDiff, Int.reduceEq, Int.reduceLT, Int.reduceLE, Int.reduceNeg, Int.reduceToNat, Bool.false_eq_true, eq_self, sa, hs1, hs2, hn1, hor]
  exact s2
end Go.AM
