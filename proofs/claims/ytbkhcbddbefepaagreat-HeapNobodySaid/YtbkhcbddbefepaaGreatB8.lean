/-
  Walks over letters of the functions that the law reaches.
-/
import Derived.Test.YtbkhcbddbefepaaGreatB7
namespace Go.AM
attribute [local instance] fnMaps
open Go Go.Proofs
set_option maxRecDepth 100000
set_option maxHeartbeats 1000000
set_option linter.unusedSimpArgs false
def fieldW (ws : List Nat) (i k : Int) (raw : Bool) : Nat := if fieldE ws i k raw = 0 then wAt ws (fieldK ws i k raw) else 0
theorem fieldK_in {ws : List Nat} {i k : Int} {raw : Bool} (h : fieldE ws i k raw = 0) : 0 ≤ fieldK ws i k raw ∧ fieldK ws i k raw < ws.length ∧ headE ws i = 0 ∧ i < fieldK ws i k raw ∧ fieldK ws i k raw < i + sizeH (headAt ws i) := by
  have h0 := h
  unfold fieldE at h
  split at h
  · rename_i hp
    obtain ⟨h1, h2, h3, h4, _⟩ := headE_in hp
    have h6 := okH_in h3
    have hs : sizeH (headAt ws i) = 1 + (headAt ws i).fields + (headAt ws i).raws := by unfold sizeH; rw [if_pos h3]
    unfold fieldK
    rw [if_pos h0]
    cases raw <;> simp at h ⊢ <;> omega
  · omega
theorem fn139 : E.fn.get 139 = some Tryz.f139 := by kernel_rfl
theorem oread_ok (H : Heap) (hlo : H.lo ≤ H.next) {a rw g : Nat} {ws : List Nat} (h : Ar H a rw g ws) (i : Int) (hi : -9223372036854775808 ≤ i ∧ i ≤ 9223372036854775807) (k : Int) (raw : Bool) : CallA E (fnv 139) [ptr a 0, .int .i64 i, .int .i64 k, .bool raw] H fun r H' => r = .tuple #[.int .u64 (fieldW ws i k raw), .int .i64 (fieldE ws i k raw)] ∧ Same H H' := by
  refine callA_fn (by kernel_rfl) fn139 rfl rfl ?_
  simp only [Tryz.f139]
  by_cases hp : fieldE ws i k raw = 0
  · obtain ⟨h1, h2, _⟩ := fieldK_in hp
    have e : placeE ws.length (fieldK ws i k raw) = 0 := if_pos ⟨h1, h2⟩
    have e2 : fieldW ws i k raw = ws.getD (fieldK ws i k raw).toNat 0 := by unfold fieldW; rw [if_pos hp]; rfl
    repeat' (first | refine boolP_dec (fun _ => ?_) (fun _ => ?_) | apply boolP_not | refine boolP_b (fun _ => ?_) (fun _ => ?_) | ((with_reducible show CallA _ _ _ _ _); (first | refine call_ko (H0 := H) koW (oplace_ok _ loW (by first | exact h | exact h.same koW) i hi k raw) ?_ | refine call_ko (H0 := H) koW (aread_ok _ loW (by first | exact h | exact h.same koW) (fieldK ws i k raw)) ?_); intro H2 k2 l2 n2 g2 q2; try simp (disch := omega) only [sm, sl] at l2 n2 g2 q2) | simp (config := { maxSteps := 1000000 }) (disch := omega) only [↓sh, ↓sh2, ↓reduceIte, sx, sl, sb, st, nbeq_ne, dle, relo_eq, wrap_i64, Nat.reduceBEq, Nat.reduceLT, Nat.reduceLeDiff, Nat.reduceAdd, Nat.reduceMul, Nat.reduceEqDiff, Int.reduceEq, Int.reduceLT, Int.reduceLE, Int.reduceNeg, Int.reduceToNat, Bool.false_eq_true, eq_self, sa, *])
    exact sameW
  · have e2 : fieldW ws i k raw = 0 := if_neg hp
    repeat' (first | refine boolP_dec (fun _ => ?_) (fun _ => ?_) | apply boolP_not | refine boolP_b (fun _ => ?_) (fun _ => ?_) | ((with_reducible show CallA _ _ _ _ _); refine call_ko (H0 := H) koW (oplace_ok _ loW (by first | exact h | exact h.same koW) i hi k raw) ?_; intro H2 k2 l2 n2 g2 q2; try simp (disch := omega) only [sm, sl] at l2 n2 g2 q2) | simp (config := { maxSteps := 1000000 }) (disch := omega) only [↓sh, ↓sh2, ↓reduceIte, sx, sl, sb, st, nbeq_ne, dle, relo_eq, wrap_i64, Nat.reduceBEq, Nat.reduceLT, Nat.reduceLeDiff, Nat.reduceAdd, Nat.reduceMul, Nat.reduceEqDiff, Int.reduceEq, Int.reduceLT, Int.reduceLE, Int.reduceNeg, Int.reduceToNat, Bool.false_eq_true, eq_self, sa, Int.natCast_zero, *])
    exact sameW
theorem fn112 : E.fn.get 112 = some Tryz.f112 := by kernel_rfl
theorem ofield_ok (H : Heap) (hlo : H.lo ≤ H.next) {a rw g : Nat} {ws : List Nat} (h : Ar H a rw g ws) (i : Int) (hi : -9223372036854775808 ≤ i ∧ i ≤ 9223372036854775807) (k : Int) : CallA E (fnv 112) [ptr a 0, .int .i64 i, .int .i64 k] H fun r H' => r = .tuple #[.int .u64 (fieldW ws i k false), .int .i64 (fieldE ws i k false)] ∧ Same H H' := by
  refine callA_fn (by kernel_rfl) fn112 rfl rfl ?_
  simp only [Tryz.f112]
  repeat' (first | refine boolP_dec (fun _ => ?_) (fun _ => ?_) | apply boolP_not | refine boolP_b (fun _ => ?_) (fun _ => ?_) | ((with_reducible show CallA _ _ _ _ _); refine call_ko (H0 := H) koW (oread_ok _ loW (by first | exact h | exact h.same koW) i hi k false) ?_; intro H2 k2 l2 n2 g2 q2; try simp (disch := omega) only [sm, sl] at l2 n2 g2 q2) | simp (config := { maxSteps := 1000000 }) (disch := omega) only [↓sh, ↓sh2, ↓reduceIte, sx, sl, sb, st, nbeq_ne, dle, relo_eq, wrap_i64, Nat.reduceBEq, Nat.reduceLT, Nat.reduceLeDiff, Nat.reduceAdd, Nat.reduceMul, Nat.reduceEqDiff, Int.reduceEq, Int.reduceLT, Int.reduceLE, Int.reduceNeg, Int.reduceToNat, Bool.false_eq_true, eq_self, sa, *])
  exact sameW
end Go.AM
