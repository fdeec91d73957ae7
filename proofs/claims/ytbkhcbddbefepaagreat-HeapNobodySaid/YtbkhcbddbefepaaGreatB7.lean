/-
  Walks over letters of the functions that the law reaches.
-/
import Derived.Test.YtbkhcbddbefepaaGreatB6
namespace Go.AM
attribute [local instance] fnMaps
open Go Go.Proofs
set_option maxRecDepth 100000
set_option maxHeartbeats 1000000
set_option linter.unusedSimpArgs false
theorem headE_place {ws : List Nat} {i : Int} (h : headE ws i = 0) : placeE ws.length i = 0 := by
  unfold headE at h
  split at h
  · assumption
  · omega
def fieldE (ws : List Nat) (i k : Int) (raw : Bool) : Int := if headE ws i = 0 then (if 0 ≤ k ∧ k < (if raw then (headAt ws i).raws else (headAt ws i).fields) then 0 else 1) else headE ws i
def fieldK (ws : List Nat) (i k : Int) (raw : Bool) : Int := if fieldE ws i k raw = 0 then i + 1 + (if raw then (headAt ws i).fields else 0) + k else 0
theorem headE_in {ws : List Nat} {i : Int} (h : headE ws i = 0) : 0 ≤ i ∧ i < ws.length ∧ okH (headAt ws i) = true ∧ i + sizeH (headAt ws i) ≤ ws.length ∧ headAt ws i = decHd (wAt ws i) := by
  have hp := headE_place h
  have hq : 0 ≤ i ∧ i < ws.length := by unfold placeE at hp; split at hp <;> omega
  have e2 : headAt ws i = decHd (wAt ws i) := by unfold headAt; rw [if_pos h]
  unfold headE at h
  rw [if_pos hp] at h
  split at h
  · rename_i hd
    split at h
    · omega
    · refine ⟨hq.1, hq.2, ?_, by rw [e2]; omega, e2⟩
      rw [e2]
      unfold isHd at hd
      split at hd
      · assumption
      · cases hd
  · omega
theorem fn149 : E.fn.get 149 = some Tryz.f149 := by kernel_rfl
theorem oplace_ok (H : Heap) (hlo : H.lo ≤ H.next) {a rw g : Nat} {ws : List Nat} (h : Ar H a rw g ws) (i : Int) (hi : -9223372036854775808 ≤ i ∧ i ≤ 9223372036854775807) (k : Int) (raw : Bool) : CallA E (fnv 149) [ptr a 0, .int .i64 i, .int .i64 k, .bool raw] H fun r H' => r = .tuple #[.int .i64 (fieldK ws i k raw), .int .i64 (fieldE ws i k raw)] ∧ Same H H' := by
  have hl := h.len
  refine callA_fn (by kernel_rfl) fn149 rfl rfl ?_
  simp only [Tryz.f149]
  by_cases hp : headE ws i = 0
  · obtain ⟨h1, h2, h3, h4, h5⟩ := headE_in hp
    have h6 := okH_in h3
    rw [h5] at h6
    cases raw
    all_goals (repeat' (first | refine boolP_dec (fun _ => ?_) (fun _ => ?_) | apply boolP_not | refine boolP_b (fun _ => ?_) (fun _ => ?_) | refine wps_draw (id := 4) [Fx, Fx, Fx, Fx, Fx, Fx] (by kernel_rfl) ?_ | refine wps_draw (id := 6) [Fx, Fx, Fx, Fx, Fx, Fx, Fx, Fx] (by kernel_rfl) ?_ | ((with_reducible show CallA _ _ _ _ _); refine call_ko (H0 := H) koW (ohead_ok _ loW (by first | exact h | exact h.same koW) i hi) ?_; intro H2 k2 l2 n2 g2 q2; try simp (disch := omega) only [sm, sl] at l2 n2 g2 q2) | simp (config := { maxSteps := 1000000 }) (disch := omega) only [↓sh, ↓sh2, ↓reduceIte, sx, sl, sb, st, nbeq_ne, dle, relo_eq, wrap_i64, Nat.reduceBEq, Nat.reduceLT, Nat.reduceLeDiff, Nat.reduceAdd, Nat.reduceMul, Nat.reduceEqDiff, Int.reduceEq, Int.reduceLT, Int.reduceLE, Int.reduceNeg, Int.reduceToNat, Bool.false_eq_true, eq_self, sa, hdV, *]))
    all_goals (with_reducible show _ ∧ _)
    all_goals refine ⟨?_, by exact sameW⟩
    all_goals first
      | (have e : fieldE ws i k false = 1 := by unfold fieldE; rw [if_pos hp, if_neg (by simp [h5]; omega)]
         rw [fieldK, e]; rfl)
      | (have e : fieldE ws i k false = 0 := by unfold fieldE; rw [if_pos hp, if_pos (by simp [h5]; omega)]
         rw [fieldK, e]; simp)
      | (have e : fieldE ws i k true = 1 := by unfold fieldE; rw [if_pos hp, if_neg (by simp [h5]; omega)]
         rw [fieldK, e]; rfl)
      | (have e : fieldE ws i k true = 0 := by unfold fieldE; rw [if_pos hp, if_pos (by simp [h5]; omega)]
         rw [fieldK, e]; simp [h5])
  · have e : fieldE ws i k raw = headE ws i := if_neg hp
    have e2 : fieldK ws i k raw = 0 := if_neg (by omega)
    repeat' (first | refine boolP_dec (fun _ => ?_) (fun _ => ?_) | apply boolP_not | refine boolP_b (fun _ => ?_) (fun _ => ?_) | refine wps_draw (id := 4) [Fx, Fx, Fx, Fx, Fx, Fx] (by kernel_rfl) ?_ | refine wps_draw (id := 6) [Fx, Fx, Fx, Fx, Fx, Fx, Fx, Fx] (by kernel_rfl) ?_ | ((with_reducible show CallA _ _ _ _ _); refine call_ko (H0 := H) koW (ohead_ok _ loW (by first | exact h | exact h.same koW) i hi) ?_; intro H2 k2 l2 n2 g2 q2; try simp (disch := omega) only [sm, sl] at l2 n2 g2 q2) | simp (config := { maxSteps := 1000000 }) (disch := omega) only [↓sh, ↓sh2, ↓reduceIte, sx, sl, sb, st, nbeq_ne, dle, relo_eq, wrap_i64, Nat.reduceBEq, Nat.reduceLT, Nat.reduceLeDiff, Nat.reduceAdd, Nat.reduceMul, Nat.reduceEqDiff, Int.reduceEq, Int.reduceLT, Int.reduceLE, Int.reduceNeg, Int.reduceToNat, Bool.false_eq_true, eq_self, sa, hdV, *])
    exact sameW
end Go.AM
