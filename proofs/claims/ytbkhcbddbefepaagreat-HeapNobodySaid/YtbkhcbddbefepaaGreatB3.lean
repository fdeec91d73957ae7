/-
  Walks over letters of the functions that the law reaches.
-/
import Derived.Test.YtbkhcbddbefepaaGreatK6
namespace Go.AM
attribute [local instance] fnMaps
open Go Go.Proofs
set_option maxRecDepth 100000
set_option maxHeartbeats 1000000
set_option linter.unusedSimpArgs false
structure Val where
  kind : Int
  x : Int
  deriving DecidableEq
def valV (v : Val) : Value := .agg #[.int .i64 v.kind, .int .i64 v.x]
def Val.Ok (v : Val) : Prop := v.kind = 0 ∧ v.x = 0 ∨ v.kind = 1 ∧ -2305843009213693952 ≤ v.x ∧ v.x ≤ 2305843009213693951 ∨ v.kind = 2 ∧ 0 ≤ v.x ∧ v.x ≤ 1099511627776
instance (v : Val) : Decidable v.Ok := by unfold Val.Ok; infer_instance
def Val.word (v : Val) : Nat := (4 * v.x % 18446744073709551616 + v.kind).toNat
theorem and_3 {w : Nat} (h : w < 18446744073709551616) : intOp .and .u64 (w : Int) 3 = some (.int .u64 (w % 4 : Int)) := by
  have e : intOp .and .u64 (w : Int) ((3 : Nat) : Int) = _ := and_nat (by omega) (by omega)
  rw [show (w &&& 3 : Nat) = w % 4 from Nat.and_two_pow_sub_one_eq_mod w 2] at e
  exact e
theorem shr_u2 {w : Nat} (h : w < 18446744073709551616) : shiftOp .shr .u64 (w : Int) 2 = some (.int .u64 (w / 4 : Int)) := by
  have e : shiftOp .shr .u64 (w : Int) ((2 : Nat) : Int) = _ := shr_nat (a := w) (n := 2) (by omega) (by omega)
  exact e
theorem shr_i2 (a : Int) : shiftOp .shr .i64 a 2 = some (.int .i64 (a / 4)) := by
  rw [shift_shr _ _ _ (by decide)]
  have : (2 : Int) ^ (min (2 : Int).toNat IntKind.i64.bits) = 4 := by decide
  rw [this, Int.fdiv_eq_ediv_of_nonneg _ (by decide)]
def Val.none : Val := ⟨0, 0⟩
def decV (w : Nat) : Option Val := if w % 4 = 1 then some ⟨1, IntKind.i64.wrap w / 4⟩ else if w % 4 = 2 ∧ w / 4 ≤ 1099511627776 then some ⟨2, w / 4⟩ else if w = 0 then some .none else none
theorem fn39 : E.fn.get 39 = some Tryz.f39 := by kernel_rfl
theorem vdec_ok (H : Heap) (hlo : H.lo ≤ H.next) (w : Nat) (hw : w < 2 ^ 64) : CallA E (fnv 39) [.int .u64 w] H fun r H' => r = .tuple #[valV ((decV w).getD .none), .int .i64 (if (decV w).isSome then 0 else 3)] ∧ Same H H' := by
  have hw' : w < 18446744073709551616 := by omega
  refine callA_fn (by kernel_rfl) fn39 rfl rfl ?_
  simp only [Tryz.f39]
  repeat' (first | refine boolP_dec (fun _ => ?_) (fun _ => ?_) | apply boolP_not | refine boolP_b (fun _ => ?_) (fun _ => ?_) | simp (config := { maxSteps := 1000000 }) (disch := omega) only [↓sh, ↓sh2, ↓reduceIte, sx, sl, sb, st, nbeq_ne, dle, relo_eq, wrap_i64, Nat.reduceBEq, Nat.reduceLT, Nat.reduceLeDiff, Nat.reduceAdd, Nat.reduceMul, Nat.reduceEqDiff, Int.reduceEq, Int.reduceLT, Int.reduceLE, Int.reduceNeg, Int.reduceToNat, Bool.false_eq_true, eq_self, sa, and_3 hw', shr_u2 hw', shr_i2, *])
  all_goals refine ⟨?_, by exact sameW⟩
  all_goals first
    | (have e : decV w = some ⟨1, IntKind.i64.wrap w / 4⟩ := by unfold decV; rw [if_pos (by omega)]
       simp [e, valV]; done)
    | (have e : decV w = some ⟨2, w / 4⟩ := by unfold decV; rw [if_neg (by omega), if_pos (by omega)]
       simp [e, valV, wrap_i64, *]; done)
    | (have e : decV w = some .none := by unfold decV; rw [if_neg (by omega), if_neg (by omega), if_pos (by omega)]
       simp [e, valV, Val.none]; done)
    | (have e : decV w = none := by unfold decV; rw [if_neg (by omega), if_neg (by omega), if_neg (by omega)]
       simp [e, valV, Val.none]; done)
end Go.AM
