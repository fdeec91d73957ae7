/-
  Walks over letters of the functions that the law reaches.
-/
import Derived.Test.YtfaplhodeekjnaaGreatB0
namespace Go.AM
attribute [local instance] fnMaps
open Go Go.Proofs
set_option maxRecDepth 100000
set_option maxHeartbeats 1000000
set_option linter.unusedSimpArgs false
structure Span where
  at' : Int
  size : Int
  deriving DecidableEq
structure Cfg where
  semi : Int
  large : Int
  slots : Int
  limit : Int
  deriving DecidableEq
def spanV (x : Span) : Value := .agg #[.int .i64 x.at', .int .i64 x.size]
def cfgV (c : Cfg) : Value := .agg #[.int .i64 c.semi, .int .i64 c.large, .int .i64 c.slots, .int .i64 c.limit]
def May (x : Span) : Prop := 0 ≤ x.at' ∧ x.at' ≤ 1099511627776 ∧ 1 ≤ x.size ∧ x.size ≤ 1099511627776 - x.at'
instance (x : Span) : Decidable (May x) := by unfold May; infer_instance
def Span.stop (x : Span) : Int := x.at' + x.size
def Within (x y : Span) : Prop := May x ∧ May y ∧ y.at' ≤ x.at' ∧ x.stop ≤ y.stop
instance (x y : Span) : Decidable (Within x y) := by unfold Within; infer_instance
def Meets (x y : Span) : Prop := May x ∧ May y ∧ x.at' < y.stop ∧ y.at' < x.stop
instance (x y : Span) : Decidable (Meets x y) := by unfold Meets; infer_instance
theorem fn15 : E.fn.get 15 = some Tryz.f15 := by kernel_rfl
theorem smay_ok (H : Heap) (hlo : H.lo ≤ H.next) (x : Span) : CallA E (fnv 15) [spanV x] H fun r H' => r = .bool (decide (May x)) ∧ Same H H' := by
  refine callA_fn (by kernel_rfl) fn15 rfl rfl ?_
  simp only [Tryz.f15]
  simp only [spanV]
  repeat' (first | refine boolP_dec (fun _ => ?_) (fun _ => ?_) | apply boolP_not | refine boolP_b (fun _ => ?_) (fun _ => ?_) | simp (config := { maxSteps := 1000000 }) (disch := omega) only [↓sh, ↓sh2, ↓reduceIte, sx, sl, sb, st, nbeq_ne, dle, relo_eq, wrap_i64, Nat.reduceBEq, Nat.reduceLT, Nat.reduceLeDiff, Nat.reduceAdd, Nat.reduceMul, Nat.reduceEqDiff, Int.reduceEq, Int.reduceLT, Int.reduceLE, Int.reduceNeg, Int.reduceToNat, Bool.false_eq_true, eq_self, sa, *])
  all_goals ((with_reducible show _ ∧ _); exact ⟨bool_of (by simp only [decide_eq_true_eq, Bool.false_eq_true, true_iff, false_iff, May]; first | omega | (simp [*] <;> omega)), sameW⟩)
theorem fn65 : E.fn.get 65 = some Tryz.f65 := by kernel_rfl
theorem send_ok (H : Heap) (hlo : H.lo ≤ H.next) (x : Span) (hx : May x) : CallA E (fnv 65) [spanV x] H fun r H' => r = .int .i64 x.stop ∧ Same H H' := by
  unfold May at hx
  refine callA_fn (by kernel_rfl) fn65 rfl rfl ?_
  simp only [Tryz.f65]
  simp only [spanV]
  repeat' (first | refine boolP_dec (fun _ => ?_) (fun _ => ?_) | apply boolP_not | refine boolP_b (fun _ => ?_) (fun _ => ?_) | simp (config := { maxSteps := 1000000 }) (disch := omega) only [↓sh, ↓sh2, ↓reduceIte, sx, sl, sb, st, nbeq_ne, dle, relo_eq, wrap_i64, Nat.reduceBEq, Nat.reduceLT, Nat.reduceLeDiff, Nat.reduceAdd, Nat.reduceMul, Nat.reduceEqDiff, Int.reduceEq, Int.reduceLT, Int.reduceLE, Int.reduceNeg, Int.reduceToNat, Bool.false_eq_true, eq_self, sa, *])
  exact ⟨rfl, by exact sameW⟩
theorem fn46 : E.fn.get 46 = some Tryz.f46 := by kernel_rfl
theorem swithin_ok (H : Heap) (hlo : H.lo ≤ H.next) (x y : Span) : CallA E (fnv 46) [spanV x, spanV y] H fun r H' => r = .bool (decide (Within x y)) ∧ Same H H' := by
  refine callA_fn (by kernel_rfl) fn46 rfl rfl ?_
  simp only [Tryz.f46]
  simp only [spanV]
  repeat' (first | refine boolP_dec (fun _ => ?_) (fun _ => ?_) | apply boolP_not | refine boolP_b (fun _ => ?_) (fun _ => ?_) | refine wps_draw (id := 1) [Fx, Fx, Fx, Fx, Fx, Fx, Fx, Fx, Fx, Fx, Fx, Fx, Fx, Fx, Fx, Tx, Fx, Fx, Fx, Fx, Fx] (by kernel_rfl) ?_ | ((with_reducible show CallA _ _ _ _ _); (first | refine call_ko (H0 := H) koW (smay_ok _ loW _) ?_ | refine call_ko (H0 := H) koW (send_ok _ loW _ (by assumption)) ?_); intro H2 k2 l2 n2 g2 q2; try simp (disch := omega) only [sm, sl] at l2 n2 g2 q2) | simp (config := { maxSteps := 1000000 }) (disch := omega) only [↓sh, ↓sh2, ↓reduceIte, sx, sl, sb, st, nbeq_ne, dle, relo_eq, wrap_i64, Nat.reduceBEq, Nat.reduceLT, Nat.reduceLeDiff, Nat.reduceAdd, Nat.reduceMul, Nat.reduceEqDiff, Int.reduceEq, Int.reduceLT, Int.reduceLE, Int.reduceNeg, Int.reduceToNat, Bool.false_eq_true, eq_self, sa, *])
  all_goals ((with_reducible show _ ∧ _); exact ⟨bool_of (by simp only [decide_eq_true_eq, Bool.false_eq_true, true_iff, false_iff, Within]; first | omega | (simp [*] <;> omega)), sameW⟩)
theorem fn47 : E.fn.get 47 = some Tryz.f47 := by kernel_rfl
theorem smeets_ok (H : Heap) (hlo : H.lo ≤ H.next) (x y : Span) : CallA E (fnv 47) [spanV x, spanV y] H fun r H' => r = .bool (decide (Meets x y)) ∧ Same H H' := by
  refine callA_fn (by kernel_rfl) fn47 rfl rfl ?_
  simp only [Tryz.f47]
  simp only [spanV]
  repeat' (first | refine boolP_dec (fun _ => ?_) (fun _ => ?_) | apply boolP_not | refine boolP_b (fun _ => ?_) (fun _ => ?_) | refine wps_draw (id := 1) [Fx, Fx, Fx, Fx, Fx, Fx, Fx, Fx, Fx, Fx, Tx, Fx, Fx, Fx, Fx, Fx, Fx, Tx, Fx, Fx, Fx] (by kernel_rfl) ?_ | ((with_reducible show CallA _ _ _ _ _); (first | refine call_ko (H0 := H) koW (smay_ok _ loW _) ?_ | refine call_ko (H0 := H) koW (send_ok _ loW _ (by assumption)) ?_); intro H2 k2 l2 n2 g2 q2; try simp (disch := omega) only [sm, sl] at l2 n2 g2 q2) | simp (config := { maxSteps := 1000000 }) (disch := omega) only [↓sh, ↓sh2, ↓reduceIte, sx, sl, sb, st, nbeq_ne, dle, relo_eq, wrap_i64, Nat.reduceBEq, Nat.reduceLT, Nat.reduceLeDiff, Nat.reduceAdd, Nat.reduceMul, Nat.reduceEqDiff, Int.reduceEq, Int.reduceLT, Int.reduceLE, Int.reduceNeg, Int.reduceToNat, Bool.false_eq_true, eq_self, sa, *])
  all_goals ((with_reducible show _ ∧ _); exact ⟨bool_of (by simp only [decide_eq_true_eq, Bool.false_eq_true, true_iff, false_iff, Meets]; first | omega | (simp [*] <;> omega)), sameW⟩)
def Cfg.Ok (c : Cfg) : Prop := 2 ≤ c.semi ∧ c.semi ≤ 32768 ∧ 1 ≤ c.limit ∧ c.limit ≤ c.semi ∧ 0 ≤ c.large ∧ c.large ≤ 32768 ∧ 1 ≤ c.slots ∧ c.slots ≤ 1024
instance (c : Cfg) : Decidable c.Ok := by unfold Cfg.Ok; infer_instance
theorem fn12 : E.fn.get 12 = some Tryz.f12 := by kernel_rfl
theorem lcheck_ok (H : Heap) (hlo : H.lo ≤ H.next) (c : Cfg) : CallA E (fnv 12) [cfgV c] H fun r H' => r = .bool (decide c.Ok) ∧ Same H H' := by
  refine callA_fn (by kernel_rfl) fn12 rfl rfl ?_
  simp only [Tryz.f12]
  simp only [cfgV]
  repeat' (first | refine boolP_dec (fun _ => ?_) (fun _ => ?_) | apply boolP_not | refine boolP_b (fun _ => ?_) (fun _ => ?_) | simp (config := { maxSteps := 1000000 }) (disch := omega) only [↓sh, ↓sh2, ↓reduceIte, sx, sl, sb, st, nbeq_ne, dle, relo_eq, wrap_i64, Nat.reduceBEq, Nat.reduceLT, Nat.reduceLeDiff, Nat.reduceAdd, Nat.reduceMul, Nat.reduceEqDiff, Int.reduceEq, Int.reduceLT, Int.reduceLE, Int.reduceNeg, Int.reduceToNat, Bool.false_eq_true, eq_self, sa, *])
  all_goals ((with_reducible show _ ∧ _); exact ⟨bool_of (by simp only [decide_eq_true_eq, Bool.false_eq_true, true_iff, false_iff, Cfg.Ok]; first | omega | (simp [*] <;> omega)), sameW⟩)
def Cfg.words (c : Cfg) : Int := if c.Ok then 2 * c.semi + c.large else 0
theorem fn13 : E.fn.get 13 = some Tryz.f13 := by kernel_rfl
theorem lwords_ok (H : Heap) (hlo : H.lo ≤ H.next) (c : Cfg) : CallA E (fnv 13) [cfgV c] H fun r H' => r = .int .i64 c.words ∧ Same H H' := by
  refine callA_fn (by kernel_rfl) fn13 rfl rfl ?_
  simp only [Tryz.f13]
  simp only [cfgV]
  repeat' (first | (refine boolP_dec (fun hd => ?_) (fun hd => ?_) <;> try simp only [Cfg.Ok] at hd) | apply boolP_not | refine boolP_b (fun _ => ?_) (fun _ => ?_) | ((with_reducible show CallA _ _ _ _ _); refine call_ko (H0 := H) koW (lcheck_ok _ loW _) ?_; intro H2 k2 l2 n2 g2 q2; try simp (disch := omega) only [sm, sl] at l2 n2 g2 q2) | simp (config := { maxSteps := 1000000 }) (disch := omega) only [↓sh, ↓sh2, ↓reduceIte, sx, sl, sb, st, nbeq_ne, dle, relo_eq, wrap_i64, Nat.reduceBEq, Nat.reduceLT, Nat.reduceLeDiff, Nat.reduceAdd, Nat.reduceMul, Nat.reduceEqDiff, Int.reduceEq, Int.reduceLT, Int.reduceLE, Int.reduceNeg, Int.reduceToNat, Bool.false_eq_true, eq_self, sa, *])
  all_goals refine ⟨?_, by exact sameW⟩
  all_goals (simp only [Cfg.words]; split <;> first | rfl | contradiction)
def Cfg.large' (c : Cfg) : Span := if c.large = 0 then ⟨0, 0⟩ else ⟨2 * c.semi, c.large⟩
def Cfg.from' (c : Cfg) (s : Bool) : Span := if c.Ok then (if s then ⟨c.semi, c.semi⟩ else ⟨0, c.semi⟩) else ⟨0, 0⟩
def Cfg.big (c : Cfg) : Span := if c.Ok then c.large' else ⟨0, 0⟩
def partsV (a b l : Span) : Value := .agg #[.int .i64 a.at', .int .i64 a.size, .int .i64 b.at', .int .i64 b.size, .int .i64 l.at', .int .i64 l.size]
theorem fn36 : E.fn.get 36 = some Tryz.f36 := by kernel_rfl
theorem lparts_ok (H : Heap) (hlo : H.lo ≤ H.next) (c : Cfg) (s : Bool) : CallA E (fnv 36) [cfgV c, .bool s] H fun r H' => r = partsV (c.from' s) (c.from' (!s)) c.big ∧ Same H H' := by
  refine callA_fn (by kernel_rfl) fn36 rfl rfl ?_
  simp only [Tryz.f36]
  simp only [cfgV]
  repeat' (first | (refine boolP_dec (fun hd => ?_) (fun hd => ?_) <;> try simp only [Cfg.Ok] at hd) | apply boolP_not | refine boolP_b (fun _ => ?_) (fun _ => ?_) | ((with_reducible show CallA _ _ _ _ _); refine call_ko (H0 := H) koW (lcheck_ok _ loW _) ?_; intro H2 k2 l2 n2 g2 q2; try simp (disch := omega) only [sm, sl] at l2 n2 g2 q2) | simp (config := { maxSteps := 1000000 }) (disch := omega) only [↓sh, ↓sh2, ↓reduceIte, sx, sl, sb, st, nbeq_ne, dle, relo_eq, wrap_i64, Nat.reduceBEq, Nat.reduceLT, Nat.reduceLeDiff, Nat.reduceAdd, Nat.reduceMul, Nat.reduceEqDiff, Int.reduceEq, Int.reduceLT, Int.reduceLE, Int.reduceNeg, Int.reduceToNat, Bool.false_eq_true, eq_self, sa, *])
  all_goals (first | (with_reducible exact sameW) | ((with_reducible show _ ∧ _); exact ⟨by first | rfl | (simp [partsV, Cfg.from', Cfg.big, Cfg.large', Cfg.Ok, *] <;> omega), sameW⟩))
theorem fn23 : E.fn.get 23 = some Tryz.f23 := by kernel_rfl
theorem lfrom_ok (H : Heap) (hlo : H.lo ≤ H.next) (c : Cfg) (s : Bool) : CallA E (fnv 23) [cfgV c, .bool s] H fun r H' => r = spanV (c.from' s) ∧ Same H H' := by
  refine callA_fn (by kernel_rfl) fn23 rfl rfl ?_
  simp only [Tryz.f23]
  simp only [cfgV]
  repeat' (first | refine boolP_dec (fun _ => ?_) (fun _ => ?_) | apply boolP_not | refine boolP_b (fun _ => ?_) (fun _ => ?_) | ((with_reducible show CallA _ _ _ _ _); refine call_ko (H0 := H) koW (lparts_ok _ loW _ _) ?_; intro H2 k2 l2 n2 g2 q2; try simp (disch := omega) only [sm, sl] at l2 n2 g2 q2) | simp (config := { maxSteps := 1000000 }) (disch := omega) only [↓sh, ↓sh2, ↓reduceIte, sx, sl, sb, st, nbeq_ne, dle, relo_eq, wrap_i64, Nat.reduceBEq, Nat.reduceLT, Nat.reduceLeDiff, Nat.reduceAdd, Nat.reduceMul, Nat.reduceEqDiff, Int.reduceEq, Int.reduceLT, Int.reduceLE, Int.reduceNeg, Int.reduceToNat, Bool.false_eq_true, eq_self, sa, partsV, *])
  all_goals (first | (with_reducible exact sameW) | ((with_reducible show _ ∧ _); exact ⟨by first | rfl | (simp [spanV, *] <;> omega), sameW⟩))
theorem fn24 : E.fn.get 24 = some Tryz.f24 := by kernel_rfl
theorem lto_ok (H : Heap) (hlo : H.lo ≤ H.next) (c : Cfg) (s : Bool) : CallA E (fnv 24) [cfgV c, .bool s] H fun r H' => r = spanV (c.from' (!s)) ∧ Same H H' := by
  refine callA_fn (by kernel_rfl) fn24 rfl rfl ?_
  simp only [Tryz.f24]
  simp only [cfgV]
  repeat' (first | refine boolP_dec (fun _ => ?_) (fun _ => ?_) | apply boolP_not | refine boolP_b (fun _ => ?_) (fun _ => ?_) | ((with_reducible show CallA _ _ _ _ _); refine call_ko (H0 := H) koW (lparts_ok _ loW _ _) ?_; intro H2 k2 l2 n2 g2 q2; try simp (disch := omega) only [sm, sl] at l2 n2 g2 q2) | simp (config := { maxSteps := 1000000 }) (disch := omega) only [↓sh, ↓sh2, ↓reduceIte, sx, sl, sb, st, nbeq_ne, dle, relo_eq, wrap_i64, Nat.reduceBEq, Nat.reduceLT, Nat.reduceLeDiff, Nat.reduceAdd, Nat.reduceMul, Nat.reduceEqDiff, Int.reduceEq, Int.reduceLT, Int.reduceLE, Int.reduceNeg, Int.reduceToNat, Bool.false_eq_true, eq_self, sa, partsV, *])
  all_goals (first | (with_reducible exact sameW) | ((with_reducible show _ ∧ _); exact ⟨by first | rfl | (simp [spanV, *] <;> omega), sameW⟩))
theorem fn14 : E.fn.get 14 = some Tryz.f14 := by kernel_rfl
theorem llarge_ok (H : Heap) (hlo : H.lo ≤ H.next) (c : Cfg) : CallA E (fnv 14) [cfgV c] H fun r H' => r = spanV c.big ∧ Same H H' := by
  refine callA_fn (by kernel_rfl) fn14 rfl rfl ?_
  simp only [Tryz.f14]
  simp only [cfgV]
  repeat' (first | refine boolP_dec (fun _ => ?_) (fun _ => ?_) | apply boolP_not | refine boolP_b (fun _ => ?_) (fun _ => ?_) | ((with_reducible show CallA _ _ _ _ _); refine call_ko (H0 := H) koW (lparts_ok _ loW _ _) ?_; intro H2 k2 l2 n2 g2 q2; try simp (disch := omega) only [sm, sl] at l2 n2 g2 q2) | simp (config := { maxSteps := 1000000 }) (disch := omega) only [↓sh, ↓sh2, ↓reduceIte, sx, sl, sb, st, nbeq_ne, dle, relo_eq, wrap_i64, Nat.reduceBEq, Nat.reduceLT, Nat.reduceLeDiff, Nat.reduceAdd, Nat.reduceMul, Nat.reduceEqDiff, Int.reduceEq, Int.reduceLT, Int.reduceLE, Int.reduceNeg, Int.reduceToNat, Bool.false_eq_true, eq_self, sa, partsV, *])
  all_goals (first | (with_reducible exact sameW) | ((with_reducible show _ ∧ _); exact ⟨by first | rfl | (simp [spanV, *] <;> omega), sameW⟩))
def Cfg.Small (c : Cfg) (n : Int) : Prop := c.Ok ∧ 1 ≤ n ∧ n ≤ c.limit
instance (c : Cfg) (n : Int) : Decidable (c.Small n) := by unfold Cfg.Small; infer_instance
end Go.AM
