/-
  Walks over letters of the functions that the law reaches.
-/
import Derived.Test.YtbkhcbddbefepaaGreatC13
namespace Go.AM
attribute [local instance] fnMaps
open Go Go.Proofs
set_option maxRecDepth 100000
set_option maxHeartbeats 1000000
set_option linter.unusedSimpArgs false
structure St where
  cfg : Cfg
  second : Bool
  words : List Nat
  top : Int
  table : List Span
  free : List Span
  slots : List Slot
def lkC (s : St) (w t f zl ap sm mp : Value) : List Value := [.int .i64 s.cfg.semi, .int .i64 s.cfg.large, .int .i64 s.cfg.slots, .int .i64 s.cfg.limit, .bool s.second, w, .int .i64 s.top, t, f, zl, ap, sm, mp]
structure StS (H : Heap) (s : St) (w t f zl : Value) : Prop where
  w : SLr RW 1 H w s.words
  t : SLr RSpan 2 H t s.table
  f : SLr RSpan 2 H f s.free
  sl : SLr RSlot 3 H zl s.slots
theorem StS.mono {H H' : Heap} {s : St} {w t f zl : Value} (h : StS H s w t f zl) (k : Same H H') : StS H' s w t f zl := ⟨h.w.mono RW.mono k, h.t.mono RSpan.mono k, h.f.mono RSpan.mono k, h.sl.mono RSlot.mono k⟩
theorem fn75 : E.fn.get 75 = some Tryz.f75 := by kernel_rfl
theorem sconfig_ok (H : Heap) (hlo : H.lo ≤ H.next) {lp : Nat} {s : St} {w t f zl ap sm mp : Value} (hrow : H.objs.get lp = some (.row (lkC s w t f zl ap sm mp) none true)) (hl : lp < H.next) : CallA E (fnv 75) [ptr lp 0] H fun r H' => r = .bool (decide s.cfg.Ok) ∧ Same H H' := by
  unfold lkC at hrow
  refine callA_fn (by kernel_rfl) fn75 rfl rfl ?_
  simp only [Tryz.f75]
  repeat' (first | refine boolP_dec (fun _ => ?_) (fun _ => ?_) | apply boolP_not | refine boolP_b (fun _ => ?_) (fun _ => ?_) | ((with_reducible show CallA _ _ _ _ _); refine call_ko (H0 := H) koW (lcheck_ok _ loW s.cfg) ?_; intro H2 k2 l2 n2 g2 q2; try simp (disch := omega) only [sm, sl] at l2 n2 g2 q2) | simp (config := { maxSteps := 1000000 }) (disch := omega) only [↓sh, ↓sh2, ↓reduceIte, sx, sl, sb, st, nbeq_ne, dle, relo_eq, wrap_i64, Nat.reduceBEq, Nat.reduceLT, Nat.reduceLeDiff, Nat.reduceAdd, Nat.reduceMul, Nat.reduceEqDiff, Int.reduceEq, Int.reduceLT, Int.reduceLE, Int.reduceNeg, Int.reduceToNat, Bool.false_eq_true, eq_self, sa, *])
  exact sameW
theorem fn76 : E.fn.get 76 = some Tryz.f76 := by kernel_rfl
theorem swords_ok (H : Heap) (hlo : H.lo ≤ H.next) {lp : Nat} {s : St} {w t f zl ap sm mp : Value} (hrow : H.objs.get lp = some (.row (lkC s w t f zl ap sm mp) none true)) (hl : lp < H.next) (hS : StS H s w t f zl) : CallA E (fnv 76) [ptr lp 0] H fun r H' => r = .bool (decide ((s.words.length : Int) = s.cfg.words)) ∧ Same H H' := by
  unfold lkC at hrow
  obtain ⟨⟨a, c, rfl, _⟩, _⟩ := hS.w
  refine callA_fn (by kernel_rfl) fn76 rfl rfl ?_
  simp only [Tryz.f76]
  repeat' (first | refine boolP_dec (fun _ => ?_) (fun _ => ?_) | apply boolP_not | refine boolP_b (fun _ => ?_) (fun _ => ?_) | refine wps_draw (id := 1) [Fx, Fx, Fx, Fx, Fx, Fx, Fx, Fx, Fx, Fx, Fx, Tx, Fx, Fx] (by kernel_rfl) ?_ | ((with_reducible show CallA _ _ _ _ _); refine call_ko (H0 := H) koW (lwords_ok _ loW s.cfg) ?_; intro H2 k2 l2 n2 g2 q2; try simp (disch := omega) only [sm, sl] at l2 n2 g2 q2) | simp (config := { maxSteps := 1000000 }) (disch := omega) only [↓sh, ↓sh2, ↓reduceIte, sx, sl, sb, st, nbeq_ne, dle, relo_eq, wrap_i64, Nat.reduceBEq, Nat.reduceLT, Nat.reduceLeDiff, Nat.reduceAdd, Nat.reduceMul, Nat.reduceEqDiff, Int.reduceEq, Int.reduceLT, Int.reduceLE, Int.reduceNeg, Int.reduceToNat, Bool.false_eq_true, eq_self, sa, *])
  exact sameW
def topOk (s : St) : Prop := (s.cfg.from' s.second).at' ≤ s.top ∧ s.top ≤ (s.cfg.from' s.second).at' + (s.cfg.from' s.second).size
instance (s : St) : Decidable (topOk s) := by unfold topOk; infer_instance
theorem from_in (c : Cfg) (b : Bool) : 0 ≤ (c.from' b).at' ∧ (c.from' b).at' ≤ 32768 ∧ 0 ≤ (c.from' b).size ∧ (c.from' b).size ≤ 32768 := by
  unfold Cfg.from'
  split
  · rename_i h
    unfold Cfg.Ok at h
    cases b <;> simp <;> omega
  · simp
theorem fn77 : E.fn.get 77 = some Tryz.f77 := by kernel_rfl
theorem stop'_ok (H : Heap) (hlo : H.lo ≤ H.next) {lp : Nat} {s : St} {w t f zl ap sm mp : Value} (hrow : H.objs.get lp = some (.row (lkC s w t f zl ap sm mp) none true)) (hl : lp < H.next) : CallA E (fnv 77) [ptr lp 0] H fun r H' => r = .bool (decide (topOk s)) ∧ Same H H' := by
  unfold lkC at hrow
  have hf := from_in s.cfg s.second
  refine callA_fn (by kernel_rfl) fn77 rfl rfl ?_
  simp only [Tryz.f77]
  by_cases h1 : (s.cfg.from' s.second).at' ≤ s.top
  · repeat' (first | refine boolP_dec (fun _ => ?_) (fun _ => ?_) | apply boolP_not | refine boolP_b (fun _ => ?_) (fun _ => ?_) | refine wps_draw (id := 1) [Fx, Fx, Fx, Fx, Fx, Fx, Fx, Fx, Fx, Fx, Fx, Fx, Fx] (by kernel_rfl) ?_ | refine wps_draw (id := 2) [Fx, Fx, Fx, Fx, Fx, Fx, Fx, Fx, Fx, Fx, Fx, Fx, Fx, Fx, Fx, Fx, Fx, Fx, Fx, Fx, Fx, Fx] (by kernel_rfl) ?_ | ((with_reducible show CallA _ _ _ _ _); refine call_ko (H0 := H) koW (lfrom_ok _ loW s.cfg s.second) ?_; intro H2 k2 l2 n2 g2 q2; try simp (disch := omega) only [sm, sl] at l2 n2 g2 q2) | simp (config := { maxSteps := 1000000 }) (disch := omega) only [↓sh, ↓sh2, ↓reduceIte, sx, sl, sb, st, nbeq_ne, dle, relo_eq, wrap_i64, Nat.reduceBEq, Nat.reduceLT, Nat.reduceLeDiff, Nat.reduceAdd, Nat.reduceMul, Nat.reduceEqDiff, Int.reduceEq, Int.reduceLT, Int.reduceLE, Int.reduceNeg, Int.reduceToNat, Bool.false_eq_true, eq_self, sa, spanV, *])
    all_goals ((with_reducible show _ ∧ _); exact ⟨bool_of (by simp only [decide_eq_true_eq, Bool.false_eq_true, true_iff, false_iff, topOk]; first | omega | (simp [*] <;> omega)), sameW⟩)
  · repeat' (first | refine boolP_dec (fun _ => ?_) (fun _ => ?_) | apply boolP_not | refine boolP_b (fun _ => ?_) (fun _ => ?_) | refine wps_draw (id := 1) [Fx, Fx, Fx, Fx, Fx, Fx, Fx, Fx, Fx, Fx, Fx, Fx, Fx] (by kernel_rfl) ?_ | refine wps_draw (id := 2) [Fx, Fx, Fx, Fx, Fx, Fx, Fx, Fx, Fx, Fx, Fx, Fx, Fx, Fx, Fx, Fx, Fx, Fx, Fx, Fx, Fx, Fx] (by kernel_rfl) ?_ | ((with_reducible show CallA _ _ _ _ _); refine call_ko (H0 := H) koW (lfrom_ok _ loW s.cfg s.second) ?_; intro H2 k2 l2 n2 g2 q2; try simp (disch := omega) only [sm, sl] at l2 n2 g2 q2) | simp (config := { maxSteps := 1000000 }) (disch := omega) only [↓sh, ↓sh2, ↓reduceIte, sx, sl, sb, st, nbeq_ne, dle, relo_eq, wrap_i64, Nat.reduceBEq, Nat.reduceLT, Nat.reduceLeDiff, Nat.reduceAdd, Nat.reduceMul, Nat.reduceEqDiff, Int.reduceEq, Int.reduceLT, Int.reduceLE, Int.reduceNeg, Int.reduceToNat, Bool.false_eq_true, eq_self, sa, spanV, *])
    all_goals ((with_reducible show _ ∧ _); exact ⟨bool_of (by simp only [decide_eq_true_eq, Bool.false_eq_true, true_iff, false_iff, topOk]; first | omega | (simp [*] <;> omega)), sameW⟩)
theorem fn81 : E.fn.get 81 = some Tryz.f81 := by kernel_rfl
theorem sslots_ok (H : Heap) (hlo : H.lo ≤ H.next) {lp : Nat} {s : St} {w t f zl ap sm mp : Value} (hrow : H.objs.get lp = some (.row (lkC s w t f zl ap sm mp) none true)) (hl : lp < H.next) (hS : StS H s w t f zl) (hu : ∀ x ∈ s.slots, x.word < 2 ^ 64) : CallA E (fnv 81) [ptr lp 0] H fun r H' => r = .bool (rrightB s.slots s.cfg.slots) ∧ Same H H' := by
  unfold lkC at hrow
  have hs := hS.sl
  refine callA_fn (by kernel_rfl) fn81 rfl rfl ?_
  simp only [Tryz.f81]
  repeat' (first | refine boolP_dec (fun _ => ?_) (fun _ => ?_) | apply boolP_not | refine boolP_b (fun _ => ?_) (fun _ => ?_) | refine wps_draw (id := 1) [Fx, Fx, Fx, Fx, Fx, Fx, Fx, Fx, Fx, Fx, Fx, Fx, Fx] (by kernel_rfl) ?_ | ((with_reducible show CallA _ _ _ _ _); refine call_ko (H0 := H) koW (rright_ok _ loW zl s.slots (hs.1.ext RSlot.mono (Ko.ext koW)) hu s.cfg.slots) ?_; intro H2 k2 l2 n2 g2 q2; try simp (disch := omega) only [sm, sl] at l2 n2 g2 q2) | simp (config := { maxSteps := 1000000 }) (disch := omega) only [↓sh, ↓sh2, ↓reduceIte, sx, sl, sb, st, nbeq_ne, dle, relo_eq, wrap_i64, Nat.reduceBEq, Nat.reduceLT, Nat.reduceLeDiff, Nat.reduceAdd, Nat.reduceMul, Nat.reduceEqDiff, Int.reduceEq, Int.reduceLT, Int.reduceLE, Int.reduceNeg, Int.reduceToNat, Bool.false_eq_true, eq_self, sa, *])
  exact sameW
end Go.AM
