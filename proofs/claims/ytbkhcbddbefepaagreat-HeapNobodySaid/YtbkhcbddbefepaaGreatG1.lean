/-
  Walks over letters of the functions that the law reaches.
-/
import Derived.Test.YtbkhcbddbefepaaGreatC20
namespace Go.AM
attribute [local instance] fnMaps
open Go Go.Proofs
set_option maxRecDepth 100000
set_option maxHeartbeats 1000000
set_option linter.unusedSimpArgs false
def Dead (H : Heap) (x : Value) : Prop := x = .pointer none ∨ ∃ hp cells, x = ptr hp 0 ∧ hp < H.next ∧ H.objs.get hp = some (.row (.bool false :: cells) none true)
theorem Dead.ko {H X : Heap} {x : Value} (h : Dead H x) (k : Ko H X) : Dead X x := by
  rcases h with h | ⟨hp, cells, h1, h2, h3⟩
  · exact .inl h
  · exact .inr ⟨hp, cells, h1, Nat.lt_of_lt_of_le h2 k.nxt, (k.objs hp h2).trans h3⟩
theorem fn25 : E.fn.get 25 = some Tryz.f25 := by kernel_rfl
theorem hdead_ok (H : Heap) (hlo : H.lo ≤ H.next) {x : Value} (hd : Dead H x) : CallA E (fnv 25) [x] H fun r H' => r = .bool true ∧ Same H H' := by
  refine callA_fn (by kernel_rfl) fn25 rfl rfl ?_
  simp only [Tryz.f25]
  rcases hd with rfl | ⟨hp, cells, rfl, h2, h3⟩
  · repeat' (first | refine boolP_dec (fun _ => ?_) (fun _ => ?_) | apply boolP_not | refine boolP_b (fun _ => ?_) (fun _ => ?_) | simp (config := { maxSteps := 1000000 }) (disch := omega) only [↓sh, ↓sh2, ↓reduceIte, sx, sl, sb, st, nbeq_ne, dle, relo_eq, wrap_i64, Nat.reduceBEq, Nat.reduceLT, Nat.reduceLeDiff, Nat.reduceAdd, Nat.reduceMul, Nat.reduceEqDiff, Int.reduceEq, Int.reduceLT, Int.reduceLE, Int.reduceNeg, Int.reduceToNat, Bool.false_eq_true, eq_self, sa, *])
    all_goals (first | (with_reducible exact sameW) | ((with_reducible show _ ∧ _); exact ⟨by first | rfl | (simp [*] <;> omega), sameW⟩))
  · repeat' (first | refine boolP_dec (fun _ => ?_) (fun _ => ?_) | apply boolP_not | refine boolP_b (fun _ => ?_) (fun _ => ?_) | simp (config := { maxSteps := 1000000 }) (disch := omega) only [↓sh, ↓sh2, ↓reduceIte, sx, sl, sb, st, nbeq_ne, dle, relo_eq, wrap_i64, Nat.reduceBEq, Nat.reduceLT, Nat.reduceLeDiff, Nat.reduceAdd, Nat.reduceMul, Nat.reduceEqDiff, Int.reduceEq, Int.reduceLT, Int.reduceLE, Int.reduceNeg, Int.reduceToNat, Bool.false_eq_true, eq_self, sa, List.getElem?_cons_zero, *])
    all_goals (first | (with_reducible exact sameW) | ((with_reducible show _ ∧ _); exact ⟨by first | rfl | (simp [*] <;> omega), sameW⟩))
theorem fn13 : E.fn.get 13 = some Tryz.f13 := by kernel_rfl
theorem halloc_d (H : Heap) (hlo : H.lo ≤ H.next) {x : Value} (hd : Dead H x) (a b c p : Int) : CallA E (fnv 13) [x, .int .i64 a, .int .i64 b, .int .i64 c, .int .u8 p] H fun r H' => r = .tuple #[.int .i64 0, .int .i64 10] ∧ Same H H' := by
  refine callA_fn (by kernel_rfl) fn13 rfl rfl ?_
  simp only [Tryz.f13]
  repeat' (first | refine boolP_dec (fun _ => ?_) (fun _ => ?_) | apply boolP_not | refine boolP_b (fun _ => ?_) (fun _ => ?_) | ((with_reducible show CallA _ _ _ _ _); refine call_ko (H0 := H) koW (hdead_ok _ loW (hd.ko koW)) ?_; intro H2 k2 l2 n2 g2 q2; try simp (disch := omega) only [sm, sl] at l2 n2 g2 q2) | simp (config := { maxSteps := 1000000 }) (disch := omega) only [↓sh, ↓sh2, ↓reduceIte, sx, sl, sb, st, nbeq_ne, dle, relo_eq, wrap_i64, Nat.reduceBEq, Nat.reduceLT, Nat.reduceLeDiff, Nat.reduceAdd, Nat.reduceMul, Nat.reduceEqDiff, Int.reduceEq, Int.reduceLT, Int.reduceLE, Int.reduceNeg, Int.reduceToNat, Bool.false_eq_true, eq_self, sa, *])
  all_goals (first | (with_reducible exact sameW) | ((with_reducible show _ ∧ _); exact ⟨by first | rfl | (simp [*] <;> omega), sameW⟩))
theorem fn44 : E.fn.get 44 = some Tryz.f44 := by kernel_rfl
theorem hobject_d (H : Heap) (hlo : H.lo ≤ H.next) {x : Value} (hd : Dead H x) (h : Int) : CallA E (fnv 44) [x, .int .i64 h] H fun r H' => r = .tuple #[.int .i64 0, .agg #[.int .i64 0, .int .i64 0, .int .i64 0, .bool false, .int .i64 0], .int .i64 10] ∧ Same H H' := by
  refine callA_fn (by kernel_rfl) fn44 rfl rfl ?_
  simp only [Tryz.f44]
  repeat' (first | refine boolP_dec (fun _ => ?_) (fun _ => ?_) | apply boolP_not | refine boolP_b (fun _ => ?_) (fun _ => ?_) | refine wps_draw (id := 10) [Fx, Fx, Fx, Fx, Fx, Fx] (by kernel_rfl) ?_ | ((with_reducible show CallA _ _ _ _ _); refine call_ko (H0 := H) koW (hdead_ok _ loW (hd.ko koW)) ?_; intro H2 k2 l2 n2 g2 q2; try simp (disch := omega) only [sm, sl] at l2 n2 g2 q2) | simp (config := { maxSteps := 1000000 }) (disch := omega) only [↓sh, ↓sh2, ↓reduceIte, sx, sl, sb, st, nbeq_ne, dle, relo_eq, wrap_i64, Nat.reduceBEq, Nat.reduceLT, Nat.reduceLeDiff, Nat.reduceAdd, Nat.reduceMul, Nat.reduceEqDiff, Int.reduceEq, Int.reduceLT, Int.reduceLE, Int.reduceNeg, Int.reduceToNat, Bool.false_eq_true, eq_self, sa, *])
  all_goals (first | (with_reducible exact sameW) | ((with_reducible show _ ∧ _); exact ⟨by first | rfl | (simp [*] <;> omega), sameW⟩))
def wI (n : Int) : Int := IntKind.i64.wrap n
theorem fn37 : E.fn.get 37 = some Tryz.f37 := by kernel_rfl
theorem hfield_d (H : Heap) (hlo : H.lo ≤ H.next) {x : Value} (hd : Dead H x) (h i : Int) : CallA E (fnv 37) [x, .int .i64 h, .int .i64 i] H fun r H' => r = .tuple #[.int .i64 (wI (1 + i)), .int .i64 10] ∧ Same H H' := by
  refine callA_fn (by kernel_rfl) fn37 rfl rfl ?_
  simp only [Tryz.f37]
  repeat' (first | refine boolP_dec (fun _ => ?_) (fun _ => ?_) | apply boolP_not | refine boolP_b (fun _ => ?_) (fun _ => ?_) | ((with_reducible show CallA _ _ _ _ _); refine call_ko (H0 := H) koW (hobject_d _ loW (hd.ko koW) h) ?_; intro H2 k2 l2 n2 g2 q2; try simp (disch := omega) only [sm, sl] at l2 n2 g2 q2) | simp (config := { maxSteps := 1000000 }) (disch := omega) only [↓sh, ↓sh2, ↓reduceIte, sx, sl, sb, st, nbeq_ne, dle, relo_eq, wrap_i64, Nat.reduceBEq, Nat.reduceLT, Nat.reduceLeDiff, Nat.reduceAdd, Nat.reduceMul, Nat.reduceEqDiff, Int.reduceEq, Int.reduceLT, Int.reduceLE, Int.reduceNeg, Int.reduceToNat, Bool.false_eq_true, eq_self, sa, *])
  all_goals (first | (with_reducible exact sameW) | ((with_reducible show _ ∧ _); exact ⟨by first | rfl | (simp [wI, *] <;> omega), sameW⟩))
theorem fn41 : E.fn.get 41 = some Tryz.f41 := by kernel_rfl
theorem hraw_d (H : Heap) (hlo : H.lo ≤ H.next) {x : Value} (hd : Dead H x) (h i : Int) : CallA E (fnv 41) [x, .int .i64 h, .int .i64 i] H fun r H' => r = .tuple #[.int .i64 (wI (1 + i)), .int .i64 10] ∧ Same H H' := by
  refine callA_fn (by kernel_rfl) fn41 rfl rfl ?_
  simp only [Tryz.f41]
  repeat' (first | refine boolP_dec (fun _ => ?_) (fun _ => ?_) | apply boolP_not | refine boolP_b (fun _ => ?_) (fun _ => ?_) | ((with_reducible show CallA _ _ _ _ _); refine call_ko (H0 := H) koW (hobject_d _ loW (hd.ko koW) h) ?_; intro H2 k2 l2 n2 g2 q2; try simp (disch := omega) only [sm, sl] at l2 n2 g2 q2) | simp (config := { maxSteps := 1000000 }) (disch := omega) only [↓sh, ↓sh2, ↓reduceIte, sx, sl, sb, st, nbeq_ne, dle, relo_eq, wrap_i64, Nat.reduceBEq, Nat.reduceLT, Nat.reduceLeDiff, Nat.reduceAdd, Nat.reduceMul, Nat.reduceEqDiff, Int.reduceEq, Int.reduceLT, Int.reduceLE, Int.reduceNeg, Int.reduceToNat, Bool.false_eq_true, eq_self, sa, *])
  all_goals (first | (with_reducible exact sameW) | ((with_reducible show _ ∧ _); exact ⟨by first | rfl | (simp [wI, *] <;> omega), sameW⟩))
theorem fn15 : E.fn.get 15 = some Tryz.f15 := by kernel_rfl
theorem hload_d (H : Heap) (hlo : H.lo ≤ H.next) {x : Value} (hd : Dead H x) (h i : Int) : CallA E (fnv 15) [x, .int .i64 h, .int .i64 i] H fun r H' => r = .tuple #[.agg #[.int .i64 0, .int .i64 0], .int .i64 10] ∧ Same H H' := by
  refine callA_fn (by kernel_rfl) fn15 rfl rfl ?_
  simp only [Tryz.f15]
  repeat' (first | refine boolP_dec (fun _ => ?_) (fun _ => ?_) | apply boolP_not | refine boolP_b (fun _ => ?_) (fun _ => ?_) | ((with_reducible show CallA _ _ _ _ _); refine call_ko (H0 := H) koW (hfield_d _ loW (hd.ko koW) h i) ?_; intro H2 k2 l2 n2 g2 q2; try simp (disch := omega) only [sm, sl] at l2 n2 g2 q2) | simp (config := { maxSteps := 1000000 }) (disch := omega) only [↓sh, ↓sh2, ↓reduceIte, sx, sl, sb, st, nbeq_ne, dle, relo_eq, wrap_i64, Nat.reduceBEq, Nat.reduceLT, Nat.reduceLeDiff, Nat.reduceAdd, Nat.reduceMul, Nat.reduceEqDiff, Int.reduceEq, Int.reduceLT, Int.reduceLE, Int.reduceNeg, Int.reduceToNat, Bool.false_eq_true, eq_self, sa, *])
  all_goals (first | (with_reducible exact sameW) | ((with_reducible show _ ∧ _); exact ⟨by first | rfl | (simp [*] <;> omega), sameW⟩))
theorem fn14 : E.fn.get 14 = some Tryz.f14 := by kernel_rfl
theorem hstore_d (H : Heap) (hlo : H.lo ≤ H.next) {x : Value} (hd : Dead H x) (h i vk vx : Int) : CallA E (fnv 14) [x, .int .i64 h, .int .i64 i, .agg #[.int .i64 vk, .int .i64 vx]] H fun r H' => r = .int .i64 10 ∧ Same H H' := by
  refine callA_fn (by kernel_rfl) fn14 rfl rfl ?_
  simp only [Tryz.f14]
  repeat' (first | refine boolP_dec (fun _ => ?_) (fun _ => ?_) | apply boolP_not | refine boolP_b (fun _ => ?_) (fun _ => ?_) | ((with_reducible show CallA _ _ _ _ _); refine call_ko (H0 := H) koW (hfield_d _ loW (hd.ko koW) h i) ?_; intro H2 k2 l2 n2 g2 q2; try simp (disch := omega) only [sm, sl] at l2 n2 g2 q2) | simp (config := { maxSteps := 1000000 }) (disch := omega) only [↓sh, ↓sh2, ↓reduceIte, sx, sl, sb, st, nbeq_ne, dle, relo_eq, wrap_i64, Nat.reduceBEq, Nat.reduceLT, Nat.reduceLeDiff, Nat.reduceAdd, Nat.reduceMul, Nat.reduceEqDiff, Int.reduceEq, Int.reduceLT, Int.reduceLE, Int.reduceNeg, Int.reduceToNat, Bool.false_eq_true, eq_self, sa, *])
  all_goals (first | (with_reducible exact sameW) | ((with_reducible show _ ∧ _); exact ⟨by first | rfl | (simp [*] <;> omega), sameW⟩))
theorem fn18 : E.fn.get 18 = some Tryz.f18 := by kernel_rfl
theorem hread_d (H : Heap) (hlo : H.lo ≤ H.next) {x : Value} (hd : Dead H x) (h i : Int) : CallA E (fnv 18) [x, .int .i64 h, .int .i64 i] H fun r H' => r = .tuple #[.int .u64 0, .int .i64 10] ∧ Same H H' := by
  refine callA_fn (by kernel_rfl) fn18 rfl rfl ?_
  simp only [Tryz.f18]
  repeat' (first | refine boolP_dec (fun _ => ?_) (fun _ => ?_) | apply boolP_not | refine boolP_b (fun _ => ?_) (fun _ => ?_) | ((with_reducible show CallA _ _ _ _ _); refine call_ko (H0 := H) koW (hraw_d _ loW (hd.ko koW) h i) ?_; intro H2 k2 l2 n2 g2 q2; try simp (disch := omega) only [sm, sl] at l2 n2 g2 q2) | simp (config := { maxSteps := 1000000 }) (disch := omega) only [↓sh, ↓sh2, ↓reduceIte, sx, sl, sb, st, nbeq_ne, dle, relo_eq, wrap_i64, Nat.reduceBEq, Nat.reduceLT, Nat.reduceLeDiff, Nat.reduceAdd, Nat.reduceMul, Nat.reduceEqDiff, Int.reduceEq, Int.reduceLT, Int.reduceLE, Int.reduceNeg, Int.reduceToNat, Bool.false_eq_true, eq_self, sa, *])
  all_goals (first | (with_reducible exact sameW) | ((with_reducible show _ ∧ _); exact ⟨by first | rfl | (simp [*] <;> omega), sameW⟩))
theorem fn17 : E.fn.get 17 = some Tryz.f17 := by kernel_rfl
theorem hwrite_d (H : Heap) (hlo : H.lo ≤ H.next) {x : Value} (hd : Dead H x) (h i w : Int) : CallA E (fnv 17) [x, .int .i64 h, .int .i64 i, .int .u64 w] H fun r H' => r = .int .i64 10 ∧ Same H H' := by
  refine callA_fn (by kernel_rfl) fn17 rfl rfl ?_
  simp only [Tryz.f17]
  repeat' (first | refine boolP_dec (fun _ => ?_) (fun _ => ?_) | apply boolP_not | refine boolP_b (fun _ => ?_) (fun _ => ?_) | ((with_reducible show CallA _ _ _ _ _); refine call_ko (H0 := H) koW (hraw_d _ loW (hd.ko koW) h i) ?_; intro H2 k2 l2 n2 g2 q2; try simp (disch := omega) only [sm, sl] at l2 n2 g2 q2) | simp (config := { maxSteps := 1000000 }) (disch := omega) only [↓sh, ↓sh2, ↓reduceIte, sx, sl, sb, st, nbeq_ne, dle, relo_eq, wrap_i64, Nat.reduceBEq, Nat.reduceLT, Nat.reduceLeDiff, Nat.reduceAdd, Nat.reduceMul, Nat.reduceEqDiff, Int.reduceEq, Int.reduceLT, Int.reduceLE, Int.reduceNeg, Int.reduceToNat, Bool.false_eq_true, eq_self, sa, *])
  all_goals (first | (with_reducible exact sameW) | ((with_reducible show _ ∧ _); exact ⟨by first | rfl | (simp [*] <;> omega), sameW⟩))
theorem fn16 : E.fn.get 16 = some Tryz.f16 := by kernel_rfl
theorem hsame_d (H : Heap) (hlo : H.lo ≤ H.next) {x : Value} (hd : Dead H x) (h g : Int) : CallA E (fnv 16) [x, .int .i64 h, .int .i64 g] H fun r H' => r = .tuple #[.bool false, .int .i64 10] ∧ Same H H' := by
  refine callA_fn (by kernel_rfl) fn16 rfl rfl ?_
  simp only [Tryz.f16]
  repeat' (first | refine boolP_dec (fun _ => ?_) (fun _ => ?_) | apply boolP_not | refine boolP_b (fun _ => ?_) (fun _ => ?_) | ((with_reducible show CallA _ _ _ _ _); refine call_ko (H0 := H) koW (hdead_ok _ loW (hd.ko koW)) ?_; intro H2 k2 l2 n2 g2 q2; try simp (disch := omega) only [sm, sl] at l2 n2 g2 q2) | simp (config := { maxSteps := 1000000 }) (disch := omega) only [↓sh, ↓sh2, ↓reduceIte, sx, sl, sb, st, nbeq_ne, dle, relo_eq, wrap_i64, Nat.reduceBEq, Nat.reduceLT, Nat.reduceLeDiff, Nat.reduceAdd, Nat.reduceMul, Nat.reduceEqDiff, Int.reduceEq, Int.reduceLT, Int.reduceLE, Int.reduceNeg, Int.reduceToNat, Bool.false_eq_true, eq_self, sa, *])
  all_goals (first | (with_reducible exact sameW) | ((with_reducible show _ ∧ _); exact ⟨by first | rfl | (simp [*] <;> omega), sameW⟩))
theorem fn19 : E.fn.get 19 = some Tryz.f19 := by kernel_rfl
theorem hdup_d (H : Heap) (hlo : H.lo ≤ H.next) {x : Value} (hd : Dead H x) (h : Int) : CallA E (fnv 19) [x, .int .i64 h] H fun r H' => r = .tuple #[.int .i64 0, .int .i64 10] ∧ Same H H' := by
  refine callA_fn (by kernel_rfl) fn19 rfl rfl ?_
  simp only [Tryz.f19]
  repeat' (first | refine boolP_dec (fun _ => ?_) (fun _ => ?_) | apply boolP_not | refine boolP_b (fun _ => ?_) (fun _ => ?_) | ((with_reducible show CallA _ _ _ _ _); refine call_ko (H0 := H) koW (hdead_ok _ loW (hd.ko koW)) ?_; intro H2 k2 l2 n2 g2 q2; try simp (disch := omega) only [sm, sl] at l2 n2 g2 q2) | simp (config := { maxSteps := 1000000 }) (disch := omega) only [↓sh, ↓sh2, ↓reduceIte, sx, sl, sb, st, nbeq_ne, dle, relo_eq, wrap_i64, Nat.reduceBEq, Nat.reduceLT, Nat.reduceLeDiff, Nat.reduceAdd, Nat.reduceMul, Nat.reduceEqDiff, Int.reduceEq, Int.reduceLT, Int.reduceLE, Int.reduceNeg, Int.reduceToNat, Bool.false_eq_true, eq_self, sa, *])
  all_goals (first | (with_reducible exact sameW) | ((with_reducible show _ ∧ _); exact ⟨by first | rfl | (simp [*] <;> omega), sameW⟩))
theorem fn20 : E.fn.get 20 = some Tryz.f20 := by kernel_rfl
theorem hrelease_d (H : Heap) (hlo : H.lo ≤ H.next) {x : Value} (hd : Dead H x) (h : Int) : CallA E (fnv 20) [x, .int .i64 h] H fun r H' => r = .int .i64 10 ∧ Same H H' := by
  refine callA_fn (by kernel_rfl) fn20 rfl rfl ?_
  simp only [Tryz.f20]
  repeat' (first | refine boolP_dec (fun _ => ?_) (fun _ => ?_) | apply boolP_not | refine boolP_b (fun _ => ?_) (fun _ => ?_) | ((with_reducible show CallA _ _ _ _ _); refine call_ko (H0 := H) koW (hdead_ok _ loW (hd.ko koW)) ?_; intro H2 k2 l2 n2 g2 q2; try simp (disch := omega) only [sm, sl] at l2 n2 g2 q2) | simp (config := { maxSteps := 1000000 }) (disch := omega) only [↓sh, ↓sh2, ↓reduceIte, sx, sl, sb, st, nbeq_ne, dle, relo_eq, wrap_i64, Nat.reduceBEq, Nat.reduceLT, Nat.reduceLeDiff, Nat.reduceAdd, Nat.reduceMul, Nat.reduceEqDiff, Int.reduceEq, Int.reduceLT, Int.reduceLE, Int.reduceNeg, Int.reduceToNat, Bool.false_eq_true, eq_self, sa, *])
  all_goals (first | (with_reducible exact sameW) | ((with_reducible show _ ∧ _); exact ⟨by first | rfl | (simp [*] <;> omega), sameW⟩))
theorem fn21 : E.fn.get 21 = some Tryz.f21 := by kernel_rfl
theorem hcollect_d (H : Heap) (hlo : H.lo ≤ H.next) {x : Value} (hd : Dead H x) (p : Int) : CallA E (fnv 21) [x, .int .u8 p] H fun r H' => r = .tuple #[.agg #[.int .i64 0, .int .i64 0, .int .i64 0, .int .i64 0, .int .i64 0], .int .i64 10] ∧ Same H H' := by
  refine callA_fn (by kernel_rfl) fn21 rfl rfl ?_
  simp only [Tryz.f21]
  repeat' (first | refine boolP_dec (fun _ => ?_) (fun _ => ?_) | apply boolP_not | refine boolP_b (fun _ => ?_) (fun _ => ?_) | ((with_reducible show CallA _ _ _ _ _); refine call_ko (H0 := H) koW (hdead_ok _ loW (hd.ko koW)) ?_; intro H2 k2 l2 n2 g2 q2; try simp (disch := omega) only [sm, sl] at l2 n2 g2 q2) | simp (config := { maxSteps := 1000000 }) (disch := omega) only [↓sh, ↓sh2, ↓reduceIte, sx, sl, sb, st, nbeq_ne, dle, relo_eq, wrap_i64, Nat.reduceBEq, Nat.reduceLT, Nat.reduceLeDiff, Nat.reduceAdd, Nat.reduceMul, Nat.reduceEqDiff, Int.reduceEq, Int.reduceLT, Int.reduceLE, Int.reduceNeg, Int.reduceToNat, Bool.false_eq_true, eq_self, sa, *])
  all_goals (first | (with_reducible exact sameW) | ((with_reducible show _ ∧ _); exact ⟨by first | rfl | (simp [*] <;> omega), sameW⟩))
theorem fn22 : E.fn.get 22 = some Tryz.f22 := by kernel_rfl
theorem hwhat_d (H : Heap) (hlo : H.lo ≤ H.next) {x : Value} (hd : Dead H x) (h : Int) : CallA E (fnv 22) [x, .int .i64 h] H fun r H' => r = .tuple #[.int .i64 0, .int .i64 0, .int .i64 0, .int .i64 10] ∧ Same H H' := by
  refine callA_fn (by kernel_rfl) fn22 rfl rfl ?_
  simp only [Tryz.f22]
  repeat' (first | refine boolP_dec (fun _ => ?_) (fun _ => ?_) | apply boolP_not | refine boolP_b (fun _ => ?_) (fun _ => ?_) | refine wps_draw (id := 2) [Fx, Fx, Fx, Fx, Fx, Fx, Fx, Fx, Fx, Fx, Fx] (by kernel_rfl) ?_ | ((with_reducible show CallA _ _ _ _ _); refine call_ko (H0 := H) koW (hobject_d _ loW (hd.ko koW) h) ?_; intro H2 k2 l2 n2 g2 q2; try simp (disch := omega) only [sm, sl] at l2 n2 g2 q2) | simp (config := { maxSteps := 1000000 }) (disch := omega) only [↓sh, ↓sh2, ↓reduceIte, sx, sl, sb, st, nbeq_ne, dle, relo_eq, wrap_i64, Nat.reduceBEq, Nat.reduceLT, Nat.reduceLeDiff, Nat.reduceAdd, Nat.reduceMul, Nat.reduceEqDiff, Int.reduceEq, Int.reduceLT, Int.reduceLE, Int.reduceNeg, Int.reduceToNat, Bool.false_eq_true, eq_self, sa, *])
  all_goals (first | (with_reducible exact sameW) | ((with_reducible show _ ∧ _); exact ⟨by first | rfl | (simp [*] <;> omega), sameW⟩))
end Go.AM
