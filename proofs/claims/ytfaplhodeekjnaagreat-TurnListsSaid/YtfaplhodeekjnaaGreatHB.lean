/-
  Walks over letters of the functions that the law reaches.
-/
import Derived.Test.YtfaplhodeekjnaaGreatHA
import Derived.Test.YtfaplhodeekjnaaGreatCC
namespace Go.AM
attribute [local instance] fnMaps
open Go Go.Proofs
set_option maxRecDepth 100000
set_option maxHeartbeats 1000000
set_option linter.unusedSimpArgs false
theorem fn28 : E.fn.get 28 = some Tryz.f28 := by kernel_rfl
theorem word_copy (H : Heap) (hlo : H.lo ≤ H.next) {c : Rc} {s z : Rs} (h : Rn H c s) (ho : c.Lo H) (w : Nat) (hw : w < 2 ^ 64) {x : Int} {N : Nat} (hn : refW w = some x) (h1 : c.fr.at' ≤ x) (hg : refW (wAt s.ws x) = none) (hd : isHd (wAt s.ws x) = true)
    (hz : 1 ≤ sizeH (decHd (wAt s.ws x))) (h2 : sizeH (decHd (wAt s.ws x)) ≤ c.top - x) (h3 : s.u + sizeH (decHd (wAt s.ws x)) ≤ c.to.size)
    (hT : TRun c N ⟨s.u + sizeH (decHd (wAt s.ws x)), { s.k with words := IntKind.i64.wrap (s.k.words + sizeH (decHd (wAt s.ws x))) }, copyW s.ws x (c.to.at' + s.u) (sizeH (decHd (wAt s.ws x)))⟩ (c.to.at' + s.u) 0 z) :
    CallA E (fnv 28) [ptr c.p 0, .int .u64 w] H fun r H' => r = .tuple #[.int .u64 (refWd (c.to.at' + s.u)), .int .i64 0] ∧ Rn H' c z ∧ Mod c.ex H H' := by
  have hm := h.bp.may
  have u0 := h.bp.u0
  unfold May at hm
  have hb : 0 ≤ c.to.at' + s.u ∧ c.to.at' + s.u ≤ 1099511627776 := by omega
  have hrf := refW_wd hb
  refine callA_fn (by kernel_rfl) fn28 rfl rfl ?_
  simp only [Tryz.f28]
  repeat' (first | refine boolP_dec (fun _ => ?_) (fun _ => ?_) | apply boolP_not | refine boolP_b (fun _ => ?_) (fun _ => ?_) | simp (config := { maxSteps := 1000000 }) (disch := omega) only [↓sh, ↓sh2, ↓reduceIte, sx, sl, sb, st, nbeq_ne, dle, relo_eq, wrap_i64, Nat.reduceBEq, Nat.reduceLT, Nat.reduceLeDiff, Nat.reduceAdd, Nat.reduceMul, Nat.reduceEqDiff, Int.reduceEq, Int.reduceLT, Int.reduceLE, Int.reduceNeg, Int.reduceToNat, Bool.false_eq_true, eq_self, sa, st2, *])
  refine CallA.mono (fwd_copy _ loW h ho w hw hn h1 hg hd hz h2 h3) ?_
  rintro r H3 ⟨rfl, h3', m3⟩
  have lo3 := m3.lo
  have nx3 := m3.nxt
  repeat' (first | refine boolP_dec (fun _ => ?_) (fun _ => ?_) | apply boolP_not | refine boolP_b (fun _ => ?_) (fun _ => ?_) | ((with_reducible show CallA _ _ _ _ _); refine call_ko (H0 := H3) koW (vref_ok _ loW (refWd (c.to.at' + s.u)) (refWd_u64 _ hb)) ?_; intro H2 k2 l2 n2 g2 q2; try simp (disch := omega) only [sm, sl] at l2 n2 g2 q2) | simp (config := { maxSteps := 1000000 }) (disch := omega) only [↓sh, ↓sh2, ↓reduceIte, sx, sl, sb, st, nbeq_ne, dle, relo_eq, wrap_i64, Nat.reduceBEq, Nat.reduceLT, Nat.reduceLeDiff, Nat.reduceAdd, Nat.reduceMul, Nat.reduceEqDiff, Int.reduceEq, Int.reduceLT, Int.reduceLE, Int.reduceNeg, Int.reduceToNat, Bool.false_eq_true, eq_self, sa, st2, Option.isSome_some, Option.getD_some, *])
  refine CallA.mono (down_ok _ loW (h3'.ko koW) (ho.eq (by omega)) (c.to.at' + s.u) N hT) ?_
  rintro r H4 ⟨rfl, h4, m4⟩
  have w4 := (m3.trans (Same.mod (sameW : Same H3 H2) _)).trans m4
  repeat' (first | refine boolP_dec (fun _ => ?_) (fun _ => ?_) | apply boolP_not | refine boolP_b (fun _ => ?_) (fun _ => ?_) | simp (config := { maxSteps := 1000000 }) (disch := omega) only [↓sh, ↓sh2, ↓reduceIte, sx, sl, sb, st, nbeq_ne, dle, relo_eq, wrap_i64, Nat.reduceBEq, Nat.reduceLT, Nat.reduceLeDiff, Nat.reduceAdd, Nat.reduceMul, Nat.reduceEqDiff, Int.reduceEq, Int.reduceLT, Int.reduceLE, Int.reduceNeg, Int.reduceToNat, Bool.false_eq_true, eq_self, sa, st2, *])
structure Lz (H : Heap) (c : Rc) (l : Nat) (tv fv : Value) : Prop where
  lv : c.lv = ptr l 0
  row : H.objs.get l = some (.row [.bool true, ptr c.a 0, tv, fv, .int .i64 0] none true)
  ll : l < H.next
theorem fn72 : E.fn.get 72 = some Tryz.f72 := by kernel_rfl
theorem tpop0_ok (H : Heap) (hlo : H.lo ≤ H.next) (a tv : Value) : CallA E (fnv 72) [a, tv, .int .i64 0] H fun r H' => r = .tuple #[.int .i64 0, .int .i64 0, .int .i64 2] ∧ Same H H' := by
  refine callA_fn (by kernel_rfl) fn72 rfl rfl ?_
  simp only [Tryz.f72]
  repeat' (first | refine boolP_dec (fun _ => ?_) (fun _ => ?_) | apply boolP_not | refine boolP_b (fun _ => ?_) (fun _ => ?_) | refine wps_draw (id := 8) [Fx, Fx, Fx, Fx, Fx, Fx, Fx, Fx, Fx, Fx, Fx, Fx, Fx, Fx, Fx] (by kernel_rfl) ?_ | simp (config := { maxSteps := 1000000 }) (disch := omega) only [↓sh, ↓sh2, ↓reduceIte, sx, sl, sb, st, nbeq_ne, dle, relo_eq, wrap_i64, Nat.reduceBEq, Nat.reduceLT, Nat.reduceLeDiff, Nat.reduceAdd, Nat.reduceMul, Nat.reduceEqDiff, Int.reduceEq, Int.reduceLT, Int.reduceLE, Int.reduceNeg, Int.reduceToNat, Bool.false_eq_true, eq_self, sa, st2, *])
  all_goals (first | (with_reducible exact sameW) | ((with_reducible show _ ∧ _); exact ⟨by first | rfl | (simp [*] <;> omega), sameW⟩))
theorem fn61 : E.fn.get 61 = some Tryz.f61 := by kernel_rfl
theorem ldead_ok (H : Heap) (hlo : H.lo ≤ H.next) {c : Rc} {l : Nat} {tv fv : Value} (h : Lz H c l tv fv) : CallA E (fnv 61) [ptr l 0] H fun r H' => r = .bool false ∧ Same H H' := by
  have hr := h.row
  refine callA_fn (by kernel_rfl) fn61 rfl rfl ?_
  simp only [Tryz.f61]
  repeat' (first | refine boolP_dec (fun _ => ?_) (fun _ => ?_) | apply boolP_not | refine boolP_b (fun _ => ?_) (fun _ => ?_) | simp (config := { maxSteps := 1000000 }) (disch := omega) only [↓sh, ↓sh2, ↓reduceIte, sx, sl, sb, st, nbeq_ne, dle, relo_eq, wrap_i64, Nat.reduceBEq, Nat.reduceLT, Nat.reduceLeDiff, Nat.reduceAdd, Nat.reduceMul, Nat.reduceEqDiff, Int.reduceEq, Int.reduceLT, Int.reduceLE, Int.reduceNeg, Int.reduceToNat, Bool.false_eq_true, eq_self, sa, st2, *])
  all_goals (first | (with_reducible exact sameW) | ((with_reducible show _ ∧ _); exact ⟨by first | rfl | (simp [*] <;> omega), sameW⟩))
theorem Lz.ko {H X : Heap} {c : Rc} {l : Nat} {tv fv : Value} (h : Lz H c l tv fv) (k : Ko H X) : Lz X c l tv fv := ⟨h.lv, k.keeps h.ll h.row, Nat.lt_of_lt_of_le h.ll k.nxt⟩
theorem fn52 : E.fn.get 52 = some Tryz.f52 := by kernel_rfl
theorem lpop0_ok (H : Heap) (hlo : H.lo ≤ H.next) {c : Rc} {l : Nat} {tv fv : Value} (h : Lz H c l tv fv) : CallA E (fnv 52) [ptr l 0] H fun r H' => r = .tuple #[.int .i64 0, .bool false] ∧ Same H H' := by
  have hr := h.row
  have hl := h.ll
  refine callA_fn (by kernel_rfl) fn52 rfl rfl ?_
  simp only [Tryz.f52]
  repeat' (first | refine boolP_dec (fun _ => ?_) (fun _ => ?_) | apply boolP_not | refine boolP_b (fun _ => ?_) (fun _ => ?_) | refine wps_draw (id := 3) [Fx, Fx, Fx, Fx, Fx, Fx, Fx, Fx, Fx, Fx, Fx, Fx, Fx, Fx, Fx, Fx, Fx, Fx, Fx, Fx] (by kernel_rfl) ?_ | ((with_reducible show CallA _ _ _ _ _); (first | refine call_ko (H0 := H) koW (ldead_ok _ loW (h.ko koW)) ?_ | refine call_ko (H0 := H) koW (tpop0_ok _ loW _ _) ?_); intro H2 k2 l2 n2 g2 q2; try simp (disch := omega) only [sm, sl] at l2 n2 g2 q2) | simp (config := { maxSteps := 1000000 }) (disch := omega) only [↓sh, ↓sh2, ↓reduceIte, sx, sl, sb, st, nbeq_ne, dle, relo_eq, wrap_i64, Nat.reduceBEq, Nat.reduceLT, Nat.reduceLeDiff, Nat.reduceAdd, Nat.reduceMul, Nat.reduceEqDiff, Int.reduceEq, Int.reduceLT, Int.reduceLE, Int.reduceNeg, Int.reduceToNat, Bool.false_eq_true, eq_self, sa, st2, *])
  all_goals (first | (with_reducible exact sameW) | ((with_reducible show _ ∧ _); exact ⟨by first | rfl | (simp [*] <;> omega), sameW⟩))
theorem fn29 : E.fn.get 29 = some Tryz.f29 := by kernel_rfl
theorem clarge0_ok (H : Heap) (hlo : H.lo ≤ H.next) {c : Rc} {s : Rs} (h : Rn H c s) {l : Nat} {tv fv : Value} (hz : Lz H c l tv fv) : CallA E (fnv 29) [ptr c.p 0] H fun r H' => r = .tuple #[.int .i64 0, .bool false] ∧ Same H H' := by
  have hr := h.row
  have lp := h.lp
  have hv := hz.lv
  unfold rnC at hr
  rw [hv] at hr
  refine callA_fn (by kernel_rfl) fn29 rfl rfl ?_
  simp only [Tryz.f29]
  repeat' (first | refine boolP_dec (fun _ => ?_) (fun _ => ?_) | apply boolP_not | refine boolP_b (fun _ => ?_) (fun _ => ?_) | ((with_reducible show CallA _ _ _ _ _); (first | refine call_ko (H0 := H) koW (cdead_ok _ loW (h.ko koW)) ?_ | refine call_ko (H0 := H) koW (lpop0_ok _ loW (hz.ko koW)) ?_); intro H2 k2 l2 n2 g2 q2; try simp (disch := omega) only [sm, sl] at l2 n2 g2 q2) | simp (config := { maxSteps := 1000000 }) (disch := omega) only [↓sh, ↓sh2, ↓reduceIte, sx, sl, sb, st, nbeq_ne, dle, relo_eq, wrap_i64, Nat.reduceBEq, Nat.reduceLT, Nat.reduceLeDiff, Nat.reduceAdd, Nat.reduceMul, Nat.reduceEqDiff, Int.reduceEq, Int.reduceLT, Int.reduceLE, Int.reduceNeg, Int.reduceToNat, Bool.false_eq_true, eq_self, sa, st2, *])
  all_goals (first | (with_reducible exact sameW) | ((with_reducible show _ ∧ _); exact ⟨by first | rfl | (simp [*] <;> omega), sameW⟩))
end Go.AM
namespace Go.AM
attribute [local instance] fnMaps
open Go Go.Proofs
set_option maxRecDepth 100000
set_option maxHeartbeats 1000000
set_option linter.unusedSimpArgs false
theorem fn48 : E.fn.get 48 = some Tryz.f48 := by kernel_rfl
theorem bnew_ok (H : Heap) (hlo : H.lo ≤ H.next) (x : Span) (hx : May x) : CallA E (fnv 48) [spanV x] H fun r H' => (∃ b, r = .tuple #[ptr b 0, .int .i64 0] ∧ Bp H' b x 0 ∧ H.next ≤ b) ∧ Same H H' := by
  have hx' := hx
  unfold May at hx'
  refine callA_fn (by kernel_rfl) fn48 rfl rfl ?_
  simp only [Tryz.f48]
  simp only [spanV]
  repeat' (first | refine boolP_dec (fun _ => ?_) (fun _ => ?_) | apply boolP_not | refine boolP_b (fun _ => ?_) (fun _ => ?_) | ((with_reducible show CallA _ _ _ _ _); refine call_ko (H0 := H) koW (smay_ok _ loW x) ?_; intro H2 k2 l2 n2 g2 q2; try simp (disch := omega) only [sm, sl] at l2 n2 g2 q2) | ((with_reducible show Qs _ _ _ _ _); first | refine hQe _ _ _ _ ?_ | refine hQr _ _ _ ?_) | simp (config := { maxSteps := 1000000 }) (disch := omega) only [↓sh, ↓sh2, ↓reduceIte, sx, sl, sb, st, nbeq_ne, dle, relo_eq, wrap_i64, Nat.reduceBEq, Nat.reduceLT, Nat.reduceLeDiff, Nat.reduceAdd, Nat.reduceMul, Nat.reduceEqDiff, Int.reduceEq, Int.reduceLT, Int.reduceLE, Int.reduceNeg, Int.reduceToNat, Bool.false_eq_true, eq_self, sa, st2, *])
  refine ⟨⟨H2.next, rfl, ⟨by first | (simp (disch := omega) only [setRow_get, newRow_get, newRow_next, setRow_next, newRow_lo, setRow_lo, newRow_grps, setRow_grps, newRow_relo, setRow_relo, relo_objs, relo_next, relo_lo, nbeq_ne, sl]; done) | (simp (disch := omega) only [setRow_get, newRow_get, newRow_next, setRow_next, newRow_lo, setRow_lo, newRow_grps, setRow_grps, newRow_relo, setRow_relo, relo_objs, relo_next, relo_lo, nbeq_ne, sl]; rfl), by first | (simp (disch := omega) only [setRow_get, newRow_get, newRow_next, setRow_next, newRow_lo, setRow_lo, newRow_grps, setRow_grps, newRow_relo, setRow_relo, relo_objs, relo_next, relo_lo, nbeq_ne, sl]; done) | (simp (disch := omega) only [setRow_get, newRow_get, newRow_next, setRow_next, newRow_lo, setRow_lo, newRow_grps, setRow_grps, newRow_relo, setRow_relo, relo_objs, relo_next, relo_lo, nbeq_ne, sl]; omega), hx, Int.le_refl 0, by omega⟩, by omega⟩, sameW⟩
theorem fn86 : E.fn.get 86 = some Tryz.f86 := by kernel_rfl
theorem index0_ok (H : Heap) (hlo : H.lo ≤ H.next) (a : Option Addr) (n : Nat) (f : Value) : CallA E (fnv 86) [.slice a 0 n, f] H fun r H' => r = .int .i64 (-1) ∧ Same H H' := by
  refine callA_fn (by kernel_rfl) fn86 rfl rfl ?_
  simp only [Tryz.f86]
  repeat' (first | refine boolP_dec (fun _ => ?_) (fun _ => ?_) | apply boolP_not | refine boolP_b (fun _ => ?_) (fun _ => ?_) | ((with_reducible show Qs _ _ _ _ _); first | refine hQe _ _ _ _ ?_ | refine hQr _ _ _ ?_) | simp (config := { maxSteps := 1000000 }) (disch := omega) only [↓sh, ↓sh2, ↓reduceIte, sx, sl, sb, st, nbeq_ne, dle, relo_eq, wrap_i64, Nat.reduceBEq, Nat.reduceLT, Nat.reduceLeDiff, Nat.reduceAdd, Nat.reduceMul, Nat.reduceEqDiff, Int.reduceEq, Int.reduceLT, Int.reduceLE, Int.reduceNeg, Int.reduceToNat, Bool.false_eq_true, eq_self, sa, st2, *])
  refine wps_named2 (fun T1 H1 eT eH => ?_)
  have k1 : Ko H H1 := by rw [eH]; exact koW
  have n1 := congrArg Heap.next eH; have l1 := congrArg Heap.lo eH; have g1 := fun r => congrArg (fun h : Heap => h.objs.get r) eH
  try simp (disch := omega) only [sm, sl] at n1 l1 g1
  clear eH
  have u1_0 := congrArg (fun T : Tr Value => T.get 0) eT
  have u1_1 := congrArg (fun T : Tr Value => T.get 1) eT
  have u1_7 := congrArg (fun T : Tr Value => T.get 7) eT
  have u1_8 := congrArg (fun T : Tr Value => T.get 8) eT
  simp only [get_set, of_nil, of_1, of_2, of_3, of_4, of_5, Nat.reduceEqDiff, if_true, if_false, reduceIte] at u1_0 u1_1 u1_7 u1_8
  clear eT
  refine wp_loopN (by kernel_rfl) (fun nn T X => nn = 0 ∧ (T.get 8 = some (.int .i64 0)) ∧ (T.get 0 = T1.get 0 ∧ T.get 1 = T1.get 1 ∧ T.get 7 = T1.get 7) ∧ Ko H1 X ∧ X.lo = H1.lo ∧ (True)) ?_ ?_
  · refine ⟨_, rfl, ?_, ?_, Ko.refl _, rfl, trivial⟩ <;> exact nextW
  rintro nn T1' X1 ⟨rfl, m1, w1, kx1, lx1, _⟩ Qs hQ hQr hQe
  have kX1 := k1.trans kx1; have nx1 := kx1.nxt; have gx1 := kx1.objs
  repeat' (first | refine boolP_dec (fun _ => ?_) (fun _ => ?_) | apply boolP_not | refine boolP_b (fun _ => ?_) (fun _ => ?_) | ((with_reducible show Qs _ _ _ _ _); first | refine hQe _ _ _ _ ?_ | refine hQr _ _ _ ?_) | simp (config := { maxSteps := 1000000 }) (disch := omega) only [↓sh, ↓sh2, ↓reduceIte, sx, sl, sb, st, nbeq_ne, dle, relo_eq, wrap_i64, Nat.reduceBEq, Nat.reduceLT, Nat.reduceLeDiff, Nat.reduceAdd, Nat.reduceMul, Nat.reduceEqDiff, Int.reduceEq, Int.reduceLT, Int.reduceLE, Int.reduceNeg, Int.reduceToNat, Bool.false_eq_true, eq_self, sa, st2, Int.natCast_zero, *])
  all_goals (first | (with_reducible exact sameW) | ((with_reducible show _ ∧ _); exact ⟨by first | rfl | (simp [*] <;> omega), sameW⟩))
theorem fn62 : E.fn.get 62 = some Tryz.f62 := by kernel_rfl
theorem find0_ok (H : Heap) (hlo : H.lo ≤ H.next) (a : Option Addr) (n : Nat) (x : Int) : CallA E (fnv 62) [.slice a 0 n, .int .i64 x] H fun r H' => r = .int .i64 (-1) ∧ Same H H' := by
  refine callA_fn (by kernel_rfl) fn62 rfl rfl ?_
  simp only [Tryz.f62]
  repeat' (first | refine boolP_dec (fun _ => ?_) (fun _ => ?_) | apply boolP_not | refine boolP_b (fun _ => ?_) (fun _ => ?_) | ((with_reducible show CallA _ _ _ _ _); refine call_ko (H0 := H) koW (index0_ok _ loW _ _ _) ?_; intro H2 k2 l2 n2 g2 q2; try simp (disch := omega) only [sm, sl] at l2 n2 g2 q2) | ((with_reducible show Qs _ _ _ _ _); first | refine hQe _ _ _ _ ?_ | refine hQr _ _ _ ?_) | simp (config := { maxSteps := 1000000 }) (disch := omega) only [↓sh, ↓sh2, ↓reduceIte, sx, sl, sb, st, nbeq_ne, dle, relo_eq, wrap_i64, Nat.reduceBEq, Nat.reduceLT, Nat.reduceLeDiff, Nat.reduceAdd, Nat.reduceMul, Nat.reduceEqDiff, Int.reduceEq, Int.reduceLT, Int.reduceLE, Int.reduceNeg, Int.reduceToNat, Bool.false_eq_true, eq_self, sa, st2, *])
  all_goals (first | (with_reducible exact sameW) | ((with_reducible show _ ∧ _); exact ⟨by first | rfl | (simp [*] <;> omega), sameW⟩))
theorem fn45 : E.fn.get 45 = some Tryz.f45 := by kernel_rfl
theorem lmark0_ok (H : Heap) (hlo : H.lo ≤ H.next) {c : Rc} {l : Nat} {a : Option Addr} {n : Nat} {fv : Value} (h : Lz H c l (.slice a 0 n) fv) (x : Int) : CallA E (fnv 45) [ptr l 0, .int .i64 x] H fun r H' => r = .tuple #[.bool false, .int .i64 2] ∧ Same H H' := by
  have hr := h.row
  have hl := h.ll
  refine callA_fn (by kernel_rfl) fn45 rfl rfl ?_
  simp only [Tryz.f45]
  repeat' (first | refine boolP_dec (fun _ => ?_) (fun _ => ?_) | apply boolP_not | refine boolP_b (fun _ => ?_) (fun _ => ?_) | refine wps_draw (id := 10) [Fx, Fx, Fx, Fx, Fx, Fx, Fx, Fx] (by kernel_rfl) ?_ | refine wps_draw (id := 13) [Fx, Fx, Fx, Fx, Fx, Fx, Fx, Fx, Fx, Fx, Fx, Fx, Fx, Fx, Fx, Fx, Fx, Fx, Fx, Fx, Fx, Fx] (by kernel_rfl) ?_ | ((with_reducible show CallA _ _ _ _ _); (first | refine call_ko (H0 := H) koW (ldead_ok _ loW (h.ko koW)) ?_ | refine call_ko (H0 := H) koW (find0_ok _ loW _ _ _) ?_); intro H2 k2 l2 n2 g2 q2; try simp (disch := omega) only [sm, sl] at l2 n2 g2 q2) | ((with_reducible show Qs _ _ _ _ _); first | refine hQe _ _ _ _ ?_ | refine hQr _ _ _ ?_) | simp (config := { maxSteps := 1000000 }) (disch := omega) only [↓sh, ↓sh2, ↓reduceIte, sx, sl, sb, st, nbeq_ne, dle, relo_eq, wrap_i64, Nat.reduceBEq, Nat.reduceLT, Nat.reduceLeDiff, Nat.reduceAdd, Nat.reduceMul, Nat.reduceEqDiff, Int.reduceEq, Int.reduceLT, Int.reduceLE, Int.reduceNeg, Int.reduceToNat, Bool.false_eq_true, eq_self, sa, st2, *])
  all_goals (first | (with_reducible exact sameW) | ((with_reducible show _ ∧ _); exact ⟨by first | rfl | (simp [*] <;> omega), sameW⟩))
end Go.AM
namespace Go.AM
attribute [local instance] fnMaps
open Go Go.Proofs
set_option maxRecDepth 100000
set_option maxHeartbeats 1000000
set_option linter.unusedSimpArgs false
theorem aread_no (H : Heap) (hlo : H.lo ≤ H.next) {a rw g : Nat} {ws : List Nat} (h : Ar H a rw g ws) : CallA E (fnv 39) [ptr a 0, .int .i64 (-1)] H fun r H' => r = .tuple #[.int .u64 0, .int .i64 2] ∧ Same H H' := by
  have := aread_ok H hlo h (-1)
  have hp : placeE ws.length (-1) = 2 := if_neg (by omega)
  rw [hp, if_neg (by omega)] at this
  exact this
theorem fn22 : E.fn.get 22 = some Tryz.f22 := by kernel_rfl
theorem cnew_ok (H : Heap) (hlo : H.lo ≤ H.next) {a rw g : Nat} {ws : List Nat} (ha : Ar H a rw g ws) {c0 : Rc} {l : Nat} {ta : Option Addr} {tn : Nat} {fv : Value} (hz : Lz H c0 l (.slice ta 0 tn) fv) (fr to : Span) (top : Int)
    (h1 : Within fr ⟨0, ws.length⟩) (h2 : Within to ⟨0, ws.length⟩) (h3 : ¬ Meets fr to) (h4 : fr.at' ≤ top) (h5 : top ≤ fr.at' + fr.size) :
    CallA E (fnv 22) [ptr a 0, spanV fr, .int .i64 top, spanV to, ptr l 0] H fun r H' => (∃ p b, r = .tuple #[ptr p 0, .int .i64 0] ∧ Rn H' ⟨p, b, a, rw, g, fr, to, top, ptr l 0⟩ ⟨0, ⟨0, 0, 0, 0, 0⟩, ws⟩ ∧ H.next ≤ p ∧ H.next ≤ b) ∧ Same H H' := by
  have hw1 := h1
  have hw2 := h2
  unfold Within May Span.stop at hw1 hw2
  simp only at hw1 hw2
  have hlen := ha.len
  have hr := hz.row
  have hl := hz.ll
  refine callA_fn (by kernel_rfl) fn22 rfl rfl ?_
  simp only [Tryz.f22]
  simp only [spanV]
  repeat' (first | refine boolP_dec (fun _ => ?_) (fun _ => ?_) | apply boolP_not | refine boolP_b (fun _ => ?_) (fun _ => ?_) | ((with_reducible show CallA _ _ _ _ _); (first | refine call_ko (H0 := H) koW (aread_no _ loW (ha.same koW)) ?_ | refine call_ko (H0 := H) koW (lmark0_ok _ loW (hz.ko koW) (-1)) ?_ | refine call_ko (H0 := H) koW (alen_ok _ loW (ha.same koW)) ?_ | refine call_ko (H0 := H) koW (swithin_ok _ loW fr ⟨0, ws.length⟩) ?_ | refine call_ko (H0 := H) koW (swithin_ok _ loW to ⟨0, ws.length⟩) ?_ | refine call_ko (H0 := H) koW (smeets_ok _ loW fr to) ?_); intro H2 k2 l2 n2 g2 q2; try simp (disch := omega) only [sm, sl] at l2 n2 g2 q2) | simp (config := { maxSteps := 1000000 }) (disch := omega) only [↓sh, ↓sh2, ↓reduceIte, sx, sl, sb, st, nbeq_ne, dle, relo_eq, wrap_i64, Nat.reduceBEq, Nat.reduceLT, Nat.reduceLeDiff, Nat.reduceAdd, Nat.reduceMul, Nat.reduceEqDiff, Int.reduceEq, Int.reduceLT, Int.reduceLE, Int.reduceNeg, Int.reduceToNat, Bool.false_eq_true, eq_self, sa, st2, decide_eq_true h1, decide_eq_true h2, decide_eq_false h3, *])
  all_goals try omega
  refine CallA.mono (bnew_ok _ loW to h2.1) ?_
  rintro r H3 ⟨⟨b, rfl, hb, hbn⟩, s3⟩
  have p1 : H3.objs.get H.next = some (.row [.int .i64 fr.at', .int .i64 fr.size] none true) := by rw [s3.objs H.next (by omega)]; simp (config := { maxSteps := 1000000 }) (disch := omega) only [↓sh, ↓sh2, ↓reduceIte, sx, sl, sb, st, nbeq_ne, dle, relo_eq, wrap_i64, Nat.reduceBEq, Nat.reduceLT, Nat.reduceLeDiff, Nat.reduceAdd, Nat.reduceMul, Nat.reduceEqDiff, Int.reduceEq, Int.reduceLT, Int.reduceLE, Int.reduceNeg, Int.reduceToNat, Bool.false_eq_true, eq_self, sa, *]
  have p2 : H3.objs.get (H.next + 1) = some (.row [.int .i64 to.at', .int .i64 to.size] none true) := by rw [s3.objs (H.next + 1) (by omega)]; simp (config := { maxSteps := 1000000 }) (disch := omega) only [↓sh, ↓sh2, ↓reduceIte, sx, sl, sb, st, nbeq_ne, dle, relo_eq, wrap_i64, Nat.reduceBEq, Nat.reduceLT, Nat.reduceLeDiff, Nat.reduceAdd, Nat.reduceMul, Nat.reduceEqDiff, Int.reduceEq, Int.reduceLT, Int.reduceLE, Int.reduceNeg, Int.reduceToNat, Bool.false_eq_true, eq_self, sa, *]
  have k3 : Ko H H3 := Ko.call koW s3
  have lo3 := s3.lo
  have nx3 := s3.nxt
  clear s3
  repeat' (first | refine boolP_dec (fun _ => ?_) (fun _ => ?_) | apply boolP_not | refine boolP_b (fun _ => ?_) (fun _ => ?_) | simp (config := { maxSteps := 1000000 }) (disch := omega) only [↓sh, ↓sh2, ↓reduceIte, sx, sl, sb, st, nbeq_ne, dle, relo_eq, wrap_i64, Nat.reduceBEq, Nat.reduceLT, Nat.reduceLeDiff, Nat.reduceAdd, Nat.reduceMul, Nat.reduceEqDiff, Int.reduceEq, Int.reduceLT, Int.reduceLE, Int.reduceNeg, Int.reduceToNat, Bool.false_eq_true, eq_self, sa, st2, cellsV_p, List.length_cons, List.length_nil, List.drop_succ_cons, List.drop_zero, List.cons_append, List.nil_append, *])
  refine ⟨⟨H3.next, b, rfl, ⟨by first | (simp (disch := omega) only [setRow_get, newRow_get, newRow_next, setRow_next, newRow_lo, setRow_lo, newRow_grps, setRow_grps, newRow_relo, setRow_relo, relo_objs, relo_next, relo_lo, nbeq_ne, sl]; done) | (simp (disch := omega) only [setRow_get, newRow_get, newRow_next, setRow_next, newRow_lo, setRow_lo, newRow_grps, setRow_grps, newRow_relo, setRow_relo, relo_objs, relo_next, relo_lo, nbeq_ne, sl]; rfl), by first | (simp (disch := omega) only [setRow_get, newRow_get, newRow_next, setRow_next, newRow_lo, setRow_lo, newRow_grps, setRow_grps, newRow_relo, setRow_relo, relo_objs, relo_next, relo_lo, nbeq_ne, sl]; done) | (simp (disch := omega) only [setRow_get, newRow_get, newRow_next, setRow_next, newRow_lo, setRow_lo, newRow_grps, setRow_grps, newRow_relo, setRow_relo, relo_objs, relo_next, relo_lo, nbeq_ne, sl]; omega), hb.same koW, ha.same koW, by show (0 : Int) ≤ fr.at'; omega, h4, by show top ≤ (ws.length : Int); omega, by show to.at' + to.size ≤ (ws.length : Int); omega⟩, by omega, by omega⟩, sameW⟩
end Go.AM
namespace Go.AM
attribute [local instance] fnMaps
open Go Go.Proofs
set_option maxRecDepth 100000
set_option maxHeartbeats 1000000
set_option linter.unusedSimpArgs false
theorem fn21 : E.fn.get 21 = some Tryz.f21 := by kernel_rfl
theorem lnew0_ok (H : Heap) (hlo : H.lo ≤ H.next) {a rw g : Nat} {ws : List Nat} (ha : Ar H a rw g ws) (all : Span) (hm : ¬ May all) (hr : rightB all [] [] = true) :
    CallA E (fnv 21) [ptr a 0, spanV all, .slice none 0 0, .slice none 0 0] H fun r H' => (∃ (l : Nat) (ta : Option Addr) (tn : Nat) (fv : Value), r = .tuple #[ptr l 0, .int .i64 0] ∧ H'.objs.get l = some (.row [.bool true, ptr a 0, .slice ta 0 tn, fv, .int .i64 0] none true) ∧ l < H'.next ∧ H.next ≤ l) ∧ Same H H' := by
  have hs : ∀ X, SLr RSpan 2 X (.slice none 0 0) [] := fun X => SLr.nil
  refine callA_fn (by kernel_rfl) fn21 rfl rfl ?_
  simp only [Tryz.f21]
  simp only [spanV]
  repeat' (first | refine boolP_dec (fun _ => ?_) (fun _ => ?_) | apply boolP_not | refine boolP_b (fun _ => ?_) (fun _ => ?_) | refine wps_draw (id := 4) [Fx, Fx, Fx, Fx, Fx, Fx, Tx, Fx, Fx, Fx, Fx, Fx, Tx, Fx, Fx, Fx, Fx, Fx, Fx, Fx] (by kernel_rfl) ?_ | refine wps_draw (id := 12) [Fx, Fx, Fx, Fx, Tx, Fx, Fx, Fx, Fx] (by kernel_rfl) ?_ | ((with_reducible show CallA _ _ _ _ _); (first | refine call_ko (H0 := H) koW (aread_no _ loW (ha.same koW)) ?_ | refine call_ko (H0 := H) koW (smay_ok _ loW all) ?_ | refine call_ko (H0 := H) koW (lright_ok _ loW all _ _ [] [] (hs _) (hs _) (by simp)) ?_); intro H2 k2 l2 n2 g2 q2; try simp (disch := omega) only [sm, sl] at l2 n2 g2 q2) | ((with_reducible show Qs _ _ _ _ _); first | refine hQe _ _ _ _ ?_ | refine hQr _ _ _ ?_) | simp (config := { maxSteps := 1000000 }) (disch := omega) only [↓sh, ↓sh2, ↓reduceIte, sx, sl, sb, st, nbeq_ne, dle, relo_eq, wrap_i64, Nat.reduceBEq, Nat.reduceLT, Nat.reduceLeDiff, Nat.reduceAdd, Nat.reduceMul, Nat.reduceEqDiff, Int.reduceEq, Int.reduceLT, Int.reduceLE, Int.reduceNeg, Int.reduceToNat, Bool.false_eq_true, eq_self, sa, st2, decide_eq_false hm, *])
  refine wps_named2 (fun T1 H1 eT eH => ?_)
  have k1 : Ko H H1 := by rw [eH]; exact koW
  have n1 := congrArg Heap.next eH; have l1 := congrArg Heap.lo eH; have g1 := fun r => congrArg (fun h : Heap => h.objs.get r) eH
  try simp (disch := omega) only [sm, sl] at n1 l1 g1
  clear eH
  have u1_0 := congrArg (fun T : Tr Value => T.get 0) eT
  have u1_2 := congrArg (fun T : Tr Value => T.get 2) eT
  have u1_3 := congrArg (fun T : Tr Value => T.get 3) eT
  have u1_51 := congrArg (fun T : Tr Value => T.get 51) eT
  have u1_52 := congrArg (fun T : Tr Value => T.get 52) eT
  have u1_53 := congrArg (fun T : Tr Value => T.get 53) eT
  simp only [get_set, of_nil, of_1, of_2, of_3, of_4, of_5, Nat.reduceEqDiff, if_true, if_false, reduceIte] at u1_0 u1_2 u1_3 u1_51 u1_52 u1_53
  clear eT
  refine wp_loopN (by kernel_rfl) (fun nn T X => nn = 0 ∧ (T.get 53 = some (.int .i64 0)) ∧ (T.get 0 = T1.get 0 ∧ T.get 2 = T1.get 2 ∧ T.get 3 = T1.get 3 ∧ T.get 51 = T1.get 51 ∧ T.get 52 = T1.get 52) ∧ Ko H1 X ∧ X.lo = H1.lo ∧ (True)) ?_ ?_
  · refine ⟨_, rfl, ?_, ?_, Ko.refl _, rfl, trivial⟩ <;> exact nextW
  rintro nn T1' X1 ⟨rfl, m1, w1, kx1, lx1, _⟩ Qs hQ hQr hQe
  have kX1 := k1.trans kx1; have nx1 := kx1.nxt; have gx1 := kx1.objs
  repeat' (first | refine boolP_dec (fun _ => ?_) (fun _ => ?_) | apply boolP_not | refine boolP_b (fun _ => ?_) (fun _ => ?_) | refine wps_draw (id := 4) [Fx, Fx, Fx, Fx, Fx, Fx, Tx, Fx, Fx, Fx, Fx, Fx, Tx, Fx, Fx, Fx, Fx, Fx, Fx, Fx] (by kernel_rfl) ?_ | refine wps_draw (id := 12) [Fx, Fx, Fx, Fx, Tx, Fx, Fx, Fx, Fx] (by kernel_rfl) ?_ | ((with_reducible show Qs _ _ _ _ _); first | refine hQe _ _ _ _ ?_ | refine hQr _ _ _ ?_) | simp (config := { maxSteps := 1000000 }) (disch := omega) only [↓sh, ↓sh2, ↓reduceIte, sx, sl, sb, st, nbeq_ne, dle, relo_eq, wrap_i64, Nat.reduceBEq, Nat.reduceLT, Nat.reduceLeDiff, Nat.reduceAdd, Nat.reduceMul, Nat.reduceEqDiff, Int.reduceEq, Int.reduceLT, Int.reduceLE, Int.reduceNeg, Int.reduceToNat, Bool.false_eq_true, eq_self, sa, st2, Int.natCast_zero, *])
  refine CallA.mono (spans_clone _ loW _ [] (hs _) (by simp)) ?_
  rintro r1 H3 ⟨⟨h3, -⟩, s3⟩
  have k3 : Ko X1 H3 := Ko.call koW s3
  have lo3 := s3.lo
  have nx3 := s3.nxt
  clear s3
  obtain ⟨⟨ta, tn, rfl, -⟩, -⟩ := h3
  repeat' (first | refine boolP_dec (fun _ => ?_) (fun _ => ?_) | apply boolP_not | refine boolP_b (fun _ => ?_) (fun _ => ?_) | refine wps_draw (id := 4) [Fx, Fx, Fx, Fx, Fx, Fx, Tx, Fx, Fx, Fx, Fx, Fx, Tx, Fx, Fx, Fx, Fx, Fx, Fx, Fx] (by kernel_rfl) ?_ | refine wps_draw (id := 12) [Fx, Fx, Fx, Fx, Tx, Fx, Fx, Fx, Fx] (by kernel_rfl) ?_ | ((with_reducible show Qs _ _ _ _ _); first | refine hQe _ _ _ _ ?_ | refine hQr _ _ _ ?_) | simp (config := { maxSteps := 1000000 }) (disch := omega) only [↓sh, ↓sh2, ↓reduceIte, sx, sl, sb, st, nbeq_ne, dle, relo_eq, wrap_i64, Nat.reduceBEq, Nat.reduceLT, Nat.reduceLeDiff, Nat.reduceAdd, Nat.reduceMul, Nat.reduceEqDiff, Int.reduceEq, Int.reduceLT, Int.reduceLE, Int.reduceNeg, Int.reduceToNat, Bool.false_eq_true, eq_self, sa, st2, List.length_nil, *])
  refine CallA.mono (spans_clone _ loW _ [] (hs _) (by simp)) ?_
  rintro r2 H4 ⟨⟨h4, -⟩, s4⟩
  have k4 : Ko H3 H4 := Ko.call koW s4
  have lo4 := s4.lo
  have nx4 := s4.nxt
  clear s4
  obtain ⟨⟨fa, fn', rfl, -⟩, -⟩ := h4
  repeat' (first | refine boolP_dec (fun _ => ?_) (fun _ => ?_) | apply boolP_not | refine boolP_b (fun _ => ?_) (fun _ => ?_) | refine wps_draw (id := 4) [Fx, Fx, Fx, Fx, Fx, Fx, Tx, Fx, Fx, Fx, Fx, Fx, Tx, Fx, Fx, Fx, Fx, Fx, Fx, Fx] (by kernel_rfl) ?_ | refine wps_draw (id := 12) [Fx, Fx, Fx, Fx, Tx, Fx, Fx, Fx, Fx] (by kernel_rfl) ?_ | ((with_reducible show Qs _ _ _ _ _); first | refine hQe _ _ _ _ ?_ | refine hQr _ _ _ ?_) | simp (config := { maxSteps := 1000000 }) (disch := omega) only [↓sh, ↓sh2, ↓reduceIte, sx, sl, sb, st, nbeq_ne, dle, relo_eq, wrap_i64, Nat.reduceBEq, Nat.reduceLT, Nat.reduceLeDiff, Nat.reduceAdd, Nat.reduceMul, Nat.reduceEqDiff, Int.reduceEq, Int.reduceLT, Int.reduceLE, Int.reduceNeg, Int.reduceToNat, Bool.false_eq_true, eq_self, sa, st2, List.length_nil, cellsV_p, List.length_cons, List.drop_succ_cons, List.drop_zero, List.cons_append, List.nil_append, *])
  exact ⟨⟨H4.next, ta, tn, _, rfl, by rw [nbeq_eq rfl]; rfl, by omega, by have := kX1.nxt; omega⟩, sameW⟩
end Go.AM
namespace Go.AM
attribute [local instance] fnMaps
open Go Go.Proofs
set_option maxRecDepth 100000
set_option maxHeartbeats 1000000
set_option linter.unusedSimpArgs false
theorem mk1 (H : Heap) : makeSliceV E H 27 (.int .i64 1) (.int .i64 1) = some (.slice (some ⟨H.next, 0, none⟩) 1 1, H.newRow [.bool false, .int .i64 0, .int .u64 0]) := by kernel_rfl
theorem fn16 : E.fn.get 16 = some Tryz.f16 := by kernel_rfl
theorem rnew1_ok (H : Heap) (hlo : H.lo ≤ H.next) : CallA E (fnv 16) [.int .i64 1] H fun r H' => (∃ x, r = .tuple #[.slice (some ⟨x, 0, none⟩) 1 1, .int .i64 0] ∧ H'.objs.get x = some (.row [.bool false, .int .i64 0, .int .u64 0] none true) ∧ x < H'.next ∧ H.next ≤ x) ∧ Same H H' := by
  refine callA_fn (by kernel_rfl) fn16 rfl rfl ?_
  simp only [Tryz.f16]
  repeat' (first | refine boolP_dec (fun _ => ?_) (fun _ => ?_) | apply boolP_not | refine boolP_b (fun _ => ?_) (fun _ => ?_) | simp (config := { maxSteps := 1000000 }) (disch := omega) only [↓sh, ↓sh2, ↓reduceIte, sx, sl, sb, st, nbeq_ne, dle, relo_eq, wrap_i64, Nat.reduceBEq, Nat.reduceLT, Nat.reduceLeDiff, Nat.reduceAdd, Nat.reduceMul, Nat.reduceEqDiff, Int.reduceEq, Int.reduceLT, Int.reduceLE, Int.reduceNeg, Int.reduceToNat, Bool.false_eq_true, eq_self, sa, st2, mk1, *])
  exact ⟨⟨H.next, rfl, by rw [nbeq_eq rfl]; rfl, by omega, Nat.le_refl _⟩, sameW⟩
end Go.AM
namespace Go.AM
attribute [local instance] fnMaps
open Go Go.Proofs
set_option maxRecDepth 100000
set_option maxHeartbeats 1000000
set_option linter.unusedSimpArgs false
theorem repeat_words : ∀ n, repeatCells [Value.int .u64 0] n = (List.replicate n 0).map wV
  | 0 => rfl
  | n + 1 => by rw [repeat_succ, repeat_words n, List.replicate_succ]; rfl
theorem mk0 (H : Heap) (l c : Nat) : makeSliceV E H 25 (.int .i64 (.ofNat l)) (.int .i64 (.ofNat c)) = bif Nat.ble l c && Nat.ble c 1000000000 && Nat.ble (c * 8) 10000000000 && !Nat.beq 1 0 && Nat.beq 1 1 then some (.slice (some ⟨H.next, 0, none⟩) l c, H.newRow (repeatCells [Value.int .u64 0] c)) else none := by kernel_rfl
theorem mkw_ok (H : Heap) (n : Nat) (h : n ≤ 1000000) : makeSliceV E H 25 (.int .i64 (n : Int)) (.int .i64 (n : Int)) = some (.slice (some ⟨H.next, 0, none⟩) n n, H.newRow ((List.replicate n 0).map wV)) := by
  have := mk0 H n n
  rw [Nat.ble_eq_true_of_le (Nat.le_refl n), Nat.ble_eq_true_of_le (show n ≤ 1000000000 by omega), Nat.ble_eq_true_of_le (show n * 8 ≤ 10000000000 by omega), repeat_words] at this
  exact this
end Go.AM
namespace Go.AM
attribute [local instance] fnMaps
open Go Go.Proofs
set_option maxRecDepth 100000
set_option maxHeartbeats 1000000
set_option linter.unusedSimpArgs false
theorem fn5 : E.fn.get 5 = some Tryz.f5 := by kernel_rfl
theorem snew_ok (H : Heap) (hlo : H.lo ≤ H.next) (c : Cfg) (n : Nat) (hc : c.Ok) (hn : c.words = n) (hn1 : n ≤ 1000000) (hm : ¬ May c.big) (hs : c.slots = 1) : CallA E (fnv 5) [cfgV c] H fun r H' => (∃ w x, r = .tuple #[.agg #[.int .i64 c.semi, .int .i64 c.large, .int .i64 c.slots, .int .i64 c.limit, .bool false, .slice (some ⟨w, 0, none⟩) n n, .int .i64 0, .slice none 0 0, .slice none 0 0, .slice (some ⟨x, 0, none⟩) 1 1], .int .i64 0] ∧
    H'.objs.get w = some (.row ((List.replicate n 0).map wV) none true) ∧ H'.objs.get x = some (.row [.bool false, .int .i64 0, .int .u64 0] none true) ∧ w ≠ x ∧ w < H'.next ∧ x < H'.next ∧ H.next ≤ w ∧ H.next ≤ x) ∧ Same H H' := by
  obtain ⟨a, b, sl', d⟩ := c
  simp only at hs
  subst hs
  refine callA_fn (by kernel_rfl) fn5 rfl rfl ?_
  simp only [Tryz.f5]
  simp only [cfgV]
  repeat' (first | refine boolP_dec (fun _ => ?_) (fun _ => ?_) | apply boolP_not | refine boolP_b (fun _ => ?_) (fun _ => ?_) | refine wps_draw (id := 3) [Fx, Fx, Tx, Fx, Fx, Fx, Fx] (by kernel_rfl) ?_ | ((with_reducible show CallA _ _ _ _ _); (first | refine call_ko (H0 := H) koW (lcheck_ok _ loW ⟨a, b, 1, d⟩) ?_ | refine call_ko (H0 := H) koW (lwords_ok _ loW ⟨a, b, 1, d⟩) ?_); intro H2 k2 l2 n2 g2 q2; try simp (disch := omega) only [sm, sl] at l2 n2 g2 q2) | simp (config := { maxSteps := 1000000 }) (disch := omega) only [↓sh, ↓sh2, ↓reduceIte, sx, sl, sb, st, nbeq_ne, dle, relo_eq, wrap_i64, Nat.reduceBEq, Nat.reduceLT, Nat.reduceLeDiff, Nat.reduceAdd, Nat.reduceMul, Nat.reduceEqDiff, Int.reduceEq, Int.reduceLT, Int.reduceLE, Int.reduceNeg, Int.reduceToNat, Bool.false_eq_true, eq_self, sa, st2, decide_eq_true hc, decide_eq_false hm, mkw_ok, cfgV, spanV, *])
  refine CallA.mono (llarge_ok _ (by simp (disch := omega) only [setRow_get, newRow_get, newRow_next, setRow_next, newRow_lo, setRow_lo, newRow_grps, setRow_grps, newRow_relo, setRow_relo, relo_objs, relo_next, relo_lo, nbeq_ne, sl]; omega) ⟨a, b, 1, d⟩) ?_
  rintro r Y ⟨rfl, sY⟩
  have kY : Ko H Y := Ko.call koW sY
  have pw := sY.objs H2.next (by simp (disch := omega) only [setRow_get, newRow_get, newRow_next, setRow_next, newRow_lo, setRow_lo, newRow_grps, setRow_grps, newRow_relo, setRow_relo, relo_objs, relo_next, relo_lo, nbeq_ne, sl]; omega)
  have p4 := sY.objs (H2.next + 1) (by simp (disch := omega) only [setRow_get, newRow_get, newRow_next, setRow_next, newRow_lo, setRow_lo, newRow_grps, setRow_grps, newRow_relo, setRow_relo, relo_objs, relo_next, relo_lo, nbeq_ne, sl]; omega)
  have p1 : Y.objs.get H.next = some (.row [.int .i64 a, .int .i64 b, .int .i64 1, .int .i64 d] none true) := by rw [sY.objs H.next (by simp (disch := omega) only [setRow_get, newRow_get, newRow_next, setRow_next, newRow_lo, setRow_lo, newRow_grps, setRow_grps, newRow_relo, setRow_relo, relo_objs, relo_next, relo_lo, nbeq_ne, sl]; omega)]; simp (config := { maxSteps := 1000000 }) (disch := omega) only [↓sh, ↓sh2, ↓reduceIte, sx, sl, sb, st, nbeq_ne, dle, relo_eq, wrap_i64, Nat.reduceBEq, Nat.reduceLT, Nat.reduceLeDiff, Nat.reduceAdd, Nat.reduceMul, Nat.reduceEqDiff, Int.reduceEq, Int.reduceLT, Int.reduceLE, Int.reduceNeg, Int.reduceToNat, Bool.false_eq_true, eq_self, sa, *]
  have p2 : Y.objs.get (H.next + 1) = some (.row [.int .i64 0, .int .i64 0, .int .i64 0, .int .i64 0, .bool false, .slice none 0 0, .int .i64 0, .slice none 0 0, .slice none 0 0, .slice none 0 0] none true) := by rw [sY.objs (H.next + 1) (by simp (disch := omega) only [setRow_get, newRow_get, newRow_next, setRow_next, newRow_lo, setRow_lo, newRow_grps, setRow_grps, newRow_relo, setRow_relo, relo_objs, relo_next, relo_lo, nbeq_ne, sl]; omega)]; simp (config := { maxSteps := 1000000 }) (disch := omega) only [↓sh, ↓sh2, ↓reduceIte, sx, sl, sb, st, nbeq_ne, dle, relo_eq, wrap_i64, Nat.reduceBEq, Nat.reduceLT, Nat.reduceLeDiff, Nat.reduceAdd, Nat.reduceMul, Nat.reduceEqDiff, Int.reduceEq, Int.reduceLT, Int.reduceLE, Int.reduceNeg, Int.reduceToNat, Bool.false_eq_true, eq_self, sa, *]
  have loY := sY.lo
  have nxY := sY.nxt
  simp (disch := omega) only [sm, sl] at pw p4 loY nxY
  generalize hw : H2.next = w at *
  clear sY
  simp only [spanV]
  repeat' (first | refine boolP_dec (fun _ => ?_) (fun _ => ?_) | apply boolP_not | refine boolP_b (fun _ => ?_) (fun _ => ?_) | refine wps_draw (id := 3) [Fx, Fx, Tx, Fx, Fx, Fx, Fx] (by kernel_rfl) ?_ | ((with_reducible show CallA _ _ _ _ _); refine call_ko (H0 := Y) koW (smay_ok _ loW (Cfg.big ⟨a, b, 1, d⟩)) ?_; intro H2 k2 l2 n2 g2 q2; try simp (disch := omega) only [sm, sl] at l2 n2 g2 q2) | simp (config := { maxSteps := 1000000 }) (disch := omega) only [↓sh, ↓sh2, ↓reduceIte, sx, sl, sb, st, nbeq_ne, dle, relo_eq, wrap_i64, Nat.reduceBEq, Nat.reduceLT, Nat.reduceLeDiff, Nat.reduceAdd, Nat.reduceMul, Nat.reduceEqDiff, Int.reduceEq, Int.reduceLT, Int.reduceLE, Int.reduceNeg, Int.reduceToNat, Bool.false_eq_true, eq_self, sa, st2, decide_eq_false hm, spanV, *])
  refine CallA.mono (rnew1_ok _ loW) ?_
  rintro r Z ⟨⟨x, rfl, px, hx1, hx2⟩, sZ⟩
  have qw := sZ.keeps (by omega) (k2.keeps (by omega) pw)
  have q4 := sZ.keeps (by omega) (k2.keeps (by omega) p4)
  have q1 := sZ.keeps (by omega) (k2.keeps (by omega) p1)
  have q2' := sZ.keeps (by omega) (k2.keeps (by omega) p2)
  have kZ : Ko Y Z := Ko.call koW sZ
  have loZ := sZ.lo
  have nxZ := sZ.nxt
  clear sZ
  repeat' (first | refine boolP_dec (fun _ => ?_) (fun _ => ?_) | apply boolP_not | refine boolP_b (fun _ => ?_) (fun _ => ?_) | refine wps_draw (id := 3) [Fx, Fx, Tx, Fx, Fx, Fx, Fx] (by kernel_rfl) ?_ | simp (config := { maxSteps := 1000000 }) (disch := omega) only [↓sh, ↓sh2, ↓reduceIte, sx, sl, sb, st, nbeq_ne, dle, relo_eq, wrap_i64, Nat.reduceBEq, Nat.reduceLT, Nat.reduceLeDiff, Nat.reduceAdd, Nat.reduceMul, Nat.reduceEqDiff, Int.reduceEq, Int.reduceLT, Int.reduceLE, Int.reduceNeg, Int.reduceToNat, Bool.false_eq_true, eq_self, sa, st2, *])
  refine ⟨⟨w, x, rfl, ?_, ?_, by omega, by omega, by omega, by omega, by omega⟩, sameW⟩
  · rw [nbeq_ne (show w ≠ H.next + 1 by omega), nbeq_ne (show w ≠ w + 1 by omega)]; exact qw
  · rw [nbeq_ne (show x ≠ H.next + 1 by omega), nbeq_ne (show x ≠ w + 1 by omega)]; exact px
end Go.AM
