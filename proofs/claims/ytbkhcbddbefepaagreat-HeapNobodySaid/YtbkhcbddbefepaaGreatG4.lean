/-
  Walks over letters of the functions that the law reaches.
-/
import Derived.Test.YtbkhcbddbefepaaGreatG3
namespace Go.AM
attribute [local instance] fnMaps
open Go Go.Proofs
set_option maxRecDepth 100000
set_option maxHeartbeats 1000000
set_option linter.unusedSimpArgs false
theorem check_words {s : St} (h : checkN s = 0) : s.words ≠ [] ∧ s.words.length ≤ 98304 := by
  have h0 : ruleB s 0 = true := by
    cases hb : ruleB s 0 with
    | true => rfl
    | false => have := checkFrom_stop s (i := 0) (by omega) (fun k hk => absurd hk (by omega)) hb; omega
  have h1 : ruleB s 1 = true := by
    cases hb : ruleB s 1 with
    | true => rfl
    | false => have := checkFrom_stop s (i := 1) (by omega) (fun k hk => by rw [show k = 0 by omega]; exact h0) hb; omega
  have hc : s.cfg.Ok := of_decide_eq_true h0
  have hw : (s.words.length : Int) = s.cfg.words := of_decide_eq_true h1
  unfold Cfg.words at hw
  rw [if_pos hc] at hw
  unfold Cfg.Ok at hc
  refine ⟨fun e => ?_, by omega⟩
  rw [e] at hw
  simp at hw
  omega
def OfR (s : St) (r : Value) : Prop := if checkN s = 0 then ∃ hp, r = .tuple #[ptr hp 0, .int .i64 0] else r = .tuple #[.pointer none, .int .i64 4]
theorem fn6 : E.fn.get 6 = some Tryz.f6 := by kernel_rfl
theorem of_ok (H : Heap) (hlo : H.lo ≤ H.next) {s : St} {w t f zl : Value} (hS : StS H s w t f zl) (hok : StOk s) (l3 : s.free.length ≤ 100000) (l4 : s.slots.length ≤ 100000) : CallA E (fnv 6) [stV s w t f zl] H fun r H' => OfR s r ∧ Same H H' := by
  have hS0 := hS
  obtain ⟨⟨wa, wc, rfl, _⟩, _⟩ := hS.w
  obtain ⟨⟨ta, tc, rfl, _⟩, _⟩ := hS.t
  obtain ⟨⟨fa, fc, rfl, _⟩, _⟩ := hS.f
  obtain ⟨⟨sa', sc, rfl, _⟩, _⟩ := hS.sl
  refine callA_fn (by kernel_rfl) fn6 rfl rfl ?_
  simp only [Tryz.f6]
  simp only [stV]
  by_cases hc : checkN s = 0
  · obtain ⟨hw, hwl⟩ := check_words hc
    repeat' (first | refine boolP_dec (fun _ => ?_) (fun _ => ?_) | apply boolP_not | refine boolP_b (fun _ => ?_) (fun _ => ?_) | ((with_reducible show CallA _ _ _ _ _); refine call_ko (H0 := H) koW (check_ok _ loW (hS0.ko koW) hok) ?_; intro H2 k2 l2 n2 g2 q2; try simp (disch := omega) only [sm, sl] at l2 n2 g2 q2) | ((with_reducible show Qs _ _ _ _ _); first | refine hQe _ _ _ _ ?_ | refine hQr _ _ _ ?_) | simp (config := { maxSteps := 1000000 }) (disch := omega) only [↓sh, ↓sh2, ↓reduceIte, sx, sl, sb, st, nbeq_ne, dle, relo_eq, wrap_i64, Nat.reduceBEq, Nat.reduceLT, Nat.reduceLeDiff, Nat.reduceAdd, Nat.reduceMul, Nat.reduceEqDiff, Int.reduceEq, Int.reduceLT, Int.reduceLE, Int.reduceNeg, Int.reduceToNat, Bool.false_eq_true, eq_self, sa, *])
    refine (copy_ok _ loW (hS0.ko koW) hw hwl hok.table l3 l4).mono ?_
    rintro r H3 ⟨⟨w', t', f', zl', rfl, hS'⟩, s3⟩
    have k3 : Ko H H3 := Ko.call koW s3
    have l3' := s3.lo
    clear s3
    obtain ⟨⟨_, _, rfl, _⟩, _⟩ := hS'.w
    obtain ⟨⟨_, _, rfl, _⟩, _⟩ := hS'.t
    obtain ⟨⟨_, _, rfl, _⟩, _⟩ := hS'.f
    obtain ⟨⟨_, _, rfl, _⟩, _⟩ := hS'.sl
    simp only [stV]
    repeat' (first | refine boolP_dec (fun _ => ?_) (fun _ => ?_) | apply boolP_not | refine boolP_b (fun _ => ?_) (fun _ => ?_) | ((with_reducible show Qs _ _ _ _ _); first | refine hQe _ _ _ _ ?_ | refine hQr _ _ _ ?_) | simp (config := { maxSteps := 1000000 }) (disch := omega) only [↓sh, ↓sh2, ↓reduceIte, sx, sl, sb, st, nbeq_ne, dle, relo_eq, wrap_i64, Nat.reduceBEq, Nat.reduceLT, Nat.reduceLeDiff, Nat.reduceAdd, Nat.reduceMul, Nat.reduceEqDiff, Int.reduceEq, Int.reduceLT, Int.reduceLE, Int.reduceNeg, Int.reduceToNat, Bool.false_eq_true, eq_self, sa, *])
    exact ⟨by unfold OfR; rw [if_pos hc]; exact ⟨_, rfl⟩, sameW⟩
  · have e : OfR s (.tuple #[.pointer none, .int .i64 4]) := by unfold OfR; rw [if_neg hc]
    repeat' (first | refine boolP_dec (fun _ => ?_) (fun _ => ?_) | apply boolP_not | refine boolP_b (fun _ => ?_) (fun _ => ?_) | ((with_reducible show CallA _ _ _ _ _); refine call_ko (H0 := H) koW (check_ok _ loW (hS0.ko koW) hok) ?_; intro H2 k2 l2 n2 g2 q2; try simp (disch := omega) only [sm, sl] at l2 n2 g2 q2) | ((with_reducible show Qs _ _ _ _ _); first | refine hQe _ _ _ _ ?_ | refine hQr _ _ _ ?_) | simp (config := { maxSteps := 1000000 }) (disch := omega) only [↓sh, ↓sh2, ↓reduceIte, sx, sl, sb, st, nbeq_ne, dle, relo_eq, wrap_i64, Nat.reduceBEq, Nat.reduceLT, Nat.reduceLeDiff, Nat.reduceAdd, Nat.reduceMul, Nat.reduceEqDiff, Int.reduceEq, Int.reduceLT, Int.reduceLE, Int.reduceNeg, Int.reduceToNat, Bool.false_eq_true, eq_self, sa, *])
    exact sameW
theorem awk (H : Heap) : CallA E (fnv 5) [] H fun v H' => v = .bool true ∧ Same H H' := (awake_ok H).mono fun v H' ⟨h1, h2⟩ => ⟨h1, by rw [h2]; exact Same.refl _⟩
theorem fn3 : E.fn.get 3 = some Tryz.f3 := by kernel_rfl
theorem nobody_law (H : Heap) (hlo : H.lo ≤ H.next) (o : Opn) {s : St} {w t f zl : Value} (hS : StS H s w t f zl) (h1 : ∀ x ∈ s.words, x < 2 ^ 64) (h2 : ∀ x ∈ s.slots, x.word < 2 ^ 64) : CallA E (fnv 3) [opV o, stV s w t f zl] H fun r _ => r = .bool true := by
  have hS0 := hS
  obtain ⟨⟨wa, wc, rfl, _⟩, _⟩ := hS.w
  obtain ⟨⟨ta, tc, rfl, _⟩, _⟩ := hS.t
  obtain ⟨⟨fa, fc, rfl, _⟩, _⟩ := hS.f
  obtain ⟨⟨sa', sc, rfl, _⟩, _⟩ := hS.sl
  refine callA_fn (by kernel_rfl) fn3 rfl rfl ?_
  simp only [Tryz.f3]
  simp only [stV, opV]
  by_cases hb : largeS s
  · repeat' (first | refine boolP_dec (fun _ => ?_) (fun _ => ?_) | apply boolP_not | refine boolP_b (fun _ => ?_) (fun _ => ?_) | ((with_reducible show CallA _ _ _ _ _); (first | refine call_ko (H0 := H) koW (large_ok _ loW (hS0.ko koW)) ?_ | refine call_ko (H0 := H) koW (awk _) ?_); intro H2 k2 l2 n2 g2 q2; try simp (disch := omega) only [sm, sl] at l2 n2 g2 q2) | ((with_reducible show Qs _ _ _ _ _); first | refine hQe _ _ _ _ ?_ | refine hQr _ _ _ ?_) | simp (config := { maxSteps := 1000000 }) (disch := omega) only [↓sh, ↓sh2, ↓reduceIte, sx, sl, sb, st, nbeq_ne, dle, relo_eq, wrap_i64, Nat.reduceBEq, Nat.reduceLT, Nat.reduceLeDiff, Nat.reduceAdd, Nat.reduceMul, Nat.reduceEqDiff, Int.reduceEq, Int.reduceLT, Int.reduceLE, Int.reduceNeg, Int.reduceToNat, Bool.false_eq_true, eq_self, sa, *])
  have hb' := hb
  unfold largeS at hb'
  have hok : StOk s := ⟨h1, h2, by omega⟩
  repeat' (first | refine boolP_dec (fun _ => ?_) (fun _ => ?_) | apply boolP_not | refine boolP_b (fun _ => ?_) (fun _ => ?_) | ((with_reducible show CallA _ _ _ _ _); refine call_ko (H0 := H) koW (large_ok _ loW (hS0.ko koW)) ?_; intro H2 k2 l2 n2 g2 q2; try simp (disch := omega) only [sm, sl] at l2 n2 g2 q2) | ((with_reducible show Qs _ _ _ _ _); first | refine hQe _ _ _ _ ?_ | refine hQr _ _ _ ?_) | simp (config := { maxSteps := 1000000 }) (disch := omega) only [↓sh, ↓sh2, ↓reduceIte, sx, sl, sb, st, nbeq_ne, dle, relo_eq, wrap_i64, Nat.reduceBEq, Nat.reduceLT, Nat.reduceLeDiff, Nat.reduceAdd, Nat.reduceMul, Nat.reduceEqDiff, Int.reduceEq, Int.reduceLT, Int.reduceLE, Int.reduceNeg, Int.reduceToNat, Bool.false_eq_true, eq_self, sa, *])
  refine (of_ok _ loW (hS0.ko koW) hok loW loW).mono ?_
  rintro r H3 ⟨hr, s3⟩
  have k3 : Ko H H3 := Ko.call koW s3
  have p1 := (s3.objs H.next loW).trans (g2 H.next loW); have p2 := (s3.objs (H.next + 1) loW).trans (g2 (H.next + 1) loW)
  have l3 := s3.lo; have n3 := s3.nxt
  simp (disch := omega) only [sm, sl] at p1 p2
  clear s3
  unfold OfR at hr
  by_cases hc : checkN s = 0
  · rw [if_pos hc] at hr
    obtain ⟨hp, rfl⟩ := hr
    repeat' (first | refine boolP_dec (fun _ => ?_) (fun _ => ?_) | apply boolP_not | refine boolP_b (fun _ => ?_) (fun _ => ?_) | ((with_reducible show CallA _ _ _ _ _); refine call_ko (H0 := H) koW (check_ok _ loW (hS0.ko koW) hok) ?_; intro H2 k2 l2 n2 g2 q2; try simp (disch := omega) only [sm, sl] at l2 n2 g2 q2) | ((with_reducible show Qs _ _ _ _ _); first | refine hQe _ _ _ _ ?_ | refine hQr _ _ _ ?_) | simp (config := { maxSteps := 1000000 }) (disch := omega) only [↓sh, ↓sh2, ↓reduceIte, sx, sl, sb, st, nbeq_ne, dle, relo_eq, wrap_i64, Nat.reduceBEq, Nat.reduceLT, Nat.reduceLeDiff, Nat.reduceAdd, Nat.reduceMul, Nat.reduceEqDiff, Int.reduceEq, Int.reduceLT, Int.reduceLE, Int.reduceNeg, Int.reduceToNat, Bool.false_eq_true, eq_self, sa, *])
    have p3 := (g2 H.next loW).trans p1; have p4 := (g2 (H.next + 1) loW).trans p2
    refine wps_named2 (fun T1 H1 eT eH => ?_)
    have k1 : Ko H H1 := by rw [eH]; exact koW
    have n1 := congrArg Heap.next eH; have l1 := congrArg Heap.lo eH; have g1 := fun r => congrArg (fun h : Heap => h.objs.get r) eH
    try simp (disch := omega) only [sm, sl] at n1 l1 g1
    clear eH
    have u1_2 := congrArg (fun T : Tr Value => T.get 2) eT
    have u1_7 := congrArg (fun T : Tr Value => T.get 7) eT
    simp only [get_set, of_nil, of_1, of_2, of_3, of_4, of_5, Nat.reduceEqDiff, if_true, if_false, reduceIte] at u1_2 u1_7
    clear eT
    refine wp_loopN (by kernel_rfl) (fun nn T X => ∃ i : Nat, nn = 2 - i ∧ (T.get 7 = some (.int .i64 i)) ∧ (T.get 2 = T1.get 2) ∧ Ko H1 X ∧ X.lo = H1.lo ∧ (i ≤ 2)) ?_ ?_
    · refine ⟨_, 0, rfl, ?_, ?_, Ko.refl _, rfl, Nat.zero_le _⟩ <;> exact nextW
    rintro nn T1' X1 ⟨i, rfl, m1, w1, kx1, lx1, hi⟩ Qs hQ hQr hQe
    have kX1 := k1.trans kx1; have nx1 := kx1.nxt; have gx1 := kx1.objs
    have e0 := ((gx1 H.next loW).trans (g1 _)).trans p3; have e1 := ((gx1 (H.next + 1) loW).trans (g1 _)).trans p4
    rcases (show i = 0 ∨ i = 1 ∨ i = 2 by omega) with rfl | rfl | rfl
    · repeat' (first | refine boolP_dec (fun _ => ?_) (fun _ => ?_) | apply boolP_not | refine boolP_b (fun _ => ?_) (fun _ => ?_) | ((with_reducible show Qs _ _ _ _ _); first | refine hQe _ _ _ _ ?_ | refine hQr _ _ _ ?_) | simp (config := { maxSteps := 1000000 }) (disch := omega) only [↓sh, ↓sh2, ↓reduceIte, sx, sl, sb, st, nbeq_ne, dle, relo_eq, wrap_i64, Nat.reduceBEq, Nat.reduceLT, Nat.reduceLeDiff, Nat.reduceAdd, Nat.reduceMul, Nat.reduceEqDiff, Int.reduceEq, Int.reduceLT, Int.reduceLE, Int.reduceNeg, Int.reduceToNat, Bool.false_eq_true, eq_self, sa, Int.natCast_zero, *])
      refine (do_d _ loW (.inl rfl) o).mono ?_
      rintro r H5 ⟨rfl, s5⟩
      have k5 : Ko H1 H5 := Ko.call koW s5
      have d5 : Dead H5 _ := Dead.ko (.inl rfl) (Ko.call koW s5)
      have q0 := (s5.objs H.next loW); have q1 := (s5.objs (H.next + 1) loW)
      have l5 := s5.lo; have n5 := s5.nxt
      try simp (disch := omega) only [sm, sl] at q0 q1 l5 n5
      rw [e0] at q0; rw [e1] at q1
      clear s5
      simp only [ansV, wrkV]
      by_cases c1 : 1 ≤ o.d
      · by_cases c2 : o.d ≤ 10
        · have e : doE o.d = 10 := by unfold doE; rw [if_pos ⟨c1, c2⟩]
          rw [e]
          repeat' (first | refine boolP_dec (fun _ => ?_) (fun _ => ?_) | apply boolP_not | refine boolP_b (fun _ => ?_) (fun _ => ?_) | ((with_reducible show CallA _ _ _ _ _); (first | refine call_ko (H0 := H5) koW (hcount_d _ loW (d5.ko koW)) ?_ | refine call_ko (H0 := H5) koW (hstate_d _ loW (d5.ko koW)) ?_ | refine call_ko (H0 := H5) koW (r15_nil _ loW) ?_); intro H2 k2 l2 n2 g2 q2; try simp (disch := omega) only [sm, sl] at l2 n2 g2 q2) | ((with_reducible show Qs _ _ _ _ _); first | refine hQe _ _ _ _ ?_ | refine hQr _ _ _ ?_) | simp (config := { maxSteps := 1000000 }) (disch := omega) only [↓sh, ↓sh2, ↓reduceIte, sx, sl, sb, st, nbeq_ne, dle, relo_eq, wrap_i64, Nat.reduceBEq, Nat.reduceLT, Nat.reduceLeDiff, Nat.reduceAdd, Nat.reduceMul, Nat.reduceEqDiff, Int.reduceEq, Int.reduceLT, Int.reduceLE, Int.reduceNeg, Int.reduceToNat, Bool.false_eq_true, eq_self, sa, *])
          all_goals first | (rename_i hq; exact absurd hq (by decide)) | skip
          refine hQ _ _ _ ?_ ⟨1, rfl, ?_, ?_, ?_, ?_, by omega⟩ <;> exact nextW
        · repeat' (first | refine boolP_dec (fun _ => ?_) (fun _ => ?_) | apply boolP_not | refine boolP_b (fun _ => ?_) (fun _ => ?_) | ((with_reducible show CallA _ _ _ _ _); (first | refine call_ko (H0 := H5) koW (hcount_d _ loW (d5.ko koW)) ?_ | refine call_ko (H0 := H5) koW (hstate_d _ loW (d5.ko koW)) ?_ | refine call_ko (H0 := H5) koW (r15_nil _ loW) ?_); intro H2 k2 l2 n2 g2 q2; try simp (disch := omega) only [sm, sl] at l2 n2 g2 q2) | ((with_reducible show Qs _ _ _ _ _); first | refine hQe _ _ _ _ ?_ | refine hQr _ _ _ ?_) | simp (config := { maxSteps := 1000000 }) (disch := omega) only [↓sh, ↓sh2, ↓reduceIte, sx, sl, sb, st, nbeq_ne, dle, relo_eq, wrap_i64, Nat.reduceBEq, Nat.reduceLT, Nat.reduceLeDiff, Nat.reduceAdd, Nat.reduceMul, Nat.reduceEqDiff, Int.reduceEq, Int.reduceLT, Int.reduceLE, Int.reduceNeg, Int.reduceToNat, Bool.false_eq_true, eq_self, sa, *])
          all_goals first | (rename_i hq; exact absurd hq (by decide)) | skip
          refine hQ _ _ _ ?_ ⟨1, rfl, ?_, ?_, ?_, ?_, by omega⟩ <;> exact nextW
      · repeat' (first | refine boolP_dec (fun _ => ?_) (fun _ => ?_) | apply boolP_not | refine boolP_b (fun _ => ?_) (fun _ => ?_) | ((with_reducible show CallA _ _ _ _ _); (first | refine call_ko (H0 := H5) koW (hcount_d _ loW (d5.ko koW)) ?_ | refine call_ko (H0 := H5) koW (hstate_d _ loW (d5.ko koW)) ?_ | refine call_ko (H0 := H5) koW (r15_nil _ loW) ?_); intro H2 k2 l2 n2 g2 q2; try simp (disch := omega) only [sm, sl] at l2 n2 g2 q2) | ((with_reducible show Qs _ _ _ _ _); first | refine hQe _ _ _ _ ?_ | refine hQr _ _ _ ?_) | simp (config := { maxSteps := 1000000 }) (disch := omega) only [↓sh, ↓sh2, ↓reduceIte, sx, sl, sb, st, nbeq_ne, dle, relo_eq, wrap_i64, Nat.reduceBEq, Nat.reduceLT, Nat.reduceLeDiff, Nat.reduceAdd, Nat.reduceMul, Nat.reduceEqDiff, Int.reduceEq, Int.reduceLT, Int.reduceLE, Int.reduceNeg, Int.reduceToNat, Bool.false_eq_true, eq_self, sa, *])
        all_goals first | (rename_i hq; exact absurd hq (by decide)) | skip
        refine hQ _ _ _ ?_ ⟨1, rfl, ?_, ?_, ?_, ?_, by omega⟩ <;> exact nextW
    · repeat' (first | refine boolP_dec (fun _ => ?_) (fun _ => ?_) | apply boolP_not | refine boolP_b (fun _ => ?_) (fun _ => ?_) | ((with_reducible show Qs _ _ _ _ _); first | refine hQe _ _ _ _ ?_ | refine hQr _ _ _ ?_) | simp (config := { maxSteps := 1000000 }) (disch := omega) only [↓sh, ↓sh2, ↓reduceIte, sx, sl, sb, st, nbeq_ne, dle, relo_eq, wrap_i64, Nat.reduceBEq, Nat.reduceLT, Nat.reduceLeDiff, Nat.reduceAdd, Nat.reduceMul, Nat.reduceEqDiff, Int.reduceEq, Int.reduceLT, Int.reduceLE, Int.reduceNeg, Int.reduceToNat, Bool.false_eq_true, eq_self, sa, Int.natCast_one, *])
      have d0 : Dead (X1.newRow [.bool false, .int .i64 0, .int .i64 0, .int .i64 0, .int .i64 0, .bool false, .slice none 0 0, .int .i64 0, .slice none 0 0, .slice none 0 0, .slice none 0 0, .int .i64 0]) (ptr X1.next 0) := .inr ⟨X1.next, _, rfl, by simp (disch := omega) only [setRow_get, newRow_get, newRow_next, setRow_next, newRow_lo, setRow_lo, newRow_grps, setRow_grps, newRow_relo, setRow_relo, relo_objs, relo_next, relo_lo, nbeq_ne, sl]; omega, by simp (disch := omega) only [setRow_get, newRow_get, newRow_next, setRow_next, newRow_lo, setRow_lo, newRow_grps, setRow_grps, newRow_relo, setRow_relo, relo_objs, relo_next, relo_lo, nbeq_ne, sl]; rfl⟩
      refine (do_d _ loW d0 o).mono ?_
      rintro r H5 ⟨rfl, s5⟩
      have k5 : Ko H1 H5 := Ko.call koW s5
      have d5 : Dead H5 _ := Dead.ko d0 (Ko.call koW s5)
      have q0 := (s5.objs H.next loW); have q1 := (s5.objs (H.next + 1) loW)
      have l5 := s5.lo; have n5 := s5.nxt
      try simp (disch := omega) only [sm, sl] at q0 q1 l5 n5
      rw [e0] at q0; rw [e1] at q1
      clear s5
      simp only [ansV, wrkV]
      by_cases c1 : 1 ≤ o.d
      · by_cases c2 : o.d ≤ 10
        · have e : doE o.d = 10 := by unfold doE; rw [if_pos ⟨c1, c2⟩]
          rw [e]
          repeat' (first | refine boolP_dec (fun _ => ?_) (fun _ => ?_) | apply boolP_not | refine boolP_b (fun _ => ?_) (fun _ => ?_) | ((with_reducible show CallA _ _ _ _ _); (first | refine call_ko (H0 := H5) koW (hcount_d _ loW (d5.ko koW)) ?_ | refine call_ko (H0 := H5) koW (hstate_d _ loW (d5.ko koW)) ?_ | refine call_ko (H0 := H5) koW (r15_nil _ loW) ?_); intro H2 k2 l2 n2 g2 q2; try simp (disch := omega) only [sm, sl] at l2 n2 g2 q2) | ((with_reducible show Qs _ _ _ _ _); first | refine hQe _ _ _ _ ?_ | refine hQr _ _ _ ?_) | simp (config := { maxSteps := 1000000 }) (disch := omega) only [↓sh, ↓sh2, ↓reduceIte, sx, sl, sb, st, nbeq_ne, dle, relo_eq, wrap_i64, Nat.reduceBEq, Nat.reduceLT, Nat.reduceLeDiff, Nat.reduceAdd, Nat.reduceMul, Nat.reduceEqDiff, Int.reduceEq, Int.reduceLT, Int.reduceLE, Int.reduceNeg, Int.reduceToNat, Bool.false_eq_true, eq_self, sa, *])
          all_goals first | (rename_i hq; exact absurd hq (by decide)) | skip
          refine hQ _ _ _ ?_ ⟨2, rfl, ?_, ?_, ?_, ?_, by omega⟩ <;> exact nextW
        · repeat' (first | refine boolP_dec (fun _ => ?_) (fun _ => ?_) | apply boolP_not | refine boolP_b (fun _ => ?_) (fun _ => ?_) | ((with_reducible show CallA _ _ _ _ _); (first | refine call_ko (H0 := H5) koW (hcount_d _ loW (d5.ko koW)) ?_ | refine call_ko (H0 := H5) koW (hstate_d _ loW (d5.ko koW)) ?_ | refine call_ko (H0 := H5) koW (r15_nil _ loW) ?_); intro H2 k2 l2 n2 g2 q2; try simp (disch := omega) only [sm, sl] at l2 n2 g2 q2) | ((with_reducible show Qs _ _ _ _ _); first | refine hQe _ _ _ _ ?_ | refine hQr _ _ _ ?_) | simp (config := { maxSteps := 1000000 }) (disch := omega) only [↓sh, ↓sh2, ↓reduceIte, sx, sl, sb, st, nbeq_ne, dle, relo_eq, wrap_i64, Nat.reduceBEq, Nat.reduceLT, Nat.reduceLeDiff, Nat.reduceAdd, Nat.reduceMul, Nat.reduceEqDiff, Int.reduceEq, Int.reduceLT, Int.reduceLE, Int.reduceNeg, Int.reduceToNat, Bool.false_eq_true, eq_self, sa, *])
          all_goals first | (rename_i hq; exact absurd hq (by decide)) | skip
          refine hQ _ _ _ ?_ ⟨2, rfl, ?_, ?_, ?_, ?_, by omega⟩ <;> exact nextW
      · repeat' (first | refine boolP_dec (fun _ => ?_) (fun _ => ?_) | apply boolP_not | refine boolP_b (fun _ => ?_) (fun _ => ?_) | ((with_reducible show CallA _ _ _ _ _); (first | refine call_ko (H0 := H5) koW (hcount_d _ loW (d5.ko koW)) ?_ | refine call_ko (H0 := H5) koW (hstate_d _ loW (d5.ko koW)) ?_ | refine call_ko (H0 := H5) koW (r15_nil _ loW) ?_); intro H2 k2 l2 n2 g2 q2; try simp (disch := omega) only [sm, sl] at l2 n2 g2 q2) | ((with_reducible show Qs _ _ _ _ _); first | refine hQe _ _ _ _ ?_ | refine hQr _ _ _ ?_) | simp (config := { maxSteps := 1000000 }) (disch := omega) only [↓sh, ↓sh2, ↓reduceIte, sx, sl, sb, st, nbeq_ne, dle, relo_eq, wrap_i64, Nat.reduceBEq, Nat.reduceLT, Nat.reduceLeDiff, Nat.reduceAdd, Nat.reduceMul, Nat.reduceEqDiff, Int.reduceEq, Int.reduceLT, Int.reduceLE, Int.reduceNeg, Int.reduceToNat, Bool.false_eq_true, eq_self, sa, *])
        all_goals first | (rename_i hq; exact absurd hq (by decide)) | skip
        refine hQ _ _ _ ?_ ⟨2, rfl, ?_, ?_, ?_, ?_, by omega⟩ <;> exact nextW
    · have c2 : ((2 : Nat) : Int) = 2 := rfl
      repeat' (first | refine boolP_dec (fun _ => ?_) (fun _ => ?_) | apply boolP_not | refine boolP_b (fun _ => ?_) (fun _ => ?_) | ((with_reducible show CallA _ _ _ _ _); refine call_ko (H0 := H1) koW (awk _) ?_; intro H2 k2 l2 n2 g2 q2; try simp (disch := omega) only [sm, sl] at l2 n2 g2 q2) | ((with_reducible show Qs _ _ _ _ _); first | refine hQe _ _ _ _ ?_ | refine hQr _ _ _ ?_) | simp (config := { maxSteps := 1000000 }) (disch := omega) only [↓sh, ↓sh2, ↓reduceIte, sx, sl, sb, st, nbeq_ne, dle, relo_eq, wrap_i64, Nat.reduceBEq, Nat.reduceLT, Nat.reduceLeDiff, Nat.reduceAdd, Nat.reduceMul, Nat.reduceEqDiff, Int.reduceEq, Int.reduceLT, Int.reduceLE, Int.reduceNeg, Int.reduceToNat, Bool.false_eq_true, eq_self, sa, *])
  · rw [if_neg hc] at hr
    subst hr
    repeat' (first | refine boolP_dec (fun _ => ?_) (fun _ => ?_) | apply boolP_not | refine boolP_b (fun _ => ?_) (fun _ => ?_) | ((with_reducible show CallA _ _ _ _ _); refine call_ko (H0 := H) koW (check_ok _ loW (hS0.ko koW) hok) ?_; intro H2 k2 l2 n2 g2 q2; try simp (disch := omega) only [sm, sl] at l2 n2 g2 q2) | ((with_reducible show Qs _ _ _ _ _); first | refine hQe _ _ _ _ ?_ | refine hQr _ _ _ ?_) | simp (config := { maxSteps := 1000000 }) (disch := omega) only [↓sh, ↓sh2, ↓reduceIte, sx, sl, sb, st, nbeq_ne, dle, relo_eq, wrap_i64, Nat.reduceBEq, Nat.reduceLT, Nat.reduceLeDiff, Nat.reduceAdd, Nat.reduceMul, Nat.reduceEqDiff, Int.reduceEq, Int.reduceLT, Int.reduceLE, Int.reduceNeg, Int.reduceToNat, Bool.false_eq_true, eq_self, sa, *])
    have p3 := (g2 H.next loW).trans p1; have p4 := (g2 (H.next + 1) loW).trans p2
    refine wps_named2 (fun T1 H1 eT eH => ?_)
    have k1 : Ko H H1 := by rw [eH]; exact koW
    have n1 := congrArg Heap.next eH; have l1 := congrArg Heap.lo eH; have g1 := fun r => congrArg (fun h : Heap => h.objs.get r) eH
    try simp (disch := omega) only [sm, sl] at n1 l1 g1
    clear eH
    have u1_2 := congrArg (fun T : Tr Value => T.get 2) eT
    have u1_7 := congrArg (fun T : Tr Value => T.get 7) eT
    simp only [get_set, of_nil, of_1, of_2, of_3, of_4, of_5, Nat.reduceEqDiff, if_true, if_false, reduceIte] at u1_2 u1_7
    clear eT
    refine wp_loopN (by kernel_rfl) (fun nn T X => ∃ i : Nat, nn = 2 - i ∧ (T.get 7 = some (.int .i64 i)) ∧ (T.get 2 = T1.get 2) ∧ Ko H1 X ∧ X.lo = H1.lo ∧ (i ≤ 2)) ?_ ?_
    · refine ⟨_, 0, rfl, ?_, ?_, Ko.refl _, rfl, Nat.zero_le _⟩ <;> exact nextW
    rintro nn T1' X1 ⟨i, rfl, m1, w1, kx1, lx1, hi⟩ Qs hQ hQr hQe
    have kX1 := k1.trans kx1; have nx1 := kx1.nxt; have gx1 := kx1.objs
    have e0 := ((gx1 H.next loW).trans (g1 _)).trans p3; have e1 := ((gx1 (H.next + 1) loW).trans (g1 _)).trans p4
    rcases (show i = 0 ∨ i = 1 ∨ i = 2 by omega) with rfl | rfl | rfl
    · repeat' (first | refine boolP_dec (fun _ => ?_) (fun _ => ?_) | apply boolP_not | refine boolP_b (fun _ => ?_) (fun _ => ?_) | ((with_reducible show Qs _ _ _ _ _); first | refine hQe _ _ _ _ ?_ | refine hQr _ _ _ ?_) | simp (config := { maxSteps := 1000000 }) (disch := omega) only [↓sh, ↓sh2, ↓reduceIte, sx, sl, sb, st, nbeq_ne, dle, relo_eq, wrap_i64, Nat.reduceBEq, Nat.reduceLT, Nat.reduceLeDiff, Nat.reduceAdd, Nat.reduceMul, Nat.reduceEqDiff, Int.reduceEq, Int.reduceLT, Int.reduceLE, Int.reduceNeg, Int.reduceToNat, Bool.false_eq_true, eq_self, sa, Int.natCast_zero, *])
      refine (do_d _ loW (.inl rfl) o).mono ?_
      rintro r H5 ⟨rfl, s5⟩
      have k5 : Ko H1 H5 := Ko.call koW s5
      have d5 : Dead H5 _ := Dead.ko (.inl rfl) (Ko.call koW s5)
      have q0 := (s5.objs H.next loW); have q1 := (s5.objs (H.next + 1) loW)
      have l5 := s5.lo; have n5 := s5.nxt
      try simp (disch := omega) only [sm, sl] at q0 q1 l5 n5
      rw [e0] at q0; rw [e1] at q1
      clear s5
      simp only [ansV, wrkV]
      by_cases c1 : 1 ≤ o.d
      · by_cases c2 : o.d ≤ 10
        · have e : doE o.d = 10 := by unfold doE; rw [if_pos ⟨c1, c2⟩]
          rw [e]
          repeat' (first | refine boolP_dec (fun _ => ?_) (fun _ => ?_) | apply boolP_not | refine boolP_b (fun _ => ?_) (fun _ => ?_) | ((with_reducible show CallA _ _ _ _ _); (first | refine call_ko (H0 := H5) koW (hcount_d _ loW (d5.ko koW)) ?_ | refine call_ko (H0 := H5) koW (hstate_d _ loW (d5.ko koW)) ?_ | refine call_ko (H0 := H5) koW (r15_nil _ loW) ?_); intro H2 k2 l2 n2 g2 q2; try simp (disch := omega) only [sm, sl] at l2 n2 g2 q2) | ((with_reducible show Qs _ _ _ _ _); first | refine hQe _ _ _ _ ?_ | refine hQr _ _ _ ?_) | simp (config := { maxSteps := 1000000 }) (disch := omega) only [↓sh, ↓sh2, ↓reduceIte, sx, sl, sb, st, nbeq_ne, dle, relo_eq, wrap_i64, Nat.reduceBEq, Nat.reduceLT, Nat.reduceLeDiff, Nat.reduceAdd, Nat.reduceMul, Nat.reduceEqDiff, Int.reduceEq, Int.reduceLT, Int.reduceLE, Int.reduceNeg, Int.reduceToNat, Bool.false_eq_true, eq_self, sa, *])
          all_goals first | (rename_i hq; exact absurd hq (by decide)) | skip
          refine hQ _ _ _ ?_ ⟨1, rfl, ?_, ?_, ?_, ?_, by omega⟩ <;> exact nextW
        · repeat' (first | refine boolP_dec (fun _ => ?_) (fun _ => ?_) | apply boolP_not | refine boolP_b (fun _ => ?_) (fun _ => ?_) | ((with_reducible show CallA _ _ _ _ _); (first | refine call_ko (H0 := H5) koW (hcount_d _ loW (d5.ko koW)) ?_ | refine call_ko (H0 := H5) koW (hstate_d _ loW (d5.ko koW)) ?_ | refine call_ko (H0 := H5) koW (r15_nil _ loW) ?_); intro H2 k2 l2 n2 g2 q2; try simp (disch := omega) only [sm, sl] at l2 n2 g2 q2) | ((with_reducible show Qs _ _ _ _ _); first | refine hQe _ _ _ _ ?_ | refine hQr _ _ _ ?_) | simp (config := { maxSteps := 1000000 }) (disch := omega) only [↓sh, ↓sh2, ↓reduceIte, sx, sl, sb, st, nbeq_ne, dle, relo_eq, wrap_i64, Nat.reduceBEq, Nat.reduceLT, Nat.reduceLeDiff, Nat.reduceAdd, Nat.reduceMul, Nat.reduceEqDiff, Int.reduceEq, Int.reduceLT, Int.reduceLE, Int.reduceNeg, Int.reduceToNat, Bool.false_eq_true, eq_self, sa, *])
          all_goals first | (rename_i hq; exact absurd hq (by decide)) | skip
          refine hQ _ _ _ ?_ ⟨1, rfl, ?_, ?_, ?_, ?_, by omega⟩ <;> exact nextW
      · repeat' (first | refine boolP_dec (fun _ => ?_) (fun _ => ?_) | apply boolP_not | refine boolP_b (fun _ => ?_) (fun _ => ?_) | ((with_reducible show CallA _ _ _ _ _); (first | refine call_ko (H0 := H5) koW (hcount_d _ loW (d5.ko koW)) ?_ | refine call_ko (H0 := H5) koW (hstate_d _ loW (d5.ko koW)) ?_ | refine call_ko (H0 := H5) koW (r15_nil _ loW) ?_); intro H2 k2 l2 n2 g2 q2; try simp (disch := omega) only [sm, sl] at l2 n2 g2 q2) | ((with_reducible show Qs _ _ _ _ _); first | refine hQe _ _ _ _ ?_ | refine hQr _ _ _ ?_) | simp (config := { maxSteps := 1000000 }) (disch := omega) only [↓sh, ↓sh2, ↓reduceIte, sx, sl, sb, st, nbeq_ne, dle, relo_eq, wrap_i64, Nat.reduceBEq, Nat.reduceLT, Nat.reduceLeDiff, Nat.reduceAdd, Nat.reduceMul, Nat.reduceEqDiff, Int.reduceEq, Int.reduceLT, Int.reduceLE, Int.reduceNeg, Int.reduceToNat, Bool.false_eq_true, eq_self, sa, *])
        all_goals first | (rename_i hq; exact absurd hq (by decide)) | skip
        refine hQ _ _ _ ?_ ⟨1, rfl, ?_, ?_, ?_, ?_, by omega⟩ <;> exact nextW
    · repeat' (first | refine boolP_dec (fun _ => ?_) (fun _ => ?_) | apply boolP_not | refine boolP_b (fun _ => ?_) (fun _ => ?_) | ((with_reducible show Qs _ _ _ _ _); first | refine hQe _ _ _ _ ?_ | refine hQr _ _ _ ?_) | simp (config := { maxSteps := 1000000 }) (disch := omega) only [↓sh, ↓sh2, ↓reduceIte, sx, sl, sb, st, nbeq_ne, dle, relo_eq, wrap_i64, Nat.reduceBEq, Nat.reduceLT, Nat.reduceLeDiff, Nat.reduceAdd, Nat.reduceMul, Nat.reduceEqDiff, Int.reduceEq, Int.reduceLT, Int.reduceLE, Int.reduceNeg, Int.reduceToNat, Bool.false_eq_true, eq_self, sa, Int.natCast_one, *])
      have d0 : Dead (X1.newRow [.bool false, .int .i64 0, .int .i64 0, .int .i64 0, .int .i64 0, .bool false, .slice none 0 0, .int .i64 0, .slice none 0 0, .slice none 0 0, .slice none 0 0, .int .i64 0]) (ptr X1.next 0) := .inr ⟨X1.next, _, rfl, by simp (disch := omega) only [setRow_get, newRow_get, newRow_next, setRow_next, newRow_lo, setRow_lo, newRow_grps, setRow_grps, newRow_relo, setRow_relo, relo_objs, relo_next, relo_lo, nbeq_ne, sl]; omega, by simp (disch := omega) only [setRow_get, newRow_get, newRow_next, setRow_next, newRow_lo, setRow_lo, newRow_grps, setRow_grps, newRow_relo, setRow_relo, relo_objs, relo_next, relo_lo, nbeq_ne, sl]; rfl⟩
      refine (do_d _ loW d0 o).mono ?_
      rintro r H5 ⟨rfl, s5⟩
      have k5 : Ko H1 H5 := Ko.call koW s5
      have d5 : Dead H5 _ := Dead.ko d0 (Ko.call koW s5)
      have q0 := (s5.objs H.next loW); have q1 := (s5.objs (H.next + 1) loW)
      have l5 := s5.lo; have n5 := s5.nxt
      try simp (disch := omega) only [sm, sl] at q0 q1 l5 n5
      rw [e0] at q0; rw [e1] at q1
      clear s5
      simp only [ansV, wrkV]
      by_cases c1 : 1 ≤ o.d
      · by_cases c2 : o.d ≤ 10
        · have e : doE o.d = 10 := by unfold doE; rw [if_pos ⟨c1, c2⟩]
          rw [e]
          repeat' (first | refine boolP_dec (fun _ => ?_) (fun _ => ?_) | apply boolP_not | refine boolP_b (fun _ => ?_) (fun _ => ?_) | ((with_reducible show CallA _ _ _ _ _); (first | refine call_ko (H0 := H5) koW (hcount_d _ loW (d5.ko koW)) ?_ | refine call_ko (H0 := H5) koW (hstate_d _ loW (d5.ko koW)) ?_ | refine call_ko (H0 := H5) koW (r15_nil _ loW) ?_); intro H2 k2 l2 n2 g2 q2; try simp (disch := omega) only [sm, sl] at l2 n2 g2 q2) | ((with_reducible show Qs _ _ _ _ _); first | refine hQe _ _ _ _ ?_ | refine hQr _ _ _ ?_) | simp (config := { maxSteps := 1000000 }) (disch := omega) only [↓sh, ↓sh2, ↓reduceIte, sx, sl, sb, st, nbeq_ne, dle, relo_eq, wrap_i64, Nat.reduceBEq, Nat.reduceLT, Nat.reduceLeDiff, Nat.reduceAdd, Nat.reduceMul, Nat.reduceEqDiff, Int.reduceEq, Int.reduceLT, Int.reduceLE, Int.reduceNeg, Int.reduceToNat, Bool.false_eq_true, eq_self, sa, *])
          all_goals first | (rename_i hq; exact absurd hq (by decide)) | skip
          refine hQ _ _ _ ?_ ⟨2, rfl, ?_, ?_, ?_, ?_, by omega⟩ <;> exact nextW
        · repeat' (first | refine boolP_dec (fun _ => ?_) (fun _ => ?_) | apply boolP_not | refine boolP_b (fun _ => ?_) (fun _ => ?_) | ((with_reducible show CallA _ _ _ _ _); (first | refine call_ko (H0 := H5) koW (hcount_d _ loW (d5.ko koW)) ?_ | refine call_ko (H0 := H5) koW (hstate_d _ loW (d5.ko koW)) ?_ | refine call_ko (H0 := H5) koW (r15_nil _ loW) ?_); intro H2 k2 l2 n2 g2 q2; try simp (disch := omega) only [sm, sl] at l2 n2 g2 q2) | ((with_reducible show Qs _ _ _ _ _); first | refine hQe _ _ _ _ ?_ | refine hQr _ _ _ ?_) | simp (config := { maxSteps := 1000000 }) (disch := omega) only [↓sh, ↓sh2, ↓reduceIte, sx, sl, sb, st, nbeq_ne, dle, relo_eq, wrap_i64, Nat.reduceBEq, Nat.reduceLT, Nat.reduceLeDiff, Nat.reduceAdd, Nat.reduceMul, Nat.reduceEqDiff, Int.reduceEq, Int.reduceLT, Int.reduceLE, Int.reduceNeg, Int.reduceToNat, Bool.false_eq_true, eq_self, sa, *])
          all_goals first | (rename_i hq; exact absurd hq (by decide)) | skip
          refine hQ _ _ _ ?_ ⟨2, rfl, ?_, ?_, ?_, ?_, by omega⟩ <;> exact nextW
      · repeat' (first | refine boolP_dec (fun _ => ?_) (fun _ => ?_) | apply boolP_not | refine boolP_b (fun _ => ?_) (fun _ => ?_) | ((with_reducible show CallA _ _ _ _ _); (first | refine call_ko (H0 := H5) koW (hcount_d _ loW (d5.ko koW)) ?_ | refine call_ko (H0 := H5) koW (hstate_d _ loW (d5.ko koW)) ?_ | refine call_ko (H0 := H5) koW (r15_nil _ loW) ?_); intro H2 k2 l2 n2 g2 q2; try simp (disch := omega) only [sm, sl] at l2 n2 g2 q2) | ((with_reducible show Qs _ _ _ _ _); first | refine hQe _ _ _ _ ?_ | refine hQr _ _ _ ?_) | simp (config := { maxSteps := 1000000 }) (disch := omega) only [↓sh, ↓sh2, ↓reduceIte, sx, sl, sb, st, nbeq_ne, dle, relo_eq, wrap_i64, Nat.reduceBEq, Nat.reduceLT, Nat.reduceLeDiff, Nat.reduceAdd, Nat.reduceMul, Nat.reduceEqDiff, Int.reduceEq, Int.reduceLT, Int.reduceLE, Int.reduceNeg, Int.reduceToNat, Bool.false_eq_true, eq_self, sa, *])
        all_goals first | (rename_i hq; exact absurd hq (by decide)) | skip
        refine hQ _ _ _ ?_ ⟨2, rfl, ?_, ?_, ?_, ?_, by omega⟩ <;> exact nextW
    · have c2 : ((2 : Nat) : Int) = 2 := rfl
      repeat' (first | refine boolP_dec (fun _ => ?_) (fun _ => ?_) | apply boolP_not | refine boolP_b (fun _ => ?_) (fun _ => ?_) | ((with_reducible show CallA _ _ _ _ _); refine call_ko (H0 := H1) koW (awk _) ?_; intro H2 k2 l2 n2 g2 q2; try simp (disch := omega) only [sm, sl] at l2 n2 g2 q2) | ((with_reducible show Qs _ _ _ _ _); first | refine hQe _ _ _ _ ?_ | refine hQr _ _ _ ?_) | simp (config := { maxSteps := 1000000 }) (disch := omega) only [↓sh, ↓sh2, ↓reduceIte, sx, sl, sb, st, nbeq_ne, dle, relo_eq, wrap_i64, Nat.reduceBEq, Nat.reduceLT, Nat.reduceLeDiff, Nat.reduceAdd, Nat.reduceMul, Nat.reduceEqDiff, Int.reduceEq, Int.reduceLT, Int.reduceLE, Int.reduceNeg, Int.reduceToNat, Bool.false_eq_true, eq_self, sa, *])
end Go.AM
