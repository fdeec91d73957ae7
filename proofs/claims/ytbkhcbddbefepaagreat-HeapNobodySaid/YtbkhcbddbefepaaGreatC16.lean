/-
  Walks over letters of the functions that the law reaches.
-/
import Derived.Test.YtbkhcbddbefepaaGreatC15
namespace Go.AM
attribute [local instance] fnMaps
open Go Go.Proofs
set_option maxRecDepth 100000
set_option maxHeartbeats 1000000
set_option linter.unusedSimpArgs false
theorem ats_in {ws : List Nat} {top : Int} : ∀ (n : Nat) (p : Int), 0 ≤ p → ∀ x ∈ ats (stepsL ws top n p), headE ws x = 0 ∧ 0 ≤ x ∧ x < ws.length
  | 0, p, _, x, h => by cases h
  | n + 1, p, hp, x, h => by
    rw [stepsL] at h
    split at h
    · split at h
      · rename_i h2
        have h3 := stepE_0 h2
        have h4 := sizeH_pos h3.1
        simp only [ats, List.filter_cons, Bool.not_false, if_true, List.map_cons, List.mem_cons] at h
        rcases h with rfl | h
        · exact ⟨h3.1, hp, (headE_in h3.1).2.1⟩
        · exact ats_in n _ (by omega) x h
      · cases h
    · cases h
theorem small_in (s : St) : ∀ x ∈ (smallR s).1, headE s.words x = 0 ∧ 0 ≤ x ∧ x < s.words.length := by
  intro x hx
  unfold smallR listR at hx
  split at hx
  · exact ats_in _ _ (from_in s.cfg s.second).1 x hx
  · cases hx
def smallB (s : St) (x : Int) : Bool := quietB (headAt s.words x) && decide (s.cfg.Small (sizeH (headAt s.words x)))
theorem fn79 : E.fn.get 79 = some Tryz.f79 := by kernel_rfl
theorem ssmalls_ok (H : Heap) (hlo : H.lo ≤ H.next) {lp a rw m : Nat} {s : St} {w t f zl smv : Value} {sml ks : List Int} (hk : Lk H lp s w t f zl a rw m smv sml ks) (hl : lp < H.next) (hb : ∀ x ∈ sml, -9223372036854775808 ≤ x ∧ x ≤ 9223372036854775807) : CallA E (fnv 79) [ptr lp 0] H fun r H' => r = .bool (sml.all (smallB s)) ∧ Same H H' := by
  have hrow := hk.row
  have hA := hk.ar
  obtain ⟨⟨sa', sc, rfl, ⟨_, hsm⟩, hsl⟩, -⟩ := hk.small
  unfold lkC at hrow
  refine callA_fn (by kernel_rfl) fn79 rfl rfl ?_
  simp only [Tryz.f79]
  repeat' (first | refine boolP_dec (fun _ => ?_) (fun _ => ?_) | apply boolP_not | refine boolP_b (fun _ => ?_) (fun _ => ?_) | refine wps_draw (id := 5) [Fx, Fx, Fx, Fx, Fx, Fx, Fx, Fx, Fx, Fx, Tx, Fx, Fx, Fx] (by kernel_rfl) ?_ | ((with_reducible show Qs _ _ _ _ _); first | refine hQe _ _ _ _ ?_ | refine hQr _ _ _ ?_) | simp (config := { maxSteps := 1000000 }) (disch := omega) only [↓sh, ↓sh2, ↓reduceIte, sx, sl, sb, st, nbeq_ne, dle, relo_eq, wrap_i64, Nat.reduceBEq, Nat.reduceLT, Nat.reduceLeDiff, Nat.reduceAdd, Nat.reduceMul, Nat.reduceEqDiff, Int.reduceEq, Int.reduceLT, Int.reduceLE, Int.reduceNeg, Int.reduceToNat, Bool.false_eq_true, eq_self, sa, *])
  refine wps_named2 (fun T1 H1 eT eH => ?_)
  have k1 : Ko H H1 := by rw [eH]; exact koW
  have n1 := congrArg Heap.next eH; have l1 := congrArg Heap.lo eH; have g1 := fun r => congrArg (fun h : Heap => h.objs.get r) eH
  try simp (disch := omega) only [sm, sl] at n1 l1 g1
  clear eH
  have u1_0 := congrArg (fun T : Tr Value => T.get 0) eT
  have u1_10 := congrArg (fun T : Tr Value => T.get 10) eT
  have u1_11 := congrArg (fun T : Tr Value => T.get 11) eT
  have u1_12 := congrArg (fun T : Tr Value => T.get 12) eT
  simp only [get_set, of_nil, of_1, of_2, of_3, of_4, of_5, Nat.reduceEqDiff, if_true, if_false, reduceIte] at u1_0 u1_10 u1_11 u1_12
  clear eT
  refine wp_loopN (by kernel_rfl) (fun nn T X => ∃ i : Nat, nn = sml.length - i ∧ (T.get 12 = some (.int .i64 i)) ∧ (T.get 0 = T1.get 0 ∧ T.get 10 = T1.get 10 ∧ T.get 11 = T1.get 11) ∧ Ko H1 X ∧ X.lo = H1.lo ∧ (i ≤ sml.length ∧ sml.all (smallB s) = (sml.drop i).all (smallB s))) ?_ ?_
  · refine ⟨_, 0, rfl, ?_, ?_, Ko.refl _, rfl, ⟨Nat.zero_le _, rfl⟩⟩ <;> exact nextW
  rintro nn T1' X1 ⟨i, rfl, m1, w1, kx1, lx1, ⟨hi, hE⟩⟩ Qs hQ hQr hQe
  have kX1 := k1.trans kx1; have nx1 := kx1.nxt; have gx1 := kx1.objs
  have e0 := kX1.objs lp hl
  by_cases hlt : i < sml.length
  · obtain ⟨r, o, cells, gg, tt, part, rfl, hr, hrw, hcut, rfl⟩ := hsl i sml[i] (by simp)
    rw [Nat.mul_one] at hcut
    have hcut := cut1_get hcut
    have a1 := at_nat hlt
    have e1 := kX1.objs r hr
    have hx := hb sml[i] (by simp)
    rw [List.drop_eq_getElem_cons hlt, List.all_cons] at hE
    cases hq : quietB (headAt s.words sml[i]) with
    | false =>
      have hn : sml.all (smallB s) = false := by rw [hE, smallB, hq]; rfl
      clear hE
      repeat' (first | refine boolP_dec (fun _ => ?_) (fun _ => ?_) | apply boolP_not | refine boolP_b (fun _ => ?_) (fun _ => ?_) | refine wps_draw (id := 5) [Fx, Fx, Fx, Fx, Fx, Fx, Fx, Fx, Fx, Fx, Tx, Fx, Fx, Fx] (by kernel_rfl) ?_ | ((with_reducible show CallA _ _ _ _ _); (first | refine call_ko (H0 := H1) koW (ohead_ok _ loW (hA.same koW) sml[i] hx) ?_ | refine call_ko (H0 := H1) koW (quiet_ok _ loW (headAt s.words sml[i])) ?_); intro H2 k2 l2 n2 g2 q2; try simp (disch := omega) only [sm, sl] at l2 n2 g2 q2) | ((with_reducible show Qs _ _ _ _ _); first | refine hQe _ _ _ _ ?_ | refine hQr _ _ _ ?_) | simp (config := { maxSteps := 1000000 }) (disch := omega) only [↓sh, ↓sh2, ↓reduceIte, sx, sl, sb, st, nbeq_ne, dle, relo_eq, wrap_i64, Nat.reduceBEq, Nat.reduceLT, Nat.reduceLeDiff, Nat.reduceAdd, Nat.reduceMul, Nat.reduceEqDiff, Int.reduceEq, Int.reduceLT, Int.reduceLE, Int.reduceNeg, Int.reduceToNat, Bool.false_eq_true, eq_self, sa, hdV, *])
      all_goals try omega
      all_goals first
        | exact sameW
        | (exact ⟨rfl, sameW⟩)
    | true =>
      by_cases hsmall : s.cfg.Small (sizeH (headAt s.words sml[i]))
      · have hn : sml.all (smallB s) = (sml.drop (i + 1)).all (smallB s) := by rw [hE, smallB, hq, decide_eq_true hsmall]; rfl
        clear hE
        repeat' (first | refine boolP_dec (fun _ => ?_) (fun _ => ?_) | apply boolP_not | refine boolP_b (fun _ => ?_) (fun _ => ?_) | refine wps_draw (id := 5) [Fx, Fx, Fx, Fx, Fx, Fx, Fx, Fx, Fx, Fx, Tx, Fx, Fx, Fx] (by kernel_rfl) ?_ | ((with_reducible show CallA _ _ _ _ _); (first | refine call_ko (H0 := H1) koW (ohead_ok _ loW (hA.same koW) sml[i] hx) ?_ | refine call_ko (H0 := H1) koW (quiet_ok _ loW (headAt s.words sml[i])) ?_ | refine call_ko (H0 := H1) koW (hsize_ok _ loW (headAt s.words sml[i])) ?_ | refine call_ko (H0 := H1) koW (lsmall_ok _ loW s.cfg (sizeH (headAt s.words sml[i]))) ?_); intro H2 k2 l2 n2 g2 q2; try simp (disch := omega) only [sm, sl] at l2 n2 g2 q2) | ((with_reducible show Qs _ _ _ _ _); first | refine hQe _ _ _ _ ?_ | refine hQr _ _ _ ?_) | simp (config := { maxSteps := 1000000 }) (disch := omega) only [↓sh, ↓sh2, ↓reduceIte, sx, sl, sb, st, nbeq_ne, dle, relo_eq, wrap_i64, Nat.reduceBEq, Nat.reduceLT, Nat.reduceLeDiff, Nat.reduceAdd, Nat.reduceMul, Nat.reduceEqDiff, Int.reduceEq, Int.reduceLT, Int.reduceLE, Int.reduceNeg, Int.reduceToNat, Bool.false_eq_true, eq_self, sa, hdV, *])
        all_goals try omega
        refine hQ _ _ _ ?_ ⟨i + 1, rfl, ?_, ?_, ?_, ?_, ⟨by omega, hn⟩⟩ <;> exact nextW
      · have hn : sml.all (smallB s) = false := by rw [hE, smallB, hq, decide_eq_false hsmall]; rfl
        clear hE
        repeat' (first | refine boolP_dec (fun _ => ?_) (fun _ => ?_) | apply boolP_not | refine boolP_b (fun _ => ?_) (fun _ => ?_) | refine wps_draw (id := 5) [Fx, Fx, Fx, Fx, Fx, Fx, Fx, Fx, Fx, Fx, Tx, Fx, Fx, Fx] (by kernel_rfl) ?_ | ((with_reducible show CallA _ _ _ _ _); (first | refine call_ko (H0 := H1) koW (ohead_ok _ loW (hA.same koW) sml[i] hx) ?_ | refine call_ko (H0 := H1) koW (quiet_ok _ loW (headAt s.words sml[i])) ?_ | refine call_ko (H0 := H1) koW (hsize_ok _ loW (headAt s.words sml[i])) ?_ | refine call_ko (H0 := H1) koW (lsmall_ok _ loW s.cfg (sizeH (headAt s.words sml[i]))) ?_); intro H2 k2 l2 n2 g2 q2; try simp (disch := omega) only [sm, sl] at l2 n2 g2 q2) | ((with_reducible show Qs _ _ _ _ _); first | refine hQe _ _ _ _ ?_ | refine hQr _ _ _ ?_) | simp (config := { maxSteps := 1000000 }) (disch := omega) only [↓sh, ↓sh2, ↓reduceIte, sx, sl, sb, st, nbeq_ne, dle, relo_eq, wrap_i64, Nat.reduceBEq, Nat.reduceLT, Nat.reduceLeDiff, Nat.reduceAdd, Nat.reduceMul, Nat.reduceEqDiff, Int.reduceEq, Int.reduceLT, Int.reduceLE, Int.reduceNeg, Int.reduceToNat, Bool.false_eq_true, eq_self, sa, hdV, *])
        all_goals try omega
        all_goals first
          | exact sameW
          | (exact ⟨rfl, sameW⟩)
  · have hn : sml.all (smallB s) = true := by rw [hE, List.drop_eq_nil_of_le (by omega)]; rfl
    clear hE
    repeat' (first | refine boolP_dec (fun _ => ?_) (fun _ => ?_) | apply boolP_not | refine boolP_b (fun _ => ?_) (fun _ => ?_) | refine wps_draw (id := 5) [Fx, Fx, Fx, Fx, Fx, Fx, Fx, Fx, Fx, Fx, Tx, Fx, Fx, Fx] (by kernel_rfl) ?_ | ((with_reducible show Qs _ _ _ _ _); first | refine hQe _ _ _ _ ?_ | refine hQr _ _ _ ?_) | simp (config := { maxSteps := 1000000 }) (disch := omega) only [↓sh, ↓sh2, ↓reduceIte, sx, sl, sb, st, nbeq_ne, dle, relo_eq, wrap_i64, Nat.reduceBEq, Nat.reduceLT, Nat.reduceLeDiff, Nat.reduceAdd, Nat.reduceMul, Nat.reduceEqDiff, Int.reduceEq, Int.reduceLT, Int.reduceLE, Int.reduceNeg, Int.reduceToNat, Bool.false_eq_true, eq_self, sa, *])
    all_goals try omega
    all_goals first
      | exact sameW
      | (exact ⟨rfl, sameW⟩)
def handB (ks : List Int) (x : Slot) : Bool := !x.used || leadsB ks x.word
theorem fn83 : E.fn.get 83 = some Tryz.f83 := by kernel_rfl
theorem shandles_ok (H : Heap) (hlo : H.lo ≤ H.next) {lp a rw m : Nat} {s : St} {w t f zl smv : Value} {sml ks : List Int} (hk : Lk H lp s w t f zl a rw m smv sml ks) (hl : lp < H.next) (hS : StS H s w t f zl) (hu : ∀ x ∈ s.slots, x.word < 2 ^ 64) : CallA E (fnv 83) [ptr lp 0] H fun r H' => r = .bool (s.slots.all (handB ks)) ∧ Same H H' := by
  have hrow := hk.row
  have hm := hk.map
  have hlm := hk.lm
  obtain ⟨⟨sa', sc, rfl, ⟨_, hsm⟩, hsl⟩, -⟩ := hS.sl
  unfold lkC at hrow
  refine callA_fn (by kernel_rfl) fn83 rfl rfl ?_
  simp only [Tryz.f83]
  repeat' (first | refine boolP_dec (fun _ => ?_) (fun _ => ?_) | apply boolP_not | refine boolP_b (fun _ => ?_) (fun _ => ?_) | ((with_reducible show Qs _ _ _ _ _); first | refine hQe _ _ _ _ ?_ | refine hQr _ _ _ ?_) | simp (config := { maxSteps := 1000000 }) (disch := omega) only [↓sh, ↓sh2, ↓reduceIte, sx, sl, sb, st, nbeq_ne, dle, relo_eq, wrap_i64, Nat.reduceBEq, Nat.reduceLT, Nat.reduceLeDiff, Nat.reduceAdd, Nat.reduceMul, Nat.reduceEqDiff, Int.reduceEq, Int.reduceLT, Int.reduceLE, Int.reduceNeg, Int.reduceToNat, Bool.false_eq_true, eq_self, sa, *])
  refine wps_named2 (fun T1 H1 eT eH => ?_)
  have k1 : Ko H H1 := by rw [eH]; exact koW
  have n1 := congrArg Heap.next eH; have l1 := congrArg Heap.lo eH; have g1 := fun r => congrArg (fun h : Heap => h.objs.get r) eH
  try simp (disch := omega) only [sm, sl] at n1 l1 g1
  clear eH
  have u1_0 := congrArg (fun T : Tr Value => T.get 0) eT
  have u1_9 := congrArg (fun T : Tr Value => T.get 9) eT
  have u1_10 := congrArg (fun T : Tr Value => T.get 10) eT
  have u1_11 := congrArg (fun T : Tr Value => T.get 11) eT
  simp only [get_set, of_nil, of_1, of_2, of_3, of_4, of_5, Nat.reduceEqDiff, if_true, if_false, reduceIte] at u1_0 u1_9 u1_10 u1_11
  clear eT
  refine wp_loopN (by kernel_rfl) (fun nn T X => ∃ i : Nat, nn = s.slots.length - i ∧ (T.get 11 = some (.int .i64 i)) ∧ (T.get 0 = T1.get 0 ∧ T.get 9 = T1.get 9 ∧ T.get 10 = T1.get 10) ∧ Ko H1 X ∧ X.lo = H1.lo ∧ (i ≤ s.slots.length ∧ s.slots.all (handB ks) = (s.slots.drop i).all (handB ks))) ?_ ?_
  · refine ⟨_, 0, rfl, ?_, ?_, Ko.refl _, rfl, ⟨Nat.zero_le _, rfl⟩⟩ <;> exact nextW
  rintro nn T1' X1 ⟨i, rfl, m1, w1, kx1, lx1, ⟨hi, hE⟩⟩ Qs hQ hQr hQe
  have kX1 := k1.trans kx1; have nx1 := kx1.nxt; have gx1 := kx1.objs
  have e0 := kX1.objs lp hl
  have e2 := kX1.objs m hlm
  by_cases hlt : i < s.slots.length
  · obtain ⟨r, o, cells, gg, tt, part, rfl, hr, hrw, hcut, rfl⟩ := hsl i s.slots[i] (by simp)
    unfold slotC at hcut
    have a1 := at_nat hlt
    have e1 := kX1.objs r hr
    have hw := hu s.slots[i] (by simp)
    rw [List.drop_eq_getElem_cons hlt, List.all_cons] at hE
    cases hus : s.slots[i].used with
    | false =>
      have hn : s.slots.all (handB ks) = (s.slots.drop (i + 1)).all (handB ks) := by rw [hE, handB, hus]; rfl
      clear hE
      repeat' (first | refine boolP_dec (fun _ => ?_) (fun _ => ?_) | apply boolP_not | refine boolP_b (fun _ => ?_) (fun _ => ?_) | ((with_reducible show Qs _ _ _ _ _); first | refine hQe _ _ _ _ ?_ | refine hQr _ _ _ ?_) | simp (config := { maxSteps := 1000000 }) (disch := omega) only [↓sh, ↓sh2, ↓reduceIte, sx, sl, sb, st, nbeq_ne, dle, relo_eq, wrap_i64, Nat.reduceBEq, Nat.reduceLT, Nat.reduceLeDiff, Nat.reduceAdd, Nat.reduceMul, Nat.reduceEqDiff, Int.reduceEq, Int.reduceLT, Int.reduceLE, Int.reduceNeg, Int.reduceToNat, Bool.false_eq_true, eq_self, sa, *])
      all_goals try omega
      refine hQ _ _ _ ?_ ⟨i + 1, rfl, ?_, ?_, ?_, ?_, ⟨by omega, hn⟩⟩ <;> exact nextW
    | true =>
      have hlk := fun (H0 : Heap) (h0 : H0.lo ≤ H0.next) (k : Ko H H0) => leads_ok H0 h0 ((k.objs lp hl).trans hrow) rfl ((k.objs m hlm).trans hm) (Nat.lt_of_lt_of_le hl k.nxt) (Nat.lt_of_lt_of_le hlm k.nxt) s.slots[i].word hw
      cases hll : leadsB ks s.slots[i].word with
      | true =>
        have hn : s.slots.all (handB ks) = (s.slots.drop (i + 1)).all (handB ks) := by rw [hE, handB, hus, hll]; rfl
        clear hE
        repeat' (first | refine boolP_dec (fun _ => ?_) (fun _ => ?_) | apply boolP_not | refine boolP_b (fun _ => ?_) (fun _ => ?_) | ((with_reducible show CallA _ _ _ _ _); refine call_ko (H0 := H1) koW (hlk _ loW koW) ?_; intro H2 k2 l2 n2 g2 q2; try simp (disch := omega) only [sm, sl] at l2 n2 g2 q2) | ((with_reducible show Qs _ _ _ _ _); first | refine hQe _ _ _ _ ?_ | refine hQr _ _ _ ?_) | simp (config := { maxSteps := 1000000 }) (disch := omega) only [↓sh, ↓sh2, ↓reduceIte, sx, sl, sb, st, nbeq_ne, dle, relo_eq, wrap_i64, Nat.reduceBEq, Nat.reduceLT, Nat.reduceLeDiff, Nat.reduceAdd, Nat.reduceMul, Nat.reduceEqDiff, Int.reduceEq, Int.reduceLT, Int.reduceLE, Int.reduceNeg, Int.reduceToNat, Bool.false_eq_true, eq_self, sa, *])
        all_goals try omega
        refine hQ _ _ _ ?_ ⟨i + 1, rfl, ?_, ?_, ?_, ?_, ⟨by omega, hn⟩⟩ <;> exact nextW
      | false =>
        have hn : s.slots.all (handB ks) = false := by rw [hE, handB, hus, hll]; rfl
        clear hE
        repeat' (first | refine boolP_dec (fun _ => ?_) (fun _ => ?_) | apply boolP_not | refine boolP_b (fun _ => ?_) (fun _ => ?_) | ((with_reducible show CallA _ _ _ _ _); refine call_ko (H0 := H1) koW (hlk _ loW koW) ?_; intro H2 k2 l2 n2 g2 q2; try simp (disch := omega) only [sm, sl] at l2 n2 g2 q2) | ((with_reducible show Qs _ _ _ _ _); first | refine hQe _ _ _ _ ?_ | refine hQr _ _ _ ?_) | simp (config := { maxSteps := 1000000 }) (disch := omega) only [↓sh, ↓sh2, ↓reduceIte, sx, sl, sb, st, nbeq_ne, dle, relo_eq, wrap_i64, Nat.reduceBEq, Nat.reduceLT, Nat.reduceLeDiff, Nat.reduceAdd, Nat.reduceMul, Nat.reduceEqDiff, Int.reduceEq, Int.reduceLT, Int.reduceLE, Int.reduceNeg, Int.reduceToNat, Bool.false_eq_true, eq_self, sa, *])
        all_goals try omega
        all_goals first
          | exact sameW
          | (exact ⟨rfl, sameW⟩)
  · have hn : s.slots.all (handB ks) = true := by rw [hE, List.drop_eq_nil_of_le (by omega)]; rfl
    clear hE
    repeat' (first | refine boolP_dec (fun _ => ?_) (fun _ => ?_) | apply boolP_not | refine boolP_b (fun _ => ?_) (fun _ => ?_) | ((with_reducible show Qs _ _ _ _ _); first | refine hQe _ _ _ _ ?_ | refine hQr _ _ _ ?_) | simp (config := { maxSteps := 1000000 }) (disch := omega) only [↓sh, ↓sh2, ↓reduceIte, sx, sl, sb, st, nbeq_ne, dle, relo_eq, wrap_i64, Nat.reduceBEq, Nat.reduceLT, Nat.reduceLeDiff, Nat.reduceAdd, Nat.reduceMul, Nat.reduceEqDiff, Int.reduceEq, Int.reduceLT, Int.reduceLE, Int.reduceNeg, Int.reduceToNat, Bool.false_eq_true, eq_self, sa, *])
    all_goals try omega
    all_goals first
      | exact sameW
      | (exact ⟨rfl, sameW⟩)
end Go.AM
