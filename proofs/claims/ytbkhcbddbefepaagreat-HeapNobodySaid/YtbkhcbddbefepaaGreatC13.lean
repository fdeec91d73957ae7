/-
  Walks over letters of the functions that the law reaches.
-/
import Derived.Test.YtbkhcbddbefepaaGreatC12
namespace Go.AM
attribute [local instance] fnMaps
open Go Go.Proofs
set_option maxRecDepth 100000
set_option maxHeartbeats 1000000
set_option linter.unusedSimpArgs false
def leadsB (ks : List Int) (w : Nat) : Bool := match decV w with
  | none => false
  | some v => if v.kind = 2 then decide (v.x ∈ ks) else true
theorem fn113 : E.fn.get 113 = some Tryz.f113 := by kernel_rfl
theorem leads_ok (H : Heap) (hlo : H.lo ≤ H.next) {lp mp : Nat} {ks : List Int} {cells : List Value} (hrow : H.objs.get lp = some (.row cells none true)) (hc : cells[12]? = some (.map (some mp))) (hm : H.objs.get mp = some (.map (esK ks))) (l1 : lp < H.next) (l2 : mp < H.next) (w : Nat) (hw : w < 2 ^ 64) : CallA E (fnv 113) [ptr lp 0, .int .u64 w] H fun r H' => r = .bool (leadsB ks w) ∧ Same H H' := by
  refine callA_fn (by kernel_rfl) fn113 rfl rfl ?_
  simp only [Tryz.f113]
  cases hd : decV w with
  | none =>
    have e : leadsB ks w = false := by unfold leadsB; rw [hd]
    repeat' (first | refine boolP_dec (fun _ => ?_) (fun _ => ?_) | apply boolP_not | refine boolP_b (fun _ => ?_) (fun _ => ?_) | refine wps_draw (id := 2) [Fx, Fx, Fx, Fx, Fx, Fx, Fx, Fx, Fx, Fx, Fx, Fx, Fx, Fx, Fx, Fx, Fx] (by kernel_rfl) ?_ | ((with_reducible show CallA _ _ _ _ _); refine call_ko (H0 := H) koW (vdec_ok _ loW w hw) ?_; intro H2 k2 l2 n2 g2 q2; try simp (disch := omega) only [sm, sl] at l2 n2 g2 q2) | ((with_reducible show Qs _ _ _ _ _); first | refine hQe _ _ _ _ ?_ | refine hQr _ _ _ ?_) | simp (config := { maxSteps := 1000000 }) (disch := omega) only [↓sh, ↓sh2, ↓reduceIte, sx, sl, sb, st, nbeq_ne, dle, relo_eq, wrap_i64, Nat.reduceBEq, Nat.reduceLT, Nat.reduceLeDiff, Nat.reduceAdd, Nat.reduceMul, Nat.reduceEqDiff, Int.reduceEq, Int.reduceLT, Int.reduceLE, Int.reduceNeg, Int.reduceToNat, Bool.false_eq_true, eq_self, sa, valV, Option.getD_none, Option.isSome_none, *])
    all_goals first
      | (first | (with_reducible exact sameW) | ((with_reducible show _ ∧ _); exact ⟨by first | rfl | (simp [*] <;> omega), sameW⟩))
      | contradiction
  | some v =>
    by_cases hk : v.kind = 2
    · have e : leadsB ks w = decide (v.x ∈ ks) := by unfold leadsB; rw [hd]; exact if_pos hk
      repeat' (first | refine boolP_dec (fun _ => ?_) (fun _ => ?_) | apply boolP_not | refine boolP_b (fun _ => ?_) (fun _ => ?_) | refine wps_draw (id := 2) [Fx, Fx, Fx, Fx, Fx, Fx, Fx, Fx, Fx, Fx, Fx, Fx, Fx, Fx, Fx, Fx, Fx] (by kernel_rfl) ?_ | ((with_reducible show CallA _ _ _ _ _); refine call_ko (H0 := H) koW (vdec_ok _ loW w hw) ?_; intro H2 k2 l2 n2 g2 q2; try simp (disch := omega) only [sm, sl] at l2 n2 g2 q2) | ((with_reducible show Qs _ _ _ _ _); first | refine hQe _ _ _ _ ?_ | refine hQr _ _ _ ?_) | simp (config := { maxSteps := 1000000 }) (disch := omega) only [↓sh, ↓sh2, ↓reduceIte, sx, sl, sb, st, nbeq_ne, dle, relo_eq, wrap_i64, Nat.reduceBEq, Nat.reduceLT, Nat.reduceLeDiff, Nat.reduceAdd, Nat.reduceMul, Nat.reduceEqDiff, Int.reduceEq, Int.reduceLT, Int.reduceLE, Int.reduceNeg, Int.reduceToNat, Bool.false_eq_true, eq_self, sa, valV, Option.getD_some, Option.isSome_some, lk_108, lkG_ks, *])
      all_goals first
        | (first | (with_reducible exact sameW) | ((with_reducible show _ ∧ _); exact ⟨by first | rfl | (simp [*] <;> omega), sameW⟩))
        | contradiction
    · have e : leadsB ks w = true := by unfold leadsB; rw [hd]; exact if_neg hk
      repeat' (first | refine boolP_dec (fun _ => ?_) (fun _ => ?_) | apply boolP_not | refine boolP_b (fun _ => ?_) (fun _ => ?_) | refine wps_draw (id := 2) [Fx, Fx, Fx, Fx, Fx, Fx, Fx, Fx, Fx, Fx, Fx, Fx, Fx, Fx, Fx, Fx, Fx] (by kernel_rfl) ?_ | ((with_reducible show CallA _ _ _ _ _); refine call_ko (H0 := H) koW (vdec_ok _ loW w hw) ?_; intro H2 k2 l2 n2 g2 q2; try simp (disch := omega) only [sm, sl] at l2 n2 g2 q2) | ((with_reducible show Qs _ _ _ _ _); first | refine hQe _ _ _ _ ?_ | refine hQr _ _ _ ?_) | simp (config := { maxSteps := 1000000 }) (disch := omega) only [↓sh, ↓sh2, ↓reduceIte, sx, sl, sb, st, nbeq_ne, dle, relo_eq, wrap_i64, Nat.reduceBEq, Nat.reduceLT, Nat.reduceLeDiff, Nat.reduceAdd, Nat.reduceMul, Nat.reduceEqDiff, Int.reduceEq, Int.reduceLT, Int.reduceLE, Int.reduceNeg, Int.reduceToNat, Bool.false_eq_true, eq_self, sa, valV, Option.getD_some, Option.isSome_some, *])
      all_goals first
        | (first | (with_reducible exact sameW) | ((with_reducible show _ ∧ _); exact ⟨by first | rfl | (simp [*] <;> omega), sameW⟩))
        | contradiction
def slotOk (s : Slot) : Bool := (decV s.word).isSome && (goodG s.gen || (!s.used && decide (s.gen = 1099511627776))) && (s.used || decide ((s.word : Int) = 0))
def rrightB (l : List Slot) (n : Int) : Bool := l.all slotOk && decide ((l.length : Int) = n ∧ 1 ≤ n ∧ n ≤ 1024)
theorem fn111 : E.fn.get 111 = some Tryz.f111 := by kernel_rfl
theorem rright_ok (H : Heap) (hlo : H.lo ≤ H.next) (v : Value) (l : List Slot) (hv : SL RSlot 3 H v l) (hu : ∀ s ∈ l, s.word < 2 ^ 64) (n : Int) : CallA E (fnv 111) [v, .int .i64 n] H fun r H' => r = .bool (rrightB l n) ∧ Same H H' := by
  obtain ⟨a, ca, rfl, ⟨_, hma⟩, hla⟩ := hv
  refine callA_fn (by kernel_rfl) fn111 rfl rfl ?_
  simp only [Tryz.f111]
  repeat' (first | refine boolP_dec (fun _ => ?_) (fun _ => ?_) | apply boolP_not | refine boolP_b (fun _ => ?_) (fun _ => ?_) | ((with_reducible show Qs _ _ _ _ _); first | refine hQe _ _ _ _ ?_ | refine hQr _ _ _ ?_) | simp (config := { maxSteps := 1000000 }) (disch := omega) only [↓sh, ↓sh2, ↓reduceIte, sx, sl, sb, st, nbeq_ne, dle, relo_eq, wrap_i64, Nat.reduceBEq, Nat.reduceLT, Nat.reduceLeDiff, Nat.reduceAdd, Nat.reduceMul, Nat.reduceEqDiff, Int.reduceEq, Int.reduceLT, Int.reduceLE, Int.reduceNeg, Int.reduceToNat, Bool.false_eq_true, eq_self, sa, *])
  refine wps_named2 (fun T1 H1 eT eH => ?_)
  have k1 : Ko H H1 := by rw [eH]; exact koW
  have n1 := congrArg Heap.next eH; have l1 := congrArg Heap.lo eH; have g1 := fun r => congrArg (fun h : Heap => h.objs.get r) eH
  try simp (disch := omega) only [sm, sl] at n1 l1 g1
  clear eH
  have u1_0 := congrArg (fun T : Tr Value => T.get 0) eT
  have u1_1 := congrArg (fun T : Tr Value => T.get 1) eT
  have u1_10 := congrArg (fun T : Tr Value => T.get 10) eT
  have u1_11 := congrArg (fun T : Tr Value => T.get 11) eT
  have u1_12 := congrArg (fun T : Tr Value => T.get 12) eT
  simp only [get_set, of_nil, of_1, of_2, of_3, of_4, of_5, Nat.reduceEqDiff, if_true, if_false, reduceIte] at u1_0 u1_1 u1_10 u1_11 u1_12
  clear eT
  refine wp_loopN (by kernel_rfl) (fun nn T X => ∃ i : Nat, nn = l.length - i ∧ (T.get 12 = some (.int .i64 i)) ∧ (T.get 0 = T1.get 0 ∧ T.get 1 = T1.get 1 ∧ T.get 10 = T1.get 10 ∧ T.get 11 = T1.get 11) ∧ Ko H1 X ∧ X.lo = H1.lo ∧ (i ≤ l.length ∧ l.all slotOk = (l.drop i).all slotOk)) ?_ ?_
  · refine ⟨_, 0, rfl, ?_, ?_, Ko.refl _, rfl, ⟨Nat.zero_le _, rfl⟩⟩ <;> exact nextW
  rintro nn T1' X1 ⟨i, rfl, m1, w1, kx1, lx1, ⟨hi, hE⟩⟩ Qs hQ hQr hQe
  have kX1 := k1.trans kx1; have nx1 := kx1.nxt; have gx1 := kx1.objs
  by_cases hlt : i < l.length
  · obtain ⟨r, o, cells, gg, tt, part, rfl, hr, hrow, hcut, rfl⟩ := hla i l[i] (by simp)
    have a1 := at_nat hlt
    have e1 := kX1.objs r hr
    have hw := hu l[i] (by simp)
    rw [List.drop_eq_getElem_cons hlt, List.all_cons] at hE
    unfold slotC at hcut
    have hnext : slotOk l[i] = true → l.all slotOk = (l.drop (i + 1)).all slotOk := fun h => by rw [hE, h, Bool.true_and]
    have hbad : slotOk l[i] = false → rrightB l n = false := fun h => by unfold rrightB; rw [hE, h]; rfl
    cases hd : (decV l[i].word).isSome with
    | false =>
      have hb := hbad (by unfold slotOk; rw [hd]; rfl)
      repeat' (first | refine boolP_dec (fun _ => ?_) (fun _ => ?_) | apply boolP_not | refine boolP_b (fun _ => ?_) (fun _ => ?_) | ((with_reducible show CallA _ _ _ _ _); refine call_ko (H0 := H1) koW (vdec_ok _ loW l[i].word hw) ?_; intro H2 k2 l2 n2 g2 q2; try simp (disch := omega) only [sm, sl] at l2 n2 g2 q2) | ((with_reducible show Qs _ _ _ _ _); first | refine hQe _ _ _ _ ?_ | refine hQr _ _ _ ?_) | simp (config := { maxSteps := 1000000 }) (disch := omega) only [↓sh, ↓sh2, ↓reduceIte, sx, sl, sb, st, nbeq_ne, dle, relo_eq, wrap_i64, Nat.reduceBEq, Nat.reduceLT, Nat.reduceLeDiff, Nat.reduceAdd, Nat.reduceMul, Nat.reduceEqDiff, Int.reduceEq, Int.reduceLT, Int.reduceLE, Int.reduceNeg, Int.reduceToNat, Bool.false_eq_true, eq_self, sa, valV, *])
      all_goals try omega
      all_goals first
        | exact ⟨rfl, sameW⟩
        | exact sameW
    | true =>
      cases hg : goodG l[i].gen <;> cases hus : l[i].used <;> cases hgen : decide (l[i].gen = 1099511627776) <;> cases hw0 : decide ((l[i].word : Int) = 0)
      all_goals
        have hs : slotOk l[i] = _ := (by unfold slotOk; rw [hd, hg, hus, hgen, hw0])
        repeat' (first | refine boolP_dec (fun _ => ?_) (fun _ => ?_) | apply boolP_not | refine boolP_b (fun _ => ?_) (fun _ => ?_) | ((with_reducible show CallA _ _ _ _ _); (first | refine call_ko (H0 := H1) koW (vdec_ok _ loW l[i].word hw) ?_ | refine call_ko (H0 := H1) koW (rgood_ok _ loW _ _ _) ?_); intro H2 k2 l2 n2 g2 q2; try simp (disch := omega) only [sm, sl] at l2 n2 g2 q2) | ((with_reducible show Qs _ _ _ _ _); first | refine hQe _ _ _ _ ?_ | refine hQr _ _ _ ?_) | simp (config := { maxSteps := 1000000 }) (disch := omega) only [↓sh, ↓sh2, ↓reduceIte, sx, sl, sb, st, nbeq_ne, dle, relo_eq, wrap_i64, Nat.reduceBEq, Nat.reduceLT, Nat.reduceLeDiff, Nat.reduceAdd, Nat.reduceMul, Nat.reduceEqDiff, Int.reduceEq, Int.reduceLT, Int.reduceLE, Int.reduceNeg, Int.reduceToNat, Bool.false_eq_true, eq_self, sa, valV, *])
        all_goals try omega
      all_goals first
        | (have hb := hbad hs; rw [hb]; exact ⟨rfl, sameW⟩)
        | (refine hQ _ _ _ ?_ ⟨i + 1, rfl, ?_, ?_, ?_, ?_, ⟨by omega, hnext hs⟩⟩ <;> exact nextW)
  · have hall : l.all slotOk = true := by rw [hE, List.drop_eq_nil_of_le (by omega)]; rfl
    have hR : rrightB l n = decide ((l.length : Int) = n ∧ 1 ≤ n ∧ n ≤ 1024) := by unfold rrightB; rw [hall]; rfl
    repeat' (first | refine boolP_dec (fun _ => ?_) (fun _ => ?_) | apply boolP_not | refine boolP_b (fun _ => ?_) (fun _ => ?_) | ((with_reducible show Qs _ _ _ _ _); first | refine hQe _ _ _ _ ?_ | refine hQr _ _ _ ?_) | simp (config := { maxSteps := 1000000 }) (disch := omega) only [↓sh, ↓sh2, ↓reduceIte, sx, sl, sb, st, nbeq_ne, dle, relo_eq, wrap_i64, Nat.reduceBEq, Nat.reduceLT, Nat.reduceLeDiff, Nat.reduceAdd, Nat.reduceMul, Nat.reduceEqDiff, Int.reduceEq, Int.reduceLT, Int.reduceLE, Int.reduceNeg, Int.reduceToNat, Bool.false_eq_true, eq_self, sa, *])
    all_goals try omega
    all_goals first
      | exact sameW
      | exact ⟨by simp, sameW⟩
end Go.AM
