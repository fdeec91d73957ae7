/-
  Walks over letters of the functions that the law reaches.
-/
import Derived.Test.YtbkhcbddbefepaaGreatC16
namespace Go.AM
attribute [local instance] fnMaps
open Go Go.Proofs
set_option maxRecDepth 100000
set_option maxHeartbeats 1000000
set_option linter.unusedSimpArgs false
def largeB (s : St) (x : Span) : Bool := decide (headE s.words x.at' = 0) && decide (sizeH (headAt s.words x.at') = x.size) && quietB (headAt s.words x.at') && !decide (s.cfg.Small x.size)
def largesB (s : St) : Bool := rightB s.cfg.big s.table s.free && s.table.all (largeB s)
theorem SLr.ko {α : Type} {R : Heap → List Value → α → Prop} (hR : Mono R) {z : Nat} {H X : Heap} {v : Value} {l : List α} (h : SLr R z H v l) (k : Ko H X) : SLr R z X v l :=
  ⟨h.1.ext hR k.ext, fun a n c ee => (h.2 a n c ee).elim .inl fun ⟨r, cells, g, t, h1, h2, h3⟩ => .inr ⟨r, cells, g, t, h1, Nat.lt_of_lt_of_le h2 k.nxt, (k.objs r h2).trans h3⟩⟩
def addK (ks : List Int) (x : Span) : List Int := insK ks x.at'
theorem fn80 : E.fn.get 80 = some Tryz.f80 := by kernel_rfl
theorem slarges_ok (H : Heap) (hlo : H.lo ≤ H.next) {lp a rw m : Nat} {s : St} {w t f zl smv : Value} {sml ks : List Int} (hk : Lk H lp s w t f zl a rw m smv sml ks) (hl : lp < H.next) (hS : StS H s w t f zl) (hmlo : H.lo ≤ m) (htl : s.table.length ≤ 100000) : CallA E (fnv 80) [ptr lp 0] H fun r H' => r = .bool (largesB s) ∧ KoB m H H' ∧ H'.lo = H.lo ∧ (largesB s = true → H'.objs.get m = some (.map (esK (s.table.foldl addK ks)))) := by
  have hrow := hk.row
  have hA := hk.ar
  have hm := hk.map
  have hlm := hk.lm
  have htb := hS.t
  have hfr := hS.f
  have la := hA.la; have lw := hA.lw
  have ne1 : lp ≠ m := fun e => by rw [e, hm] at hrow; cases hrow
  have ne2 : a ≠ m := fun e => by have := hA.box; rw [e, hm] at this; cases this
  have ne3 : rw ≠ m := fun e => by have := hA.row; rw [e, hm] at this; cases this
  unfold lkC at hrow
  refine callA_fn (by kernel_rfl) fn80 rfl rfl ?_
  simp only [Tryz.f80]
  cases hR : rightB s.cfg.big s.table s.free with
  | false =>
    have hn : largesB s = false := by unfold largesB; rw [hR]; rfl
    repeat' (first | refine boolP_dec (fun _ => ?_) (fun _ => ?_) | apply boolP_not | refine boolP_b (fun _ => ?_) (fun _ => ?_) | refine wps_draw (id := 1) [Fx, Fx, Fx, Fx, Fx, Tx, Fx, Fx, Fx, Fx, Fx, Fx, Fx, Fx, Fx, Fx, Fx, Fx] (by kernel_rfl) ?_ | refine wps_draw (id := 6) [Fx, Fx, Fx, Fx, Fx, Fx, Fx, Fx, Fx, Fx, Fx, Fx, Fx] (by kernel_rfl) ?_ | refine wps_draw (id := 7) [Fx, Fx, Fx, Fx, Tx, Fx, Fx, Fx, Fx, Fx, Fx, Fx, Fx, Fx, Fx, Fx, Fx, Fx, Fx, Fx, Fx, Fx, Fx, Fx] (by kernel_rfl) ?_ | refine wps_draw (id := 9) [Fx, Fx, Fx, Fx, Fx, Fx, Fx] (by kernel_rfl) ?_ | ((with_reducible show CallA _ _ _ _ _); (first | refine call_ko (H0 := H) koW (llarge_ok _ loW s.cfg) ?_ | refine call_ko (H0 := H) koW (lright_ok _ loW s.cfg.big _ f s.table s.free (htb.ko RSpan.mono koW) (hfr.ko RSpan.mono koW) htl) ?_); intro H2 k2 l2 n2 g2 q2; try simp (disch := omega) only [sm, sl] at l2 n2 g2 q2) | ((with_reducible show Qs _ _ _ _ _); first | refine hQe _ _ _ _ ?_ | refine hQr _ _ _ ?_) | simp (config := { maxSteps := 1000000 }) (disch := omega) only [↓sh, ↓sh2, ↓reduceIte, sx, sl, sb, st, nbeq_ne, dle, relo_eq, wrap_i64, Nat.reduceBEq, Nat.reduceLT, Nat.reduceLeDiff, Nat.reduceAdd, Nat.reduceMul, Nat.reduceEqDiff, Int.reduceEq, Int.reduceLT, Int.reduceLE, Int.reduceNeg, Int.reduceToNat, Bool.false_eq_true, eq_self, sa, *])
    exact ⟨Ko.kob koW m, False.elim⟩
  | true =>
    have hled : ledB s.cfg.big none s.table = true := by unfold rightB at hR; rw [Bool.and_eq_true] at hR; exact hR.1
    obtain ⟨hin, -, -⟩ := ledB_all hled
    have hT : largesB s = s.table.all (largeB s) := by unfold largesB; rw [hR]; rfl
    have htb0 := htb
    obtain ⟨⟨ta, tc, rfl, ⟨_, htm⟩, htl2⟩, -⟩ := htb0
    repeat' (first | refine boolP_dec (fun _ => ?_) (fun _ => ?_) | apply boolP_not | refine boolP_b (fun _ => ?_) (fun _ => ?_) | refine wps_draw (id := 1) [Fx, Fx, Fx, Fx, Fx, Tx, Fx, Fx, Fx, Fx, Fx, Fx, Fx, Fx, Fx, Fx, Fx, Fx] (by kernel_rfl) ?_ | refine wps_draw (id := 6) [Fx, Fx, Fx, Fx, Fx, Fx, Fx, Fx, Fx, Fx, Fx, Fx, Fx] (by kernel_rfl) ?_ | refine wps_draw (id := 7) [Fx, Fx, Fx, Fx, Tx, Fx, Fx, Fx, Fx, Fx, Fx, Fx, Fx, Fx, Fx, Fx, Fx, Fx, Fx, Fx, Fx, Fx, Fx, Fx] (by kernel_rfl) ?_ | refine wps_draw (id := 9) [Fx, Fx, Fx, Fx, Fx, Fx, Fx] (by kernel_rfl) ?_ | ((with_reducible show CallA _ _ _ _ _); (first | refine call_ko (H0 := H) koW (llarge_ok _ loW s.cfg) ?_ | refine call_ko (H0 := H) koW (lright_ok _ loW s.cfg.big _ f s.table s.free (htb.ko RSpan.mono koW) (hfr.ko RSpan.mono koW) htl) ?_); intro H2 k2 l2 n2 g2 q2; try simp (disch := omega) only [sm, sl] at l2 n2 g2 q2) | ((with_reducible show Qs _ _ _ _ _); first | refine hQe _ _ _ _ ?_ | refine hQr _ _ _ ?_) | simp (config := { maxSteps := 1000000 }) (disch := omega) only [↓sh, ↓sh2, ↓reduceIte, sx, sl, sb, st, nbeq_ne, dle, relo_eq, wrap_i64, Nat.reduceBEq, Nat.reduceLT, Nat.reduceLeDiff, Nat.reduceAdd, Nat.reduceMul, Nat.reduceEqDiff, Int.reduceEq, Int.reduceLT, Int.reduceLE, Int.reduceNeg, Int.reduceToNat, Bool.false_eq_true, eq_self, sa, *])
    refine wps_named2 (fun T1 H1 eT eH => ?_)
    have k1 : Ko H H1 := by rw [eH]; exact koW
    have l1 : H1.lo = H.lo := by rw [eH]; simp (config := { maxSteps := 1000000 }) (disch := omega) only [↓sh, ↓sh2, ↓reduceIte, sx, sl, sb, st, nbeq_ne, dle, relo_eq, wrap_i64, Nat.reduceBEq, Nat.reduceLT, Nat.reduceLeDiff, Nat.reduceAdd, Nat.reduceMul, Nat.reduceEqDiff, Int.reduceEq, Int.reduceLT, Int.reduceLE, Int.reduceNeg, Int.reduceToNat, Bool.false_eq_true, eq_self, sa, *]
    have t29 : T1.get 29 = some (.slice ta s.table.length tc) := by rw [eT]; simp (config := { maxSteps := 1000000 }) (disch := omega) only [↓sh, ↓sh2, ↓reduceIte, sx, sl, sb, st, nbeq_ne, dle, relo_eq, wrap_i64, Nat.reduceBEq, Nat.reduceLT, Nat.reduceLeDiff, Nat.reduceAdd, Nat.reduceMul, Nat.reduceEqDiff, Int.reduceEq, Int.reduceLT, Int.reduceLE, Int.reduceNeg, Int.reduceToNat, Bool.false_eq_true, eq_self]
    have t30 : T1.get 30 = some (.int .i64 s.table.length) := by rw [eT]; simp (config := { maxSteps := 1000000 }) (disch := omega) only [↓sh, ↓sh2, ↓reduceIte, sx, sl, sb, st, nbeq_ne, dle, relo_eq, wrap_i64, Nat.reduceBEq, Nat.reduceLT, Nat.reduceLeDiff, Nat.reduceAdd, Nat.reduceMul, Nat.reduceEqDiff, Int.reduceEq, Int.reduceLT, Int.reduceLE, Int.reduceNeg, Int.reduceToNat, Bool.false_eq_true, eq_self]
    have t31 : T1.get 31 = some (.int .i64 0) := by rw [eT]; simp (config := { maxSteps := 1000000 }) (disch := omega) only [↓sh, ↓sh2, ↓reduceIte, sx, sl, sb, st, nbeq_ne, dle, relo_eq, wrap_i64, Nat.reduceBEq, Nat.reduceLT, Nat.reduceLeDiff, Nat.reduceAdd, Nat.reduceMul, Nat.reduceEqDiff, Int.reduceEq, Int.reduceLT, Int.reduceLE, Int.reduceNeg, Int.reduceToNat, Bool.false_eq_true, eq_self]
    have t0 : T1.get 0 = some (ptr lp 0) := by rw [eT]; simp (config := { maxSteps := 1000000 }) (disch := omega) only [↓sh, ↓sh2, ↓reduceIte, sx, sl, sb, st, nbeq_ne, dle, relo_eq, wrap_i64, Nat.reduceBEq, Nat.reduceLT, Nat.reduceLeDiff, Nat.reduceAdd, Nat.reduceMul, Nat.reduceEqDiff, Int.reduceEq, Int.reduceLT, Int.reduceLE, Int.reduceNeg, Int.reduceToNat, Bool.false_eq_true, eq_self]
    clear eT eH
    refine wp_loopN (by kernel_rfl) (fun nn T X => ∃ i : Nat, nn = s.table.length - i ∧ i ≤ s.table.length ∧ T.get 31 = some (.int .i64 i) ∧ T.get 29 = some (.slice ta s.table.length tc) ∧ T.get 30 = some (.int .i64 s.table.length) ∧ T.get 0 = some (ptr lp 0) ∧
      X.objs.get m = some (.map (esK ((s.table.take i).foldl addK ks))) ∧ KoB m H X ∧ X.lo = H.lo ∧ s.table.all (largeB s) = (s.table.drop i).all (largeB s)) ⟨_, 0, rfl, Nat.zero_le _, t31, t29, t30, t0, (k1.objs m hlm).trans hm, k1.kob m, l1, rfl⟩ ?_
    rintro nn T X ⟨i, rfl, hi, u31, u29, u30, u0, mX, bX, lX, hE⟩ Qs hQ hQr hQe
    have nX := bX.nxt
    have rX := (bX.objs lp hl ne1).trans hrow
    have AX := hA.kob bX ne2 ne3
    have lmX : m < X.next := by omega
    have hll : lp < X.next := by omega
    by_cases hlt : i < s.table.length
    · obtain ⟨r, o, cells, gg, tt, part, rfl, hr, hrw, hcut, rfl⟩ := htl2 i s.table[i] (by simp)
      have hrm : r ≠ m := fun e => by rw [e, hm] at hrw; cases hrw
      have e1 := (bX.objs r hr hrm).trans hrw
      have lr : r < X.next := by omega
      have a1 := at_nat hlt
      have hx := hin s.table[i] (by simp)
      have hx' := hx.1
      unfold May at hx'
      have hxb : -9223372036854775808 ≤ s.table[i].at' ∧ s.table[i].at' ≤ 9223372036854775807 := by omega
      rw [List.drop_eq_getElem_cons hlt, List.all_cons] at hE
      cases hh : decide (headE s.words s.table[i].at' = 0) with
      | false =>
        have hn : s.table.all (largeB s) = false := by rw [hE, largeB, hh]; rfl
        clear hE
        simp only [decide_eq_false_iff_not] at hh
        repeat' (first | refine boolP_dec (fun _ => ?_) (fun _ => ?_) | apply boolP_not | refine boolP_b (fun _ => ?_) (fun _ => ?_) | refine wps_draw (id := 1) [Fx, Fx, Fx, Fx, Fx, Tx, Fx, Fx, Fx, Fx, Fx, Fx, Fx, Fx, Fx, Fx, Fx, Fx] (by kernel_rfl) ?_ | refine wps_draw (id := 6) [Fx, Fx, Fx, Fx, Fx, Fx, Fx, Fx, Fx, Fx, Fx, Fx, Fx] (by kernel_rfl) ?_ | refine wps_draw (id := 7) [Fx, Fx, Fx, Fx, Tx, Fx, Fx, Fx, Fx, Fx, Fx, Fx, Fx, Fx, Fx, Fx, Fx, Fx, Fx, Fx, Fx, Fx, Fx, Fx] (by kernel_rfl) ?_ | refine wps_draw (id := 9) [Fx, Fx, Fx, Fx, Fx, Fx, Fx] (by kernel_rfl) ?_ | ((with_reducible show CallA _ _ _ _ _); refine call_ko (H0 := X) koW (ohead_ok _ loW (AX.same koW) s.table[i].at' hxb) ?_; intro H2 k2 l2 n2 g2 q2; try simp (disch := omega) only [sm, sl] at l2 n2 g2 q2) | ((with_reducible show Qs _ _ _ _ _); first | refine hQe _ _ _ _ ?_ | refine hQr _ _ _ ?_) | simp (config := { maxSteps := 1000000 }) (disch := omega) only [↓sh, ↓sh2, ↓reduceIte, sx, sl, sb, st, nbeq_ne, dle, relo_eq, wrap_i64, Nat.reduceBEq, Nat.reduceLT, Nat.reduceLeDiff, Nat.reduceAdd, Nat.reduceMul, Nat.reduceEqDiff, Int.reduceEq, Int.reduceLT, Int.reduceLE, Int.reduceNeg, Int.reduceToNat, Bool.false_eq_true, eq_self, sa, hdV, *])
        all_goals try contradiction
        all_goals try omega
        exact ⟨bX.ko koW, False.elim⟩
      | true =>
        have hz : headE s.words s.table[i].at' = 0 := of_decide_eq_true hh
        cases hsz : decide (sizeH (headAt s.words s.table[i].at') = s.table[i].size) with
        | false =>
          have hn : s.table.all (largeB s) = false := by rw [hE, largeB, hh, hsz]; rfl
          clear hE
          repeat' (first | refine boolP_dec (fun _ => ?_) (fun _ => ?_) | apply boolP_not | refine boolP_b (fun _ => ?_) (fun _ => ?_) | refine wps_draw (id := 1) [Fx, Fx, Fx, Fx, Fx, Tx, Fx, Fx, Fx, Fx, Fx, Fx, Fx, Fx, Fx, Fx, Fx, Fx] (by kernel_rfl) ?_ | refine wps_draw (id := 6) [Fx, Fx, Fx, Fx, Fx, Fx, Fx, Fx, Fx, Fx, Fx, Fx, Fx] (by kernel_rfl) ?_ | refine wps_draw (id := 7) [Fx, Fx, Fx, Fx, Tx, Fx, Fx, Fx, Fx, Fx, Fx, Fx, Fx, Fx, Fx, Fx, Fx, Fx, Fx, Fx, Fx, Fx, Fx, Fx] (by kernel_rfl) ?_ | refine wps_draw (id := 9) [Fx, Fx, Fx, Fx, Fx, Fx, Fx] (by kernel_rfl) ?_ | ((with_reducible show CallA _ _ _ _ _); (first | refine call_ko (H0 := X) koW (ohead_ok _ loW (AX.same koW) s.table[i].at' hxb) ?_ | refine call_ko (H0 := X) koW (hsize_ok _ loW (headAt s.words s.table[i].at')) ?_); intro H2 k2 l2 n2 g2 q2; try simp (disch := omega) only [sm, sl] at l2 n2 g2 q2) | ((with_reducible show Qs _ _ _ _ _); first | refine hQe _ _ _ _ ?_ | refine hQr _ _ _ ?_) | simp (config := { maxSteps := 1000000 }) (disch := omega) only [↓sh, ↓sh2, ↓reduceIte, sx, sl, sb, st, nbeq_ne, dle, relo_eq, wrap_i64, Nat.reduceBEq, Nat.reduceLT, Nat.reduceLeDiff, Nat.reduceAdd, Nat.reduceMul, Nat.reduceEqDiff, Int.reduceEq, Int.reduceLT, Int.reduceLE, Int.reduceNeg, Int.reduceToNat, Bool.false_eq_true, eq_self, sa, hdV, *])
          all_goals try contradiction
          all_goals try omega
          exact ⟨bX.ko koW, False.elim⟩
        | true =>
          have hsz' : sizeH (headAt s.words s.table[i].at') = s.table[i].size := of_decide_eq_true hsz
          cases hq : quietB (headAt s.words s.table[i].at') with
          | false =>
            have hn : s.table.all (largeB s) = false := by rw [hE, largeB, hh, hsz, hq]; rfl
            clear hE
            repeat' (first | refine boolP_dec (fun _ => ?_) (fun _ => ?_) | apply boolP_not | refine boolP_b (fun _ => ?_) (fun _ => ?_) | refine wps_draw (id := 1) [Fx, Fx, Fx, Fx, Fx, Tx, Fx, Fx, Fx, Fx, Fx, Fx, Fx, Fx, Fx, Fx, Fx, Fx] (by kernel_rfl) ?_ | refine wps_draw (id := 6) [Fx, Fx, Fx, Fx, Fx, Fx, Fx, Fx, Fx, Fx, Fx, Fx, Fx] (by kernel_rfl) ?_ | refine wps_draw (id := 7) [Fx, Fx, Fx, Fx, Tx, Fx, Fx, Fx, Fx, Fx, Fx, Fx, Fx, Fx, Fx, Fx, Fx, Fx, Fx, Fx, Fx, Fx, Fx, Fx] (by kernel_rfl) ?_ | refine wps_draw (id := 9) [Fx, Fx, Fx, Fx, Fx, Fx, Fx] (by kernel_rfl) ?_ | ((with_reducible show CallA _ _ _ _ _); (first | refine call_ko (H0 := X) koW (ohead_ok _ loW (AX.same koW) s.table[i].at' hxb) ?_ | refine call_ko (H0 := X) koW (hsize_ok _ loW (headAt s.words s.table[i].at')) ?_ | refine call_ko (H0 := X) koW (quiet_ok _ loW (headAt s.words s.table[i].at')) ?_); intro H2 k2 l2 n2 g2 q2; try simp (disch := omega) only [sm, sl] at l2 n2 g2 q2) | ((with_reducible show Qs _ _ _ _ _); first | refine hQe _ _ _ _ ?_ | refine hQr _ _ _ ?_) | simp (config := { maxSteps := 1000000 }) (disch := omega) only [↓sh, ↓sh2, ↓reduceIte, sx, sl, sb, st, nbeq_ne, dle, relo_eq, wrap_i64, Nat.reduceBEq, Nat.reduceLT, Nat.reduceLeDiff, Nat.reduceAdd, Nat.reduceMul, Nat.reduceEqDiff, Int.reduceEq, Int.reduceLT, Int.reduceLE, Int.reduceNeg, Int.reduceToNat, Bool.false_eq_true, eq_self, sa, hdV, *])
            all_goals try contradiction
            all_goals try omega
            exact ⟨bX.ko koW, False.elim⟩
          | true =>
            by_cases hsm : s.cfg.Small s.table[i].size
            · have hn : s.table.all (largeB s) = false := by rw [hE, largeB, hh, hsz, hq, decide_eq_true hsm]; rfl
              clear hE
              repeat' (first | refine boolP_dec (fun _ => ?_) (fun _ => ?_) | apply boolP_not | refine boolP_b (fun _ => ?_) (fun _ => ?_) | refine wps_draw (id := 1) [Fx, Fx, Fx, Fx, Fx, Tx, Fx, Fx, Fx, Fx, Fx, Fx, Fx, Fx, Fx, Fx, Fx, Fx] (by kernel_rfl) ?_ | refine wps_draw (id := 6) [Fx, Fx, Fx, Fx, Fx, Fx, Fx, Fx, Fx, Fx, Fx, Fx, Fx] (by kernel_rfl) ?_ | refine wps_draw (id := 7) [Fx, Fx, Fx, Fx, Tx, Fx, Fx, Fx, Fx, Fx, Fx, Fx, Fx, Fx, Fx, Fx, Fx, Fx, Fx, Fx, Fx, Fx, Fx, Fx] (by kernel_rfl) ?_ | refine wps_draw (id := 9) [Fx, Fx, Fx, Fx, Fx, Fx, Fx] (by kernel_rfl) ?_ | ((with_reducible show CallA _ _ _ _ _); (first | refine call_ko (H0 := X) koW (ohead_ok _ loW (AX.same koW) s.table[i].at' hxb) ?_ | refine call_ko (H0 := X) koW (hsize_ok _ loW (headAt s.words s.table[i].at')) ?_ | refine call_ko (H0 := X) koW (quiet_ok _ loW (headAt s.words s.table[i].at')) ?_ | refine call_ko (H0 := X) koW (lsmall_ok _ loW s.cfg s.table[i].size) ?_); intro H2 k2 l2 n2 g2 q2; try simp (disch := omega) only [sm, sl] at l2 n2 g2 q2) | ((with_reducible show Qs _ _ _ _ _); first | refine hQe _ _ _ _ ?_ | refine hQr _ _ _ ?_) | simp (config := { maxSteps := 1000000 }) (disch := omega) only [↓sh, ↓sh2, ↓reduceIte, sx, sl, sb, st, nbeq_ne, dle, relo_eq, wrap_i64, Nat.reduceBEq, Nat.reduceLT, Nat.reduceLeDiff, Nat.reduceAdd, Nat.reduceMul, Nat.reduceEqDiff, Int.reduceEq, Int.reduceLT, Int.reduceLE, Int.reduceNeg, Int.reduceToNat, Bool.false_eq_true, eq_self, sa, hdV, *])
              all_goals try contradiction
              all_goals try omega
              exact ⟨bX.ko koW, False.elim⟩
            · have hn : s.table.all (largeB s) = (s.table.drop (i + 1)).all (largeB s) := by rw [hE, largeB, hh, hsz, hq, decide_eq_false hsm]; rfl
              clear hE
              repeat' (first | refine boolP_dec (fun _ => ?_) (fun _ => ?_) | apply boolP_not | refine boolP_b (fun _ => ?_) (fun _ => ?_) | refine wps_draw (id := 1) [Fx, Fx, Fx, Fx, Fx, Tx, Fx, Fx, Fx, Fx, Fx, Fx, Fx, Fx, Fx, Fx, Fx, Fx] (by kernel_rfl) ?_ | refine wps_draw (id := 6) [Fx, Fx, Fx, Fx, Fx, Fx, Fx, Fx, Fx, Fx, Fx, Fx, Fx] (by kernel_rfl) ?_ | refine wps_draw (id := 7) [Fx, Fx, Fx, Fx, Tx, Fx, Fx, Fx, Fx, Fx, Fx, Fx, Fx, Fx, Fx, Fx, Fx, Fx, Fx, Fx, Fx, Fx, Fx, Fx] (by kernel_rfl) ?_ | refine wps_draw (id := 9) [Fx, Fx, Fx, Fx, Fx, Fx, Fx] (by kernel_rfl) ?_ | ((with_reducible show CallA _ _ _ _ _); (first | refine call_ko (H0 := X) koW (ohead_ok _ loW (AX.same koW) s.table[i].at' hxb) ?_ | refine call_ko (H0 := X) koW (hsize_ok _ loW (headAt s.words s.table[i].at')) ?_ | refine call_ko (H0 := X) koW (quiet_ok _ loW (headAt s.words s.table[i].at')) ?_ | refine call_ko (H0 := X) koW (lsmall_ok _ loW s.cfg s.table[i].size) ?_); intro H2 k2 l2 n2 g2 q2; try simp (disch := omega) only [sm, sl] at l2 n2 g2 q2) | ((with_reducible show Qs _ _ _ _ _); first | refine hQe _ _ _ _ ?_ | refine hQr _ _ _ ?_) | simp (config := { maxSteps := 1000000 }) (disch := omega) only [↓sh, ↓sh2, ↓reduceIte, sx, sl, sb, st, nbeq_ne, dle, relo_eq, wrap_i64, Nat.reduceBEq, Nat.reduceLT, Nat.reduceLeDiff, Nat.reduceAdd, Nat.reduceMul, Nat.reduceEqDiff, Int.reduceEq, Int.reduceLT, Int.reduceLE, Int.reduceNeg, Int.reduceToNat, Bool.false_eq_true, eq_self, sa, hdV, mu_108, muG_ks, *])
              all_goals try contradiction
              all_goals try omega
              refine hQ _ _ _ ?_ ⟨i + 1, rfl, by omega, ?_, ?_, ?_, ?_, ?_, ((bX.ko k2).setAt _).ko ((Ko.refl _).relo _), ?_, hn⟩
              · omega
              iterate 4 exact nextW
              · rw [relo_objs, setO_get, nbeq_eq rfl, List.take_add_one, List.getElem?_eq_getElem hlt, List.foldl_append]; rfl
              · rw [relo_lo]
    · have hn : s.table.all (largeB s) = true := by rw [hE, List.drop_eq_nil_of_le (by omega)]; rfl
      clear hE
      repeat' (first | refine boolP_dec (fun _ => ?_) (fun _ => ?_) | apply boolP_not | refine boolP_b (fun _ => ?_) (fun _ => ?_) | refine wps_draw (id := 1) [Fx, Fx, Fx, Fx, Fx, Tx, Fx, Fx, Fx, Fx, Fx, Fx, Fx, Fx, Fx, Fx, Fx, Fx] (by kernel_rfl) ?_ | refine wps_draw (id := 6) [Fx, Fx, Fx, Fx, Fx, Fx, Fx, Fx, Fx, Fx, Fx, Fx, Fx] (by kernel_rfl) ?_ | refine wps_draw (id := 7) [Fx, Fx, Fx, Fx, Tx, Fx, Fx, Fx, Fx, Fx, Fx, Fx, Fx, Fx, Fx, Fx, Fx, Fx, Fx, Fx, Fx, Fx, Fx, Fx] (by kernel_rfl) ?_ | refine wps_draw (id := 9) [Fx, Fx, Fx, Fx, Fx, Fx, Fx] (by kernel_rfl) ?_ | ((with_reducible show Qs _ _ _ _ _); first | refine hQe _ _ _ _ ?_ | refine hQr _ _ _ ?_) | simp (config := { maxSteps := 1000000 }) (disch := omega) only [↓sh, ↓sh2, ↓reduceIte, sx, sl, sb, st, nbeq_ne, dle, relo_eq, wrap_i64, Nat.reduceBEq, Nat.reduceLT, Nat.reduceLeDiff, Nat.reduceAdd, Nat.reduceMul, Nat.reduceEqDiff, Int.reduceEq, Int.reduceLT, Int.reduceLE, Int.reduceNeg, Int.reduceToNat, Bool.false_eq_true, eq_self, sa, *])
      all_goals try omega
      rw [show i = s.table.length by omega, List.take_length]
      exact fun _ => rfl
end Go.AM
