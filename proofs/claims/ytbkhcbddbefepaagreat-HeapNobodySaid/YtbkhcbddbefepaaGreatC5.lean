/-
  Walks over letters of the functions that the law reaches.
-/
import Derived.Test.YtbkhcbddbefepaaGreatB8
import Derived.Test.YtbkhcbddbefepaaGreatAMc
namespace Go.AM
attribute [local instance] fnMaps
open Go Go.Proofs
set_option maxRecDepth 100000
set_option maxHeartbeats 1000000
set_option linter.unusedSimpArgs false
structure Stp where
  at' : Int
  h : Hd
  e : Int
  last : Bool
def stpV (s : Stp) : Value := .agg #[.int .i64 s.at', .int .i64 s.h.kind, .int .i64 s.h.fields, .int .i64 s.h.raws, .bool s.h.mark, .int .i64 s.h.cursor, .int .i64 s.e, .bool s.last]
def stepE (ws : List Nat) (top at' : Int) : Int := if headE ws at' = 0 ∧ top - at' < sizeH (headAt ws at') then 2 else headE ws at'
def stepsL (ws : List Nat) (top : Int) : Nat → Int → List Stp
  | 0, at' => [⟨at', zeroHd, 0, true⟩]
  | n + 1, at' => if at' < top then (if stepE ws top at' = 0 then ⟨at', headAt ws at', 0, false⟩ :: stepsL ws top n (at' + sizeH (headAt ws at')) else [⟨at', zeroHd, stepE ws top at', true⟩]) else [⟨at', zeroHd, 0, true⟩]
theorem sizeH_pos {ws : List Nat} {p : Int} (h : headE ws p = 0) : 1 ≤ sizeH (headAt ws p) := by
  obtain ⟨_, _, h3, _, _⟩ := headE_in h
  have := okH_in h3
  unfold sizeH
  rw [if_pos h3]
  omega
theorem stepE_0 {ws : List Nat} {top p : Int} (h : stepE ws top p = 0) : headE ws p = 0 ∧ sizeH (headAt ws p) ≤ top - p := by
  unfold stepE at h
  split at h
  · omega
  · rename_i hn; exact ⟨h, by omega⟩
theorem stepsL_more {ws : List Nat} {top : Int} : ∀ (n m : Nat) (p : Int), (top - p).toNat ≤ n → (top - p).toNat ≤ m → stepsL ws top n p = stepsL ws top m p
  | 0, 0, _, _, _ => rfl
  | 0, m + 1, p, h, _ => by rw [stepsL, stepsL, if_neg (by omega)]
  | n + 1, 0, p, _, h => by rw [stepsL, stepsL, if_neg (by omega)]
  | n + 1, m + 1, p, h, h' => by
    rw [stepsL, stepsL]
    by_cases h1 : p < top
    · rw [if_pos h1, if_pos h1]
      by_cases h2 : stepE ws top p = 0
      · have := sizeH_pos (stepE_0 h2).1
        rw [if_pos h2, if_pos h2, stepsL_more n m _ (by omega) (by omega)]
      · rw [if_neg h2, if_neg h2]
    · rw [if_neg h1, if_neg h1]
theorem Ar.base {H X : Heap} {ex : List Nat} {a rw g : Nat} {ws : List Nat} (h : Ar H a rw g ws) (b : RBase H ex X) (ha : a ∉ ex) (hr : rw ∉ ex) : Ar X a rw g ws :=
  ⟨(b.objs a h.la ha).trans h.box, (b.objs rw h.lw hr).trans h.row, (b.grps g h.lg).trans h.grp, by have := h.la; have := b.nxt; omega, by have := h.lw; have := b.nxt; omega, by have := h.lg; have := b.nxt; omega, h.ne, h.u64, h.len⟩
theorem meet_yield {α : Type} {enc : α → Value} {B : Nat} {exl : List Nat} {y : Value} {I : List α → Heap → Prop} {F : Heap → Prop} (hI : ∀ rest X X', I rest X → Pd B X X' → I rest X')
    (hy : ∀ v rest X, I (v :: rest) X → CallA E y [enc v] X fun r X' => (r = .bool true ∧ I rest X' ∧ Yd B exl X X') ∨ (r = .bool false ∧ F X')) {v : α} {rest : List α} {X Xc : Heap} {K : Value → Heap → Prop} (hi : I (v :: rest) X) (s : Same X Xc) (hn : B ≤ X.next)
    (kt : ∀ X', I rest X' → Yd B exl Xc X' → K (.bool true) X') (kf : ∀ X', F X' → K (.bool false) X') : CallA E y [enc v] Xc K := by
  refine (hy v rest Xc (hI _ _ _ hi (s.pd hn))).mono ?_
  rintro r X' (⟨rfl, h1, h2⟩ | ⟨rfl, h⟩)
  · exact kt X' h1 h2
  · exact kf X' h
theorem fn148 : E.fn.get 148 = some Tryz.f148 := by kernel_rfl
theorem walk_iter (H : Heap) (ex : List Nat) (hlo : H.lo ≤ H.next) (bS bT bA a rw g : Nat) (s : Span) (top : Int) (ws : List Nat) (hS : H.objs.get bS = some (.row [.int .i64 s.at', .int .i64 s.size] none true)) (hT : H.objs.get bT = some (.row [.int .i64 top] none true)) (hA : H.objs.get bA = some (.row [ptr a 0] none true)) (hAr : Ar H a rw g ws)
    (lS : bS < H.next) (lT : bT < H.next) (lA : bA < H.next) (nS : bS ∉ ex) (nT : bT ∉ ex) (nA : bA ∉ ex) (na : a ∉ ex) (nr : rw ∉ ex) (hex : ∀ x : Nat, x ∈ ex → x < H.next) (hs : 0 ≤ s.at' ∧ s.at' ≤ 1099511627776) (ht : s.at' ≤ top ∧ top ≤ 1099511627776)
    (y : Value) (I : List Stp → Heap → Prop) (F : Heap → Prop) (H1 : Heap) (sH : Same H H1) (hn1 : H1.next = H.next + 2) (hI : ∀ rest X X', I rest X → Pd (H.next + 2) X X' → I rest X') (hB : ∀ rest X, I rest X → RBase H ex X)
    (hy : ∀ v rest X, I (v :: rest) X → CallA E y [stpV v] X fun r X' => (r = .bool true ∧ I rest X' ∧ Yd (H.next + 2) ((H.next + 1) :: ex) X X') ∨ (r = .bool false ∧ F X'))
    (h0 : I (stepsL ws top (top - s.at').toNat s.at') H1) : CallA E (.func (.func 148) #[] #[ptr bS 0, ptr bT 0, ptr bA 0]) [y] H1 fun _ X => I [] X ∨ F X := by
  have rb1 := hB _ _ h0
  have e1 := (rb1.objs bS lS nS).trans hS
  refine callA_clo (by kernel_rfl) fn148 rfl rfl ?_
  simp only [Tryz.f148]
  repeat' (first | refine boolP_dec (fun _ => ?_) (fun _ => ?_) | apply boolP_not | refine boolP_b (fun _ => ?_) (fun _ => ?_) | refine wps_draw (id := 3) [Fx, Fx, Fx, Fx, Tx, Fx, Fx, Fx, Fx, Fx] (by kernel_rfl) ?_ | ((with_reducible show Qs _ _ _ _ _); first | refine hQe _ _ _ _ ?_ | refine hQr _ _ _ ?_) | simp (config := { maxSteps := 1000000 }) (disch := omega) only [↓sh, ↓sh2, ↓reduceIte, sx, sl, sb, st, nbeq_ne, dle, relo_eq, wrap_i64, Nat.reduceBEq, Nat.reduceLT, Nat.reduceLeDiff, Nat.reduceAdd, Nat.reduceMul, Nat.reduceEqDiff, Int.reduceEq, Int.reduceLT, Int.reduceLE, Int.reduceNeg, Int.reduceToNat, Bool.false_eq_true, eq_self, sa, List.nil_append, List.cons_append, *])
  refine wp_loopN (by kernel_rfl) (fun nn T X => ∃ p : Int, nn = (top - p).toNat ∧ T.get 5 = some (.int .i64 p) ∧ T.get 0 = some y ∧ T.get 2 = some (ptr bT 0) ∧ T.get 3 = some (ptr bA 0) ∧ s.at' ≤ p ∧ p ≤ 1099511627776 ∧ I (stepsL ws top (top - p).toNat p) X) ⟨_, s.at', rfl, by simp (config := { maxSteps := 1000000 }) (disch := omega) only [↓sh, ↓sh2, ↓reduceIte, sx, sl, sb, st, nbeq_ne, dle, relo_eq, wrap_i64, Nat.reduceBEq, Nat.reduceLT, Nat.reduceLeDiff, Nat.reduceAdd, Nat.reduceMul, Nat.reduceEqDiff, Int.reduceEq, Int.reduceLT, Int.reduceLE, Int.reduceNeg, Int.reduceToNat, Bool.false_eq_true, eq_self, sa, List.nil_append, List.cons_append], by simp (config := { maxSteps := 1000000 }) (disch := omega) only [↓sh, ↓sh2, ↓reduceIte, sx, sl, sb, st, nbeq_ne, dle, relo_eq, wrap_i64, Nat.reduceBEq, Nat.reduceLT, Nat.reduceLeDiff, Nat.reduceAdd, Nat.reduceMul, Nat.reduceEqDiff, Int.reduceEq, Int.reduceLT, Int.reduceLE, Int.reduceNeg, Int.reduceToNat, Bool.false_eq_true, eq_self, sa, List.nil_append, List.cons_append], by simp (config := { maxSteps := 1000000 }) (disch := omega) only [↓sh, ↓sh2, ↓reduceIte, sx, sl, sb, st, nbeq_ne, dle, relo_eq, wrap_i64, Nat.reduceBEq, Nat.reduceLT, Nat.reduceLeDiff, Nat.reduceAdd, Nat.reduceMul, Nat.reduceEqDiff, Int.reduceEq, Int.reduceLT, Int.reduceLE, Int.reduceNeg, Int.reduceToNat, Bool.false_eq_true, eq_self, sa, List.nil_append, List.cons_append], by simp (config := { maxSteps := 1000000 }) (disch := omega) only [↓sh, ↓sh2, ↓reduceIte, sx, sl, sb, st, nbeq_ne, dle, relo_eq, wrap_i64, Nat.reduceBEq, Nat.reduceLT, Nat.reduceLeDiff, Nat.reduceAdd, Nat.reduceMul, Nat.reduceEqDiff, Int.reduceEq, Int.reduceLT, Int.reduceLE, Int.reduceNeg, Int.reduceToNat, Bool.false_eq_true, eq_self, sa, List.nil_append, List.cons_append], by omega, by omega, h0⟩ ?_
  rintro nn T X ⟨p, rfl, t5, t0, t2, t3, hp, hp2, hi⟩ Qs hQ hQr hQe
  have rb := hB _ _ hi
  have l1 := rb.lo
  have n1 := rb.nxt
  have fT := (rb.objs bT lT nT).trans hT
  have fA := (rb.objs bA lA nA).trans hA
  have h := hAr.base rb na nr
  by_cases hlt : p < top
  · have hn : (top - p).toNat = (top - (p + 1)).toNat + 1 := by omega
    rw [hn, stepsL, if_pos hlt] at hi
    have hsz := sizeH_in (h := headAt ws p)
    repeat' (first | refine boolP_dec (fun _ => ?_) (fun _ => ?_) | apply boolP_not | refine boolP_b (fun _ => ?_) (fun _ => ?_) | refine wps_draw (id := 3) [Fx, Fx, Fx, Fx, Tx, Fx, Fx, Fx, Fx, Fx] (by kernel_rfl) ?_ | ((with_reducible show Qs _ _ _ _ _); first | refine hQe _ _ _ _ ?_ | refine hQr _ _ _ ?_) | simp (config := { maxSteps := 1000000 }) (disch := omega) only [↓sh, ↓sh2, ↓reduceIte, sx, sl, sb, st, nbeq_ne, dle, relo_eq, wrap_i64, Nat.reduceBEq, Nat.reduceLT, Nat.reduceLeDiff, Nat.reduceAdd, Nat.reduceMul, Nat.reduceEqDiff, Int.reduceEq, Int.reduceLT, Int.reduceLE, Int.reduceNeg, Int.reduceToNat, Bool.false_eq_true, eq_self, sa, *])
    refine call_ko (H0 := X) koW (ohead_ok _ loW h p (by omega)) ?_
    intro Ha ka la na ga qa
    repeat' (first | refine boolP_dec (fun _ => ?_) (fun _ => ?_) | apply boolP_not | refine boolP_b (fun _ => ?_) (fun _ => ?_) | refine wps_draw (id := 3) [Fx, Fx, Fx, Fx, Tx, Fx, Fx, Fx, Fx, Fx] (by kernel_rfl) ?_ | ((with_reducible show CallA _ _ _ _ _); refine call_ko (H0 := X) koW (hsize_ok _ loW (headAt ws p)) ?_; intro H2 k2 l2 n2 g2 q2; try simp (disch := omega) only [sm, sl] at l2 n2 g2 q2) | ((with_reducible show Qs _ _ _ _ _); first | refine hQe _ _ _ _ ?_ | refine hQr _ _ _ ?_) | simp (config := { maxSteps := 1000000 }) (disch := omega) only [↓sh, ↓sh2, ↓reduceIte, sx, sl, sb, st, nbeq_ne, dle, relo_eq, wrap_i64, Nat.reduceBEq, Nat.reduceLT, Nat.reduceLeDiff, Nat.reduceAdd, Nat.reduceMul, Nat.reduceEqDiff, Int.reduceEq, Int.reduceLT, Int.reduceLE, Int.reduceNeg, Int.reduceToNat, Bool.false_eq_true, eq_self, sa, hdV, *])
    · have he : stepE ws top p = 2 := by unfold stepE; rw [if_pos ⟨by assumption, by omega⟩]
      rw [if_neg (by omega), he] at hi
      refine meet_yield hI hy hi sameW n1 ?_ ?_
      · intro X' h1 h2
        repeat' (first | refine boolP_dec (fun _ => ?_) (fun _ => ?_) | apply boolP_not | refine boolP_b (fun _ => ?_) (fun _ => ?_) | refine wps_draw (id := 3) [Fx, Fx, Fx, Fx, Tx, Fx, Fx, Fx, Fx, Fx] (by kernel_rfl) ?_ | ((with_reducible show Qs _ _ _ _ _); first | refine hQe _ _ _ _ ?_ | refine hQr _ _ _ ?_) | simp (config := { maxSteps := 1000000 }) (disch := omega) only [↓sh, ↓sh2, ↓reduceIte, sx, sl, sb, st, nbeq_ne, dle, relo_eq, wrap_i64, Nat.reduceBEq, Nat.reduceLT, Nat.reduceLeDiff, Nat.reduceAdd, Nat.reduceMul, Nat.reduceEqDiff, Int.reduceEq, Int.reduceLT, Int.reduceLE, Int.reduceNeg, Int.reduceToNat, Bool.false_eq_true, eq_self, sa, *])
        exact .inl trivial
      · intro X' h1
        repeat' (first | refine boolP_dec (fun _ => ?_) (fun _ => ?_) | apply boolP_not | refine boolP_b (fun _ => ?_) (fun _ => ?_) | refine wps_draw (id := 3) [Fx, Fx, Fx, Fx, Tx, Fx, Fx, Fx, Fx, Fx] (by kernel_rfl) ?_ | ((with_reducible show Qs _ _ _ _ _); first | refine hQe _ _ _ _ ?_ | refine hQr _ _ _ ?_) | simp (config := { maxSteps := 1000000 }) (disch := omega) only [↓sh, ↓sh2, ↓reduceIte, sx, sl, sb, st, nbeq_ne, dle, relo_eq, wrap_i64, Nat.reduceBEq, Nat.reduceLT, Nat.reduceLeDiff, Nat.reduceAdd, Nat.reduceMul, Nat.reduceEqDiff, Int.reduceEq, Int.reduceLT, Int.reduceLE, Int.reduceNeg, Int.reduceToNat, Bool.false_eq_true, eq_self, sa, *])
        exact .inr trivial
    · have he : stepE ws top p = 0 := by unfold stepE; rw [if_neg (by omega)]; assumption
      rw [if_pos he] at hi
      refine meet_yield hI hy hi sameW n1 ?_ ?_
      · intro X' h1 h2
        have nb : Ha.next ∉ (H.next + 1) :: ex := fun hh => by
          rcases List.mem_cons.1 hh with hh | hh
          · omega
          · have := hex _ hh; omega
        have eb := h2.alone Ha.next _ true (by simp (disch := omega) only [setRow_get, newRow_get, newRow_next, setRow_next, newRow_lo, setRow_lo, newRow_grps, setRow_grps, newRow_relo, setRow_relo, relo_objs, relo_next, relo_lo, nbeq_ne, sl]; omega) nb (by simp (disch := omega) only [setRow_get, newRow_get, newRow_next, setRow_next, newRow_lo, setRow_lo, newRow_grps, setRow_grps, newRow_relo, setRow_relo, relo_objs, relo_next, relo_lo, nbeq_ne, sl, g2]; rfl)
        have l3 := h2.lo; have n3 := h2.nxt
        simp only [relo_next, relo_lo] at l3 n3
        clear h2
        repeat' (first | refine boolP_dec (fun _ => ?_) (fun _ => ?_) | apply boolP_not | refine boolP_b (fun _ => ?_) (fun _ => ?_) | refine wps_draw (id := 3) [Fx, Fx, Fx, Fx, Tx, Fx, Fx, Fx, Fx, Fx] (by kernel_rfl) ?_ | ((with_reducible show CallA _ _ _ _ _); refine call_ko (H0 := X') koW (hsize_ok _ loW (headAt ws p)) ?_; intro H2 k2 l2 n2 g2 q2; try simp (disch := omega) only [sm, sl] at l2 n2 g2 q2) | ((with_reducible show Qs _ _ _ _ _); first | refine hQe _ _ _ _ ?_ | refine hQr _ _ _ ?_) | simp (config := { maxSteps := 1000000 }) (disch := omega) only [↓sh, ↓sh2, ↓reduceIte, sx, sl, sb, st, nbeq_ne, dle, relo_eq, wrap_i64, Nat.reduceBEq, Nat.reduceLT, Nat.reduceLeDiff, Nat.reduceAdd, Nat.reduceMul, Nat.reduceEqDiff, Int.reduceEq, Int.reduceLT, Int.reduceLE, Int.reduceNeg, Int.reduceToNat, Bool.false_eq_true, eq_self, sa, hdV, *])
        have hs1 := sizeH_pos (stepE_0 he).1
        have hs2 := (stepE_0 he).2
        rw [stepsL_more _ (top - (p + sizeH (headAt ws p))).toNat _ (by omega) (Nat.le_refl _)] at h1
        refine hQ _ _ _ ?_ ⟨p + sizeH (headAt ws p), rfl, ?_, ?_, ?_, ?_, by omega, by omega, ?_⟩
        · omega
        iterate 4 exact nextW
        exact hI _ _ _ h1 (Same.pd sameW (by omega))
      · intro X' h1
        repeat' (first | refine boolP_dec (fun _ => ?_) (fun _ => ?_) | apply boolP_not | refine boolP_b (fun _ => ?_) (fun _ => ?_) | refine wps_draw (id := 3) [Fx, Fx, Fx, Fx, Tx, Fx, Fx, Fx, Fx, Fx] (by kernel_rfl) ?_ | ((with_reducible show Qs _ _ _ _ _); first | refine hQe _ _ _ _ ?_ | refine hQr _ _ _ ?_) | simp (config := { maxSteps := 1000000 }) (disch := omega) only [↓sh, ↓sh2, ↓reduceIte, sx, sl, sb, st, nbeq_ne, dle, relo_eq, wrap_i64, Nat.reduceBEq, Nat.reduceLT, Nat.reduceLeDiff, Nat.reduceAdd, Nat.reduceMul, Nat.reduceEqDiff, Int.reduceEq, Int.reduceLT, Int.reduceLE, Int.reduceNeg, Int.reduceToNat, Bool.false_eq_true, eq_self, sa, *])
        exact .inr trivial
    · have he : stepE ws top p = headE ws p := by unfold stepE; rw [if_neg (by omega)]
      rw [if_neg (by rw [he]; assumption), he] at hi
      refine meet_yield hI hy hi sameW n1 ?_ ?_
      · intro X' h1 h2
        repeat' (first | refine boolP_dec (fun _ => ?_) (fun _ => ?_) | apply boolP_not | refine boolP_b (fun _ => ?_) (fun _ => ?_) | refine wps_draw (id := 3) [Fx, Fx, Fx, Fx, Tx, Fx, Fx, Fx, Fx, Fx] (by kernel_rfl) ?_ | ((with_reducible show Qs _ _ _ _ _); first | refine hQe _ _ _ _ ?_ | refine hQr _ _ _ ?_) | simp (config := { maxSteps := 1000000 }) (disch := omega) only [↓sh, ↓sh2, ↓reduceIte, sx, sl, sb, st, nbeq_ne, dle, relo_eq, wrap_i64, Nat.reduceBEq, Nat.reduceLT, Nat.reduceLeDiff, Nat.reduceAdd, Nat.reduceMul, Nat.reduceEqDiff, Int.reduceEq, Int.reduceLT, Int.reduceLE, Int.reduceNeg, Int.reduceToNat, Bool.false_eq_true, eq_self, sa, *])
        exact .inl trivial
      · intro X' h1
        repeat' (first | refine boolP_dec (fun _ => ?_) (fun _ => ?_) | apply boolP_not | refine boolP_b (fun _ => ?_) (fun _ => ?_) | refine wps_draw (id := 3) [Fx, Fx, Fx, Fx, Tx, Fx, Fx, Fx, Fx, Fx] (by kernel_rfl) ?_ | ((with_reducible show Qs _ _ _ _ _); first | refine hQe _ _ _ _ ?_ | refine hQr _ _ _ ?_) | simp (config := { maxSteps := 1000000 }) (disch := omega) only [↓sh, ↓sh2, ↓reduceIte, sx, sl, sb, st, nbeq_ne, dle, relo_eq, wrap_i64, Nat.reduceBEq, Nat.reduceLT, Nat.reduceLeDiff, Nat.reduceAdd, Nat.reduceMul, Nat.reduceEqDiff, Int.reduceEq, Int.reduceLT, Int.reduceLE, Int.reduceNeg, Int.reduceToNat, Bool.false_eq_true, eq_self, sa, *])
        exact .inr trivial
  · repeat' (first | refine boolP_dec (fun _ => ?_) (fun _ => ?_) | apply boolP_not | refine boolP_b (fun _ => ?_) (fun _ => ?_) | refine wps_draw (id := 3) [Fx, Fx, Fx, Fx, Tx, Fx, Fx, Fx, Fx, Fx] (by kernel_rfl) ?_ | ((with_reducible show Qs _ _ _ _ _); first | refine hQe _ _ _ _ ?_ | refine hQr _ _ _ ?_) | simp (config := { maxSteps := 1000000 }) (disch := omega) only [↓sh, ↓sh2, ↓reduceIte, sx, sl, sb, st, nbeq_ne, dle, relo_eq, wrap_i64, Nat.reduceBEq, Nat.reduceLT, Nat.reduceLeDiff, Nat.reduceAdd, Nat.reduceMul, Nat.reduceEqDiff, Int.reduceEq, Int.reduceLT, Int.reduceLE, Int.reduceNeg, Int.reduceToNat, Bool.false_eq_true, eq_self, sa, *])
    rw [show (top - p).toNat = 0 by omega, stepsL] at hi
    refine meet_yield hI hy hi sameW n1 ?_ ?_
    · intro X' h1 h2
      repeat' (first | refine boolP_dec (fun _ => ?_) (fun _ => ?_) | apply boolP_not | refine boolP_b (fun _ => ?_) (fun _ => ?_) | refine wps_draw (id := 3) [Fx, Fx, Fx, Fx, Tx, Fx, Fx, Fx, Fx, Fx] (by kernel_rfl) ?_ | ((with_reducible show Qs _ _ _ _ _); first | refine hQe _ _ _ _ ?_ | refine hQr _ _ _ ?_) | simp (config := { maxSteps := 1000000 }) (disch := omega) only [↓sh, ↓sh2, ↓reduceIte, sx, sl, sb, st, nbeq_ne, dle, relo_eq, wrap_i64, Nat.reduceBEq, Nat.reduceLT, Nat.reduceLeDiff, Nat.reduceAdd, Nat.reduceMul, Nat.reduceEqDiff, Int.reduceEq, Int.reduceLT, Int.reduceLE, Int.reduceNeg, Int.reduceToNat, Bool.false_eq_true, eq_self, sa, *])
      exact .inl trivial
    · intro X' h1
      repeat' (first | refine boolP_dec (fun _ => ?_) (fun _ => ?_) | apply boolP_not | refine boolP_b (fun _ => ?_) (fun _ => ?_) | refine wps_draw (id := 3) [Fx, Fx, Fx, Fx, Tx, Fx, Fx, Fx, Fx, Fx] (by kernel_rfl) ?_ | ((with_reducible show Qs _ _ _ _ _); first | refine hQe _ _ _ _ ?_ | refine hQr _ _ _ ?_) | simp (config := { maxSteps := 1000000 }) (disch := omega) only [↓sh, ↓sh2, ↓reduceIte, sx, sl, sb, st, nbeq_ne, dle, relo_eq, wrap_i64, Nat.reduceBEq, Nat.reduceLT, Nat.reduceLeDiff, Nat.reduceAdd, Nat.reduceMul, Nat.reduceEqDiff, Int.reduceEq, Int.reduceLT, Int.reduceLE, Int.reduceNeg, Int.reduceToNat, Bool.false_eq_true, eq_self, sa, *])
      exact .inr trivial
end Go.AM
