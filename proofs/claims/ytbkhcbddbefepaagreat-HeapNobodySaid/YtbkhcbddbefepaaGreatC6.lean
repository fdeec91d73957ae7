/-
  Walks over letters of the functions that the law reaches.
-/
import Derived.Test.YtbkhcbddbefepaaGreatC5
import Derived.Test.YtbkhcbddbefepaaGreatB1
namespace Go.AM
attribute [local instance] fnMaps
open Go Go.Proofs
set_option maxRecDepth 100000
set_option maxHeartbeats 1000000
set_option linter.unusedSimpArgs false
theorem fn136 : E.fn.get 136 = some Tryz.f136 := by kernel_rfl
theorem walk_ok (H : Heap) (hlo : H.lo ≤ H.next) (a : Nat) (s : Span) (top : Int) : CallA E (fnv 136) [ptr a 0, spanV s, .int .i64 top] H fun r H' => r = .func (.func 148) #[] #[ptr (H.next + 1) 0, ptr (H.next + 1 + 1) 0, ptr H.next 0] ∧ H'.objs.get H.next = some (.row [ptr a 0] none true) ∧ H'.objs.get (H.next + 1) = some (.row [.int .i64 s.at', .int .i64 s.size] none true) ∧ H'.objs.get (H.next + 1 + 1) = some (.row [.int .i64 top] none true) ∧ H'.next = H.next + 3 ∧ Same H H' := by
  refine callA_fn (by kernel_rfl) fn136 rfl rfl ?_
  simp only [Tryz.f136]
  simp only [spanV]
  repeat' (first | refine boolP_dec (fun _ => ?_) (fun _ => ?_) | apply boolP_not | refine boolP_b (fun _ => ?_) (fun _ => ?_) | simp (config := { maxSteps := 1000000 }) (disch := omega) only [↓sh, ↓sh2, ↓reduceIte, sx, sl, sb, st, nbeq_ne, dle, relo_eq, wrap_i64, Nat.reduceBEq, Nat.reduceLT, Nat.reduceLeDiff, Nat.reduceAdd, Nat.reduceMul, Nat.reduceEqDiff, Int.reduceEq, Int.reduceLT, Int.reduceLE, Int.reduceNeg, Int.reduceToNat, Bool.false_eq_true, eq_self, sa, OP_makeFunc, ev_nilfunc, evs_cons, evs_nil, *])
  exact ⟨rfl, sameW⟩
def WfS : List Stp → Prop
  | [] => False
  | [s] => s.last = true
  | s :: l => s.last = false ∧ WfS l
def endOf : List Stp → Int × Int
  | [] => (0, 0)
  | [s] => (s.at', s.e)
  | _ :: l => endOf l
theorem wfS_steps (ws : List Nat) (top : Int) : ∀ n p, WfS (stepsL ws top n p)
  | 0, p => rfl
  | n + 1, p => by
    rw [stepsL]
    split
    · split
      · have := wfS_steps ws top n (p + sizeH (headAt ws p))
        revert this
        generalize stepsL ws top n (p + sizeH (headAt ws p)) = l
        intro h
        cases l with
        | nil => exact h.elim
        | cons x l => exact ⟨rfl, h⟩
      · rfl
    · rfl
theorem wf_last {v : Stp} {rest : List Stp} (h : WfS (v :: rest)) (hl : v.last = true) : rest = [] := by
  cases rest with
  | nil => rfl
  | cons x l => have := h.1; rw [hl] at this; cases this
theorem wf_more {v : Stp} {rest : List Stp} (h : WfS (v :: rest)) (hl : v.last = false) : WfS rest ∧ endOf (v :: rest) = endOf rest := by
  cases rest with
  | nil => have h : v.last = true := h; rw [hl] at h; cases h
  | cons x l => exact ⟨h.2, rfl⟩
theorem RBase.ko {H H3 X : Heap} {ex : List Nat} (b : RBase H3 ex X) (k : Ko H H3) (hex : ∀ x : Nat, x ∈ ex → H.next ≤ x) : Ko H X := by
  have h1 := k.nxt; have h2 := b.nxt
  exact ⟨by omega, fun x hx => (b.objs x (by omega) fun hh => by have := hex x hh; omega).trans (k.objs x hx), fun x hx => (b.grps x (by omega)).trans (k.grps x hx)⟩
theorem ko_del {H X : Heap} {gr : Tr (List Nat)} {nx k : Nat} (h : Ko H X) (hk : H.next ≤ k) (hg : gr = X.grps) (hn : nx = X.next) : Same H ⟨X.objs.del k, gr, nx, H.lo⟩ := by
  subst hg hn
  exact ⟨rfl, h.nxt, fun x hx => (delO_get _ _ _ (by omega)).trans (h.objs x hx), h.grps⟩
theorem ko_rec {H X : Heap} {gr : Tr (List Nat)} {nx : Nat} (k : Ko H X) (hg : gr = X.grps) (hn : nx = X.next) : Same H ⟨X.objs, gr, nx, H.lo⟩ := by
  subst hg hn
  exact ⟨rfl, k.nxt, k.objs, k.grps⟩
def stopR (ws : List Nat) (s : Span) (top : Int) : Int × Int := if May s ∧ s.at' ≤ top ∧ top ≤ s.stop then endOf (stepsL ws top (top - s.at').toNat s.at') else (0, 1)
theorem fn135 : E.fn.get 135 = some Tryz.f135 := by kernel_rfl
theorem stop_ok (H : Heap) (hlo : H.lo ≤ H.next) {a rw g : Nat} {ws : List Nat} (hAr : Ar H a rw g ws) (s : Span) (top : Int) : CallA E (fnv 135) [ptr a 0, spanV s, .int .i64 top] H fun r H' => r = .tuple #[.int .i64 (stopR ws s top).1, .int .i64 (stopR ws s top).2] ∧ Same H H' := by
  refine callA_marks (by kernel_rfl) fn135 rfl rfl ?_
  simp only [Tryz.f135, spanV]
  by_cases hm : May s
  case neg =>
    have e : stopR ws s top = (0, 1) := if_neg fun h => hm h.1
    repeat' (first | refine boolP_dec (fun _ => ?_) (fun _ => ?_) | apply boolP_not | refine boolP_b (fun _ => ?_) (fun _ => ?_) | refine wps_draw (id := 6) [Fx, Fx, Fx, Fx, (false, [3], []), Fx] (by kernel_rfl) ?_ | ((with_reducible show CallA _ _ _ _ _); refine call_ko (H0 := H) koW (smay_ok _ loW s) ?_; intro H2 k2 l2 n2 g2 q2; try simp (disch := omega) only [sm, sl] at l2 n2 g2 q2) | simp (config := { maxSteps := 1000000 }) (disch := omega) only [↓sh, ↓sh2, ↓reduceIte, sx, sl, sb, st, nbeq_ne, dle, relo_eq, wrap_i64, Nat.reduceBEq, Nat.reduceLT, Nat.reduceLeDiff, Nat.reduceAdd, Nat.reduceMul, Nat.reduceEqDiff, Int.reduceEq, Int.reduceLT, Int.reduceLE, Int.reduceNeg, Int.reduceToNat, Bool.false_eq_true, eq_self, sa, List.nil_append, List.append_nil, *])
    refine ⟨_, rfl, ?_⟩
    repeat' (first | refine boolP_dec (fun _ => ?_) (fun _ => ?_) | apply boolP_not | refine boolP_b (fun _ => ?_) (fun _ => ?_) | refine wps_draw (id := 6) [Fx, Fx, Fx, Fx, (false, [3], []), Fx] (by kernel_rfl) ?_ | simp (config := { maxSteps := 1000000 }) (disch := omega) only [↓sh, ↓sh2, ↓reduceIte, sx, sl, sb, st, nbeq_ne, dle, relo_eq, wrap_i64, Nat.reduceBEq, Nat.reduceLT, Nat.reduceLeDiff, Nat.reduceAdd, Nat.reduceMul, Nat.reduceEqDiff, Int.reduceEq, Int.reduceLT, Int.reduceLE, Int.reduceNeg, Int.reduceToNat, Bool.false_eq_true, eq_self, sa, *])
    exact ko_rec koW rfl rfl
  have hm' := hm
  unfold May at hm'
  by_cases ht : s.at' ≤ top ∧ top ≤ s.at' + s.size
  case neg =>
    have e : stopR ws s top = (0, 1) := if_neg fun h => ht h.2
    by_cases ht1 : top < s.at'
    · repeat' (first | refine boolP_dec (fun _ => ?_) (fun _ => ?_) | apply boolP_not | refine boolP_b (fun _ => ?_) (fun _ => ?_) | refine wps_draw (id := 6) [Fx, Fx, Fx, Fx, (false, [3], []), Fx] (by kernel_rfl) ?_ | ((with_reducible show CallA _ _ _ _ _); refine call_ko (H0 := H) koW (smay_ok _ loW s) ?_; intro H2 k2 l2 n2 g2 q2; try simp (disch := omega) only [sm, sl] at l2 n2 g2 q2) | simp (config := { maxSteps := 1000000 }) (disch := omega) only [↓sh, ↓sh2, ↓reduceIte, sx, sl, sb, st, nbeq_ne, dle, relo_eq, wrap_i64, Nat.reduceBEq, Nat.reduceLT, Nat.reduceLeDiff, Nat.reduceAdd, Nat.reduceMul, Nat.reduceEqDiff, Int.reduceEq, Int.reduceLT, Int.reduceLE, Int.reduceNeg, Int.reduceToNat, Bool.false_eq_true, eq_self, sa, List.nil_append, List.append_nil, *])
      all_goals try omega
      refine ⟨_, rfl, ?_⟩
      repeat' (first | refine boolP_dec (fun _ => ?_) (fun _ => ?_) | apply boolP_not | refine boolP_b (fun _ => ?_) (fun _ => ?_) | refine wps_draw (id := 6) [Fx, Fx, Fx, Fx, (false, [3], []), Fx] (by kernel_rfl) ?_ | simp (config := { maxSteps := 1000000 }) (disch := omega) only [↓sh, ↓sh2, ↓reduceIte, sx, sl, sb, st, nbeq_ne, dle, relo_eq, wrap_i64, Nat.reduceBEq, Nat.reduceLT, Nat.reduceLeDiff, Nat.reduceAdd, Nat.reduceMul, Nat.reduceEqDiff, Int.reduceEq, Int.reduceLT, Int.reduceLE, Int.reduceNeg, Int.reduceToNat, Bool.false_eq_true, eq_self, sa, *])
      exact ko_rec koW rfl rfl
    · have ht2 : s.at' + s.size < top := by omega
      repeat' (first | refine boolP_dec (fun _ => ?_) (fun _ => ?_) | apply boolP_not | refine boolP_b (fun _ => ?_) (fun _ => ?_) | refine wps_draw (id := 6) [Fx, Fx, Fx, Fx, (false, [3], []), Fx] (by kernel_rfl) ?_ | ((with_reducible show CallA _ _ _ _ _); refine call_ko (H0 := H) koW (smay_ok _ loW s) ?_; intro H2 k2 l2 n2 g2 q2; try simp (disch := omega) only [sm, sl] at l2 n2 g2 q2) | simp (config := { maxSteps := 1000000 }) (disch := omega) only [↓sh, ↓sh2, ↓reduceIte, sx, sl, sb, st, nbeq_ne, dle, relo_eq, wrap_i64, Nat.reduceBEq, Nat.reduceLT, Nat.reduceLeDiff, Nat.reduceAdd, Nat.reduceMul, Nat.reduceEqDiff, Int.reduceEq, Int.reduceLT, Int.reduceLE, Int.reduceNeg, Int.reduceToNat, Bool.false_eq_true, eq_self, sa, List.nil_append, List.append_nil, *])
      all_goals try omega
      refine ⟨_, rfl, ?_⟩
      repeat' (first | refine boolP_dec (fun _ => ?_) (fun _ => ?_) | apply boolP_not | refine boolP_b (fun _ => ?_) (fun _ => ?_) | refine wps_draw (id := 6) [Fx, Fx, Fx, Fx, (false, [3], []), Fx] (by kernel_rfl) ?_ | simp (config := { maxSteps := 1000000 }) (disch := omega) only [↓sh, ↓sh2, ↓reduceIte, sx, sl, sb, st, nbeq_ne, dle, relo_eq, wrap_i64, Nat.reduceBEq, Nat.reduceLT, Nat.reduceLeDiff, Nat.reduceAdd, Nat.reduceMul, Nat.reduceEqDiff, Int.reduceEq, Int.reduceLT, Int.reduceLE, Int.reduceNeg, Int.reduceToNat, Bool.false_eq_true, eq_self, sa, *])
      exact ko_rec koW rfl rfl
  have e : stopR ws s top = endOf (stepsL ws top (top - s.at').toNat s.at') := if_pos ⟨hm, ht⟩
  repeat' (first | refine boolP_dec (fun _ => ?_) (fun _ => ?_) | apply boolP_not | refine boolP_b (fun _ => ?_) (fun _ => ?_) | refine wps_draw (id := 6) [Fx, Fx, Fx, Fx, (false, [3], []), Fx] (by kernel_rfl) ?_ | ((with_reducible show CallA _ _ _ _ _); refine call_ko (H0 := H) koW (smay_ok _ loW s) ?_; intro H2 k2 l2 n2 g2 q2; try simp (disch := omega) only [sm, sl] at l2 n2 g2 q2) | simp (config := { maxSteps := 1000000 }) (disch := omega) only [↓sh, ↓sh2, ↓reduceIte, sx, sl, sb, st, nbeq_ne, dle, relo_eq, wrap_i64, Nat.reduceBEq, Nat.reduceLT, Nat.reduceLeDiff, Nat.reduceAdd, Nat.reduceMul, Nat.reduceEqDiff, Int.reduceEq, Int.reduceLT, Int.reduceLE, Int.reduceNeg, Int.reduceToNat, Bool.false_eq_true, eq_self, sa, List.nil_append, List.append_nil, *])
  all_goals try omega
  refine (walk_ok H2 (by omega) a s top).mono ?_
  rintro r H3 ⟨rfl, b1, b2, b3, n3, s3⟩
  have l3 := s3.lo; have k3 := k2.call s3
  have c1 : H3.objs.get (H.next + 1) = some (.row [.int .i64 0] none true) := by rw [s3.objs _ (by omega), g2 _ (by omega)]; simp (disch := omega) only [setRow_get, newRow_get, newRow_next, setRow_next, newRow_lo, setRow_lo, newRow_grps, setRow_grps, newRow_relo, setRow_relo, relo_objs, relo_next, relo_lo, nbeq_ne, sl]
  have c2 : H3.objs.get (H.next + 1 + 1) = some (.row [.int .i64 0] none true) := by rw [s3.objs _ (by omega), g2 _ (by omega)]; simp (disch := omega) only [setRow_get, newRow_get, newRow_next, setRow_next, newRow_lo, setRow_lo, newRow_grps, setRow_grps, newRow_relo, setRow_relo, relo_objs, relo_next, relo_lo, nbeq_ne, sl]
  have hA3 := hAr.same k3
  refine wps_rangeJ (enc := stpV) (xs := stepsL ws top (top - s.at').toNat s.at') (g := 148) (first := #[]) (cap := #[ptr (H2.next + 1) 0, ptr (H2.next + 1 + 1) 0, ptr H2.next 0])
    (J := fun rest X => WfS rest ∧ endOf rest = stopR ws s top ∧ X.objs.get (H.next + 1) = some (.row [.int .i64 0] none true) ∧ X.objs.get (H.next + 1 + 1) = some (.row [.int .i64 0] none true))
    (R := fun X => X.objs.get (H.next + 1) = some (.row [.int .i64 (stopR ws s top).1] none true) ∧ X.objs.get (H.next + 1 + 1) = some (.row [.int .i64 (stopR ws s top).2] none true))
    (ex := [H.next + 1, H.next + 1 + 1]) ?_ (by omega) ?_ ?_ (fun _ _ => by kernel_rfl) (fun _ _ _ => by kernel_rfl) ?_ ?_ ?_ ?_ ?_ ?_ ?_ ?_
  · intro x hx; simp only [List.mem_cons, List.not_mem_nil, or_false] at hx; omega
  · simp (config := { maxSteps := 1000000 }) (disch := omega) only [↓sh, ↓sh2, ↓reduceIte, sx, sl, sb, st, nbeq_ne, dle, relo_eq, wrap_i64, Nat.reduceBEq, Nat.reduceLT, Nat.reduceLeDiff, Nat.reduceAdd, Nat.reduceMul, Nat.reduceEqDiff, Int.reduceEq, Int.reduceLT, Int.reduceLE, Int.reduceNeg, Int.reduceToNat, Bool.false_eq_true, eq_self]
  · exact of_decide_eq_true rfl
  · rintro rest X X' ⟨h1, h2, h3, h4⟩ rb pd
    exact ⟨h1, h2, (pd.objs _ (by omega)).trans h3, (pd.objs _ (by omega)).trans h4⟩
  · rintro rest X X' ⟨h1, h2, h3, h4⟩ of
    exact ⟨h1, h2, (of.objs _ (by omega)).trans h3, (of.objs _ (by omega)).trans h4⟩
  · rintro X X' ⟨h3, h4⟩ of
    exact ⟨(of.objs _ (by omega)).trans h3, (of.objs _ (by omega)).trans h4⟩
  · intro X rb sX
    exact ⟨wfS_steps _ _ _ _, e.symm, (sX.objs _ (by omega)).trans c1, (sX.objs _ (by omega)).trans c2⟩
  · intro y I F H1 sH hn1 hI hB hy h0
    have hx : ∀ x : Nat, x = H.next + 1 ∨ x = H.next + 1 + 1 ↔ x ∈ [H.next + 1, H.next + 1 + 1] := fun x => by simp
    refine walk_iter H3 [H.next + 1, H.next + 1 + 1] (by omega) (H2.next + 1) (H2.next + 1 + 1) H2.next a rw g s top ws b2 b3 b1 hA3 (by omega) (by omega) (by omega) ?_ ?_ ?_ ?_ ?_ ?_ ⟨by omega, by omega⟩ ⟨by omega, by omega⟩ y I F H1 sH hn1 hI hB hy h0
    iterate 5 (rw [← hx]; have := hAr.la; have := hAr.lw; omega)
    intro x hh
    rw [← hx] at hh
    omega
  · rintro v rest X ⟨h1, h2, h3, h4⟩ rb
    have lX := rb.lo; have nX := rb.nxt
    simp only [stpV]
    repeat' (first | refine boolP_dec (fun _ => ?_) (fun _ => ?_) | apply boolP_not | refine boolP_b (fun _ => ?_) (fun _ => ?_) | refine wps_draw (id := 6) [Fx, Fx, Fx, Fx, (false, [3], []), Fx] (by kernel_rfl) ?_ | simp (config := { maxSteps := 1000000 }) (disch := omega) only [↓sh, ↓sh2, ↓reduceIte, sx, sl, sb, st, nbeq_ne, dle, relo_eq, wrap_i64, Nat.reduceBEq, Nat.reduceLT, Nat.reduceLeDiff, Nat.reduceAdd, Nat.reduceMul, Nat.reduceEqDiff, Int.reduceEq, Int.reduceLT, Int.reduceLE, Int.reduceNeg, Int.reduceToNat, Bool.false_eq_true, eq_self, sa, *])
    refine ⟨sameW, fun X2 of => ?_⟩
    have o1 := of.next; have o2 := of.lo
    have o3 := of.objs X.next (by omega)
    have o4 := of.objs (H.next + 1) (by omega)
    have o5 := of.objs (H.next + 1 + 1) (by omega)
    simp (disch := omega) only [sm, sl] at o1 o2 o3 o4 o5
    clear of
    cases hl : v.last with
    | true =>
      repeat' (first | refine boolP_dec (fun _ => ?_) (fun _ => ?_) | apply boolP_not | refine boolP_b (fun _ => ?_) (fun _ => ?_) | refine wps_draw (id := 6) [Fx, Fx, Fx, Fx, (false, [3], []), Fx] (by kernel_rfl) ?_ | simp (config := { maxSteps := 1000000 }) (disch := omega) only [↓sh, ↓sh2, ↓reduceIte, sx, sl, sb, st, nbeq_ne, dle, relo_eq, wrap_i64, Nat.reduceBEq, Nat.reduceLT, Nat.reduceLeDiff, Nat.reduceAdd, Nat.reduceMul, Nat.reduceEqDiff, Int.reduceEq, Int.reduceLT, Int.reduceLE, Int.reduceNeg, Int.reduceToNat, Bool.false_eq_true, eq_self, sa, *])
      obtain rfl := wf_last h1 hl
      rw [← e, ← h2]
      exact ⟨((Yd.refl _ _ X2).setRow (by simp) _).setRow (by simp) _, .inr ⟨rfl, rfl⟩⟩
    | false =>
      repeat' (first | refine boolP_dec (fun _ => ?_) (fun _ => ?_) | apply boolP_not | refine boolP_b (fun _ => ?_) (fun _ => ?_) | refine wps_draw (id := 6) [Fx, Fx, Fx, Fx, (false, [3], []), Fx] (by kernel_rfl) ?_ | simp (config := { maxSteps := 1000000 }) (disch := omega) only [↓sh, ↓sh2, ↓reduceIte, sx, sl, sb, st, nbeq_ne, dle, relo_eq, wrap_i64, Nat.reduceBEq, Nat.reduceLT, Nat.reduceLeDiff, Nat.reduceAdd, Nat.reduceMul, Nat.reduceEqDiff, Int.reduceEq, Int.reduceLT, Int.reduceLE, Int.reduceNeg, Int.reduceToNat, Bool.false_eq_true, eq_self, sa, *])
      obtain ⟨w1, w2⟩ := wf_more h1 hl
      exact ⟨Yd.refl _ _ X2, .inl ⟨w1, by rw [← w2, h2, e]⟩⟩
  · rintro X ⟨h1, _⟩
    exact h1.elim
  · rintro X ⟨h3, h4⟩ rb
    have lX := rb.lo; have nX := rb.nxt
    have dX := rb.dfr
    refine ⟨_, kill1 dX (by omega), ?_⟩
    have d1 := delO_get X.objs (H2.next + 3) (H.next + 1) (by omega)
    have d2 := delO_get X.objs (H2.next + 3) (H.next + 1 + 1) (by omega)
    repeat' (first | refine boolP_dec (fun _ => ?_) (fun _ => ?_) | apply boolP_not | refine boolP_b (fun _ => ?_) (fun _ => ?_) | refine wps_draw (id := 6) [Fx, Fx, Fx, Fx, (false, [3], []), Fx] (by kernel_rfl) ?_ | simp (config := { maxSteps := 1000000 }) (disch := omega) only [↓sh, ↓sh2, ↓reduceIte, sx, sl, sb, st, nbeq_ne, dle, relo_eq, wrap_i64, Nat.reduceBEq, Nat.reduceLT, Nat.reduceLeDiff, Nat.reduceAdd, Nat.reduceMul, Nat.reduceEqDiff, Int.reduceEq, Int.reduceLT, Int.reduceLE, Int.reduceNeg, Int.reduceToNat, Bool.false_eq_true, eq_self, sa, *])
    exact ko_del (rb.ko k3 (by intro x hx; simp only [List.mem_cons, List.not_mem_nil, or_false] at hx; omega)) (by omega) rfl rfl
end Go.AM
