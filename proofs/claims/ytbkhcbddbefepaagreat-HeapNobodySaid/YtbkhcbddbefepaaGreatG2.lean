/-
  Walks over letters of the functions that the law reaches.
-/
import Derived.Test.YtbkhcbddbefepaaGreatG1
namespace Go.AM
attribute [local instance] fnMaps
open Go Go.Proofs
set_option maxRecDepth 100000
set_option maxHeartbeats 1000000
set_option linter.unusedSimpArgs false
theorem isnil_31 (d : Nat) (a : Addr) (n c n' c' : Nat) : eqV E (d + 1) 31 (.slice (some a) n c) (.slice none n' c') = some false := by kernel_rfl
theorem fn47 : E.fn.get 47 = some Tryz.f47 := by kernel_rfl
theorem slots_clone (H : Heap) (hlo : H.lo ≤ H.next) (v : Value) (l : List Slot) (hv : SLr RSlot 3 H v l) (hl : l.length ≤ 100000) : CallA E (fnv 47) [v] H fun r H' => (SLr RSlot 3 H' r l ∧ Fresh H.next r) ∧ Same H H' := by
  obtain ⟨hs, hr⟩ := hv
  have sN : Same H (H.newRow []) := same_newRow _
  obtain ⟨a, c, cs, rfl, hrd, heR⟩ := (hs.mono RSlot.mono sN).reading (hr.same sN)
  have hrow0 : (H.newRow []).objs.get H.next = some (.row [] none true) := by simp (disch := omega) only [setRow_get, newRow_get, newRow_next, setRow_next, newRow_lo, setRow_lo, newRow_grps, setRow_grps, newRow_relo, setRow_relo, relo_objs, relo_next, relo_lo, nbeq_ne, sl]
  refine callA_fn (by kernel_rfl) fn47 rfl rfl ?_
  simp only [Tryz.f47]
  cases a with
  | none =>
    have e0 : l = [] := by
      cases l with
      | nil => rfl
      | cons x l =>
        obtain ⟨a', c', e, _, h⟩ := hs
        simp only [Value.slice.injEq] at e
        obtain ⟨r, o, _, _, _, _, h0, _⟩ := h 0 x rfl
        rw [h0] at e
        cases e.1
    subst e0
    repeat' (first | refine boolP_dec (fun _ => ?_) (fun _ => ?_) | apply boolP_not | refine boolP_b (fun _ => ?_) (fun _ => ?_) | simp (config := { maxSteps := 1000000 }) (disch := omega) only [↓sh, ↓sh2, ↓reduceIte, sx, sl, sb, st, nbeq_ne, dle, relo_eq, wrap_i64, Nat.reduceBEq, Nat.reduceLT, Nat.reduceLeDiff, Nat.reduceAdd, Nat.reduceMul, Nat.reduceEqDiff, Int.reduceEq, Int.reduceLT, Int.reduceLE, Int.reduceNeg, Int.reduceToNat, Bool.false_eq_true, eq_self, sa, Option.isNone_none, *])
    exact ⟨⟨SLr.nil, Fresh.nil _ _ _⟩, sameW⟩
  | some a =>
    by_cases hne : l.length = 0
    · have e0 : l = [] := List.eq_nil_of_length_eq_zero hne
      subst e0
      simp only [List.length_nil, Nat.zero_mul] at hrd
      have hap := app_zero (z := 3) (b := 24) (H := H.newRow []) ⟨H.next, 0, none⟩ 0 rfl cs
      repeat' (first | refine boolP_dec (fun _ => ?_) (fun _ => ?_) | apply boolP_not | refine boolP_b (fun _ => ?_) (fun _ => ?_) | simp (config := { maxSteps := 1000000 }) (disch := omega) only [↓sh, ↓sh2, ↓reduceIte, sx, sl, sb, st, nbeq_ne, dle, relo_eq, wrap_i64, Nat.reduceBEq, Nat.reduceLT, Nat.reduceLeDiff, Nat.reduceAdd, Nat.reduceMul, Nat.reduceEqDiff, Int.reduceEq, Int.reduceLT, Int.reduceLE, Int.reduceNeg, Int.reduceToNat, Bool.false_eq_true, eq_self, sa, isnil_31, ble_dec, repeat_zero, List.length_nil, *])
      have hz : SLr RSlot 3 (H.newRow []) (.slice (some ⟨H.next, 0, none⟩) 0 0) [] := SLr.row (l := []) RSlot.mono (by simp (disch := omega) only [setRow_get, newRow_get, newRow_next, setRow_next, newRow_lo, setRow_lo, newRow_grps, setRow_grps, newRow_relo, setRow_relo, relo_objs, relo_next, relo_lo, nbeq_ne, sl]; omega) hrow0 (Elems.nil _ _ (H.newRow [])) ⟨Nat.le_refl _, fun x cells g t hx ho => ⟨t, ho⟩⟩ (by simp)
      exact ⟨hz, Fresh.mk _ _ _ _ (Nat.le_refl _)⟩
    · have hap := app_fresh (z := 3) (b := 24) (k := l.length) (new := cs) hrow0 hne (by simp [growOk, beq_dec, ble_dec]; omega)
      repeat' (first | refine boolP_dec (fun _ => ?_) (fun _ => ?_) | apply boolP_not | refine boolP_b (fun _ => ?_) (fun _ => ?_) | simp (config := { maxSteps := 1000000 }) (disch := omega) only [↓sh, ↓sh2, ↓reduceIte, sx, sl, sb, st, nbeq_ne, dle, relo_eq, wrap_i64, Nat.reduceBEq, Nat.reduceLT, Nat.reduceLeDiff, Nat.reduceAdd, Nat.reduceMul, Nat.reduceEqDiff, Int.reduceEq, Int.reduceLT, Int.reduceLE, Int.reduceNeg, Int.reduceToNat, Bool.false_eq_true, eq_self, sa, isnil_31, ble_dec, repeat_zero, *])
      have g := grown_newApp (b := H.next) (H := H.newRow []) (by simp (disch := omega) only [setRow_get, newRow_get, newRow_next, setRow_next, newRow_lo, setRow_lo, newRow_grps, setRow_grps, newRow_relo, setRow_relo, relo_objs, relo_next, relo_lo, nbeq_ne, sl]; omega) 3 cs
      exact ⟨⟨SLr.row RSlot.mono (by rw [newApp_next]; simp (disch := omega) only [setRow_get, newRow_get, newRow_next, setRow_next, newRow_lo, setRow_lo, newRow_grps, setRow_grps, newRow_relo, setRow_relo, relo_objs, relo_next, relo_lo, nbeq_ne, sl]; omega) (g := some (H.next + 1, 3)) (t := true) (by rw [newApp_get, nbeq_eq (by simp (disch := omega) only [setRow_get, newRow_get, newRow_next, setRow_next, newRow_lo, setRow_lo, newRow_grps, setRow_grps, newRow_relo, setRow_relo, relo_objs, relo_next, relo_lo, nbeq_ne, sl])]; simp (disch := omega) only [setRow_get, newRow_get, newRow_next, setRow_next, newRow_lo, setRow_lo, newRow_grps, setRow_grps, newRow_relo, setRow_relo, relo_objs, relo_next, relo_lo, nbeq_ne, sl]) heR g.ext (by omega), Fresh.mk _ _ _ _ (by omega)⟩, g.same sN (Nat.le_refl _)⟩
theorem elems_w (H : Heap) (l : List Nat) : Elems RW 1 H (l.map wV) l := by
  refine ⟨by simp, fun i x hx => ⟨[wV x], ?_, rfl⟩⟩
  exact words_cut hx
theorem SLr.off {α : Type} {R : Heap → List Value → α → Prop} (hR : ∀ X X' part x, R X part x → R X' part x) {z B : Nat} {X X' : Heap} {v : Value} {l : List α} (h : SLr R z X v l) (hf : Fresh B v) (hn : X.next ≤ X'.next) (ho : ∀ x, B ≤ x → x < X.next → X'.objs.get x = X.objs.get x) : SLr R z X' v l := by
  obtain ⟨⟨a, cap, rfl, hc, hl⟩, hr⟩ := h
  refine ⟨⟨a, cap, rfl, hc, fun i x hx => ?_⟩, fun a' l' c' e => ?_⟩
  · obtain ⟨r, o, cells, g, t, part, rfl, h1, h2, h3, h4⟩ := hl i x hx
    rcases hf _ _ _ rfl with hn' | ⟨r', hr', hb⟩
    · cases hn'
    · cases hr'
      exact ⟨r, 0, cells, g, t, part, rfl, Nat.lt_of_lt_of_le h1 hn, (ho r hb h1).trans h2, h3, hR _ _ _ _ h4⟩
  · rcases hr a' l' c' e with h0 | ⟨r, cells, g, t, h0, h1, h2⟩
    · exact .inl h0
    · rcases hf _ _ _ e with hn' | ⟨r', hr', hb⟩
      · exact .inl hn'
      · rw [h0] at hr'
        cases hr'
        exact .inr ⟨r, cells, g, t, h0, Nat.lt_of_lt_of_le h1 hn, (ho r hb h1).trans h2⟩
theorem fn23 : E.fn.get 23 = some Tryz.f23 := by kernel_rfl
theorem copy_ok (H : Heap) (hlo : H.lo ≤ H.next) {s : St} {w t f zl : Value} (hS : StS H s w t f zl) (hw : s.words ≠ []) (l1 : s.words.length ≤ 98304) (l2' : s.table.length ≤ 100000) (l3' : s.free.length ≤ 100000) (l4' : s.slots.length ≤ 100000) : CallA E (fnv 23) [stV s w t f zl] H fun r H' => (∃ w' t' f' zl', r = stV s w' t' f' zl' ∧ StS H' s w' t' f' zl') ∧ Same H H' := by
  have hS0 := hS
  obtain ⟨⟨wa, wc, rfl, _⟩, _⟩ := hS.w
  obtain ⟨⟨ta, tc, rfl, _⟩, _⟩ := hS.t
  obtain ⟨⟨fa, fc, rfl, _⟩, _⟩ := hS.f
  obtain ⟨⟨sa', sc, rfl, _⟩, _⟩ := hS.sl
  refine callA_fn (by kernel_rfl) fn23 rfl rfl ?_
  simp only [Tryz.f23]
  simp only [stV]
  repeat' (first | refine boolP_dec (fun _ => ?_) (fun _ => ?_) | apply boolP_not | refine boolP_b (fun _ => ?_) (fun _ => ?_) | refine wps_draw (id := 1) [Fx, Fx, Tx, Fx, Fx, Fx, Fx, Fx, Fx, Fx] (by kernel_rfl) ?_ | refine wps_draw (id := 2) [Fx, Fx, Tx, Fx, Fx, Fx, Fx, Fx, Fx, Fx] (by kernel_rfl) ?_ | simp (config := { maxSteps := 1000000 }) (disch := omega) only [↓sh, ↓sh2, ↓reduceIte, sx, sl, sb, st, nbeq_ne, dle, relo_eq, wrap_i64, Nat.reduceBEq, Nat.reduceLT, Nat.reduceLeDiff, Nat.reduceAdd, Nat.reduceMul, Nat.reduceEqDiff, Int.reduceEq, Int.reduceLT, Int.reduceLE, Int.reduceNeg, Int.reduceToNat, Bool.false_eq_true, eq_self, sa, *])
  refine (words_clone _ loW _ s.words (hS0.w.ko RW.mono koW) hw (by omega)).mono ?_
  rintro r1 H2 ⟨rw1, rfl, a1, a2, a3, a4, s2⟩
  have k2 : Ko H H2 := Ko.call koW s2
  have q1 := s2.objs H.next loW; have q2 := s2.objs (H.next + 1) loW
  have l2 := s2.lo; have n2 := s2.nxt
  simp (disch := omega) only [sm, sl] at a1 q1 q2 l2 n2
  clear s2
  have fw : Fresh (H.next + 2) (.slice (some ⟨rw1, 0, none⟩) s.words.length s.words.length) := Fresh.mk _ _ _ _ loW
  have w2 : SLr RW 1 H2 (.slice (some ⟨rw1, 0, none⟩) s.words.length s.words.length) s.words := SLr.row RW.mono a2 a3 (elems_w H2 s.words) ⟨Nat.le_refl _, fun x cells g t _ ho => ⟨t, ho⟩⟩ (by omega)
  repeat' (first | refine boolP_dec (fun _ => ?_) (fun _ => ?_) | apply boolP_not | refine boolP_b (fun _ => ?_) (fun _ => ?_) | refine wps_draw (id := 1) [Fx, Fx, Tx, Fx, Fx, Fx, Fx, Fx, Fx, Fx] (by kernel_rfl) ?_ | refine wps_draw (id := 2) [Fx, Fx, Tx, Fx, Fx, Fx, Fx, Fx, Fx, Fx] (by kernel_rfl) ?_ | simp (config := { maxSteps := 1000000 }) (disch := omega) only [↓sh, ↓sh2, ↓reduceIte, sx, sl, sb, st, nbeq_ne, dle, relo_eq, wrap_i64, Nat.reduceBEq, Nat.reduceLT, Nat.reduceLeDiff, Nat.reduceAdd, Nat.reduceMul, Nat.reduceEqDiff, Int.reduceEq, Int.reduceLT, Int.reduceLE, Int.reduceNeg, Int.reduceToNat, Bool.false_eq_true, eq_self, sa, *])
  refine (spans_clone _ loW _ s.table (hS0.t.ko RSpan.mono koW) l2').mono ?_
  rintro r2 H3 ⟨⟨h3, f3⟩, s3⟩
  have j3 : ∀ x, H.next + 2 ≤ x → x < H2.next → H3.objs.get x = H2.objs.get x := fun x h1 h2 => by
    have q := s3.objs x loW
    simp (disch := omega) only [sm, sl] at q
    exact q
  have z3 : H2.next ≤ H3.next := by have q := s3.nxt; simp (disch := omega) only [sm, sl] at q; omega
  have k3 : Ko H H3 := Ko.call koW s3
  have w3 := w2.off (fun _ _ _ _ h => h) fw z3 j3
  have p1 := s3.objs H.next loW; have p2 := s3.objs (H.next + 1) loW
  have l3 := s3.lo; have n3 := s3.nxt
  simp (disch := omega) only [sm, sl] at p1 p2 l3 n3
  clear s3 w2 j3 k2 a1 a2 a3
  obtain ⟨⟨ta', tc', rfl, tx⟩, ty⟩ := h3
  have t3 : SLr RSpan 2 H3 (.slice ta' s.table.length tc') s.table := ⟨⟨ta', tc', rfl, tx⟩, ty⟩
  have ft : Fresh (H.next + 2) (.slice ta' s.table.length tc') := f3.le loW
  clear tx ty f3
  repeat' (first | refine boolP_dec (fun _ => ?_) (fun _ => ?_) | apply boolP_not | refine boolP_b (fun _ => ?_) (fun _ => ?_) | refine wps_draw (id := 1) [Fx, Fx, Tx, Fx, Fx, Fx, Fx, Fx, Fx, Fx] (by kernel_rfl) ?_ | refine wps_draw (id := 2) [Fx, Fx, Tx, Fx, Fx, Fx, Fx, Fx, Fx, Fx] (by kernel_rfl) ?_ | simp (config := { maxSteps := 1000000 }) (disch := omega) only [↓sh, ↓sh2, ↓reduceIte, sx, sl, sb, st, nbeq_ne, dle, relo_eq, wrap_i64, Nat.reduceBEq, Nat.reduceLT, Nat.reduceLeDiff, Nat.reduceAdd, Nat.reduceMul, Nat.reduceEqDiff, Int.reduceEq, Int.reduceLT, Int.reduceLE, Int.reduceNeg, Int.reduceToNat, Bool.false_eq_true, eq_self, sa, *])
  refine (spans_clone _ loW _ s.free (hS0.f.ko RSpan.mono koW) l3').mono ?_
  rintro r3 H4 ⟨⟨h4, f4⟩, s4⟩
  have j4 : ∀ x, H.next + 2 ≤ x → x < H3.next → H4.objs.get x = H3.objs.get x := fun x h1 h2 => by
    have q := s4.objs x loW
    simp (disch := omega) only [sm, sl] at q
    exact q
  have z4 : H3.next ≤ H4.next := by have q := s4.nxt; simp (disch := omega) only [sm, sl] at q; omega
  have k4 : Ko H H4 := Ko.call koW s4
  have w4 := w3.off (fun _ _ _ _ h => h) fw z4 j4
  have t4 := t3.off (fun _ _ _ _ h => h) ft z4 j4
  have p3 := s4.objs H.next loW; have p4 := s4.objs (H.next + 1) loW
  have l4 := s4.lo; have n4 := s4.nxt
  simp (disch := omega) only [sm, sl] at p3 p4 l4 n4
  clear s4 w3 t3 j4 k3
  obtain ⟨⟨fa', fc', rfl, fx⟩, fy⟩ := h4
  have f4' : SLr RSpan 2 H4 (.slice fa' s.free.length fc') s.free := ⟨⟨fa', fc', rfl, fx⟩, fy⟩
  have ff : Fresh (H.next + 2) (.slice fa' s.free.length fc') := f4.le loW
  clear fx fy f4
  repeat' (first | refine boolP_dec (fun _ => ?_) (fun _ => ?_) | apply boolP_not | refine boolP_b (fun _ => ?_) (fun _ => ?_) | refine wps_draw (id := 1) [Fx, Fx, Tx, Fx, Fx, Fx, Fx, Fx, Fx, Fx] (by kernel_rfl) ?_ | refine wps_draw (id := 2) [Fx, Fx, Tx, Fx, Fx, Fx, Fx, Fx, Fx, Fx] (by kernel_rfl) ?_ | simp (config := { maxSteps := 1000000 }) (disch := omega) only [↓sh, ↓sh2, ↓reduceIte, sx, sl, sb, st, nbeq_ne, dle, relo_eq, wrap_i64, Nat.reduceBEq, Nat.reduceLT, Nat.reduceLeDiff, Nat.reduceAdd, Nat.reduceMul, Nat.reduceEqDiff, Int.reduceEq, Int.reduceLT, Int.reduceLE, Int.reduceNeg, Int.reduceToNat, Bool.false_eq_true, eq_self, sa, *])
  refine (slots_clone _ loW _ s.slots (hS0.sl.ko RSlot.mono koW) l4').mono ?_
  rintro r4 H5 ⟨⟨h5, f5⟩, s5⟩
  have j5 : ∀ x, H.next + 2 ≤ x → x < H4.next → H5.objs.get x = H4.objs.get x := fun x h1 h2 => by
    have q := s5.objs x loW
    simp (disch := omega) only [sm, sl] at q
    exact q
  have z5 : H4.next ≤ H5.next := by have q := s5.nxt; simp (disch := omega) only [sm, sl] at q; omega
  have k5 : Ko H H5 := Ko.call koW s5
  have w5 := w4.off (fun _ _ _ _ h => h) fw z5 j5
  have t5 := t4.off (fun _ _ _ _ h => h) ft z5 j5
  have f5' := f4'.off (fun _ _ _ _ h => h) ff z5 j5
  have p5 := s5.objs H.next loW; have p6 := s5.objs (H.next + 1) loW
  have l5 := s5.lo; have n5 := s5.nxt
  simp (disch := omega) only [sm, sl] at p5 p6 l5 n5
  clear s5 w4 t4 f4' j5 k4
  obtain ⟨⟨za', zc', rfl, zx⟩, zy⟩ := h5
  have zz : SLr RSlot 3 H5 (.slice za' s.slots.length zc') s.slots := ⟨⟨za', zc', rfl, zx⟩, zy⟩
  have fz : Fresh (H.next + 2) (.slice za' s.slots.length zc') := f5.le loW
  clear zx zy f5
  repeat' (first | refine boolP_dec (fun _ => ?_) (fun _ => ?_) | apply boolP_not | refine boolP_b (fun _ => ?_) (fun _ => ?_) | refine wps_draw (id := 1) [Fx, Fx, Tx, Fx, Fx, Fx, Fx, Fx, Fx, Fx] (by kernel_rfl) ?_ | refine wps_draw (id := 2) [Fx, Fx, Tx, Fx, Fx, Fx, Fx, Fx, Fx, Fx] (by kernel_rfl) ?_ | simp (config := { maxSteps := 1000000 }) (disch := omega) only [↓sh, ↓sh2, ↓reduceIte, sx, sl, sb, st, nbeq_ne, dle, relo_eq, wrap_i64, Nat.reduceBEq, Nat.reduceLT, Nat.reduceLeDiff, Nat.reduceAdd, Nat.reduceMul, Nat.reduceEqDiff, Int.reduceEq, Int.reduceLT, Int.reduceLE, Int.reduceNeg, Int.reduceToNat, Bool.false_eq_true, eq_self, sa, *])
  refine ⟨⟨_, _, _, _, rfl, ⟨w5.off (fun _ _ _ _ h => h) fw ?_ ?_, t5.off (fun _ _ _ _ h => h) ft ?_ ?_, f5'.off (fun _ _ _ _ h => h) ff ?_ ?_, zz.off (fun _ _ _ _ h => h) fz ?_ ?_⟩⟩, sameW⟩
  all_goals first | (intro x h1 h2; simp (disch := omega) only [setRow_get, newRow_get, newRow_next, setRow_next, newRow_lo, setRow_lo, newRow_grps, setRow_grps, newRow_relo, setRow_relo, relo_objs, relo_next, relo_lo, nbeq_ne, sl]; done) | (simp (disch := omega) only [setRow_get, newRow_get, newRow_next, setRow_next, newRow_lo, setRow_lo, newRow_grps, setRow_grps, newRow_relo, setRow_relo, relo_objs, relo_next, relo_lo, nbeq_ne, sl]; omega)
end Go.AM
