/-
  Walks over letters of the functions that the law reaches.
-/
import Derived.Test.YtbkhcbddbefepaaGreatC3
import Derived.Test.YtbkhcbddbefepaaGreatAMc
namespace Go.AM
attribute [local instance] fnMaps
open Go Go.Proofs
set_option maxRecDepth 100000
set_option maxHeartbeats 1000000
set_option linter.unusedSimpArgs false
theorem app_zero {z b : Nat} {H : Heap} (a : Addr) (c : Nat) (h : a.spot = none) (new : List Value) : appendT z b H (.slice (some a) 0 c) 0 new = some (.slice (some a) 0 c, H) := by
  obtain ⟨r, o, s⟩ := a
  cases h
  simp [appendT, show Nat.ble 0 c = true from rfl]
theorem SLr.mono {α : Type} {R : Heap → List Value → α → Prop} (hR : Mono R) {z : Nat} {H H' : Heap} {v : Value} {l : List α} (hs : Same H H') (h : SLr R z H v l) : SLr R z H' v l := ⟨h.1.mono hR hs, h.2.same hs⟩
theorem SLr.row {α : Type} {R : Heap → List Value → α → Prop} {z : Nat} {H H0 : Heap} (hR : Mono R) {r : Nat} {cs : List Value} {g : Option (Nat × Nat)} {t : Bool} {l : List α} (hr : r < H.next) (hrow : H.objs.get r = some (.row cs g t)) (he : Elems R z H0 cs l) (hx : Ext H0 H) (hl : l.length ≤ 9223372036854775807) : SLr R z H (.slice (some ⟨r, 0, none⟩) l.length l.length) l := by
  refine ⟨SL.ofRow hr hrow (Nat.le_refl _) hl fun i x hi => ?_, fun a n c e => ?_⟩
  · obtain ⟨part, h1, h2⟩ := he.2 i x hi
    exact ⟨part, h1, hR _ _ _ _ hx h2⟩
  · simp only [Value.slice.injEq] at e
    obtain ⟨rfl, _, _⟩ := e
    exact .inr ⟨r, _, _, _, rfl, hr, hrow⟩
theorem SLr.nil {α : Type} {R : Heap → List Value → α → Prop} {z : Nat} {H : Heap} : SLr R z H (.slice none 0 0) [] :=
  ⟨⟨none, 0, rfl, ⟨Nat.le_refl _, Nat.zero_le _⟩, fun i x h => by simp at h⟩, fun a n c e => by cases e; exact .inl rfl⟩
theorem isnil_30 (d : Nat) (a : Addr) (n c n' c' : Nat) : eqV E (d + 1) 30 (.slice (some a) n c) (.slice none n' c') = some false := by kernel_rfl
theorem fn46 : E.fn.get 46 = some Tryz.f46 := by kernel_rfl
theorem spans_clone (H : Heap) (hlo : H.lo ≤ H.next) (v : Value) (l : List Span) (hv : SLr RSpan 2 H v l) (hl : l.length ≤ 100000) : CallA E (fnv 46) [v] H fun r H' => (SLr RSpan 2 H' r l ∧ Fresh H.next r) ∧ Same H H' := by
  obtain ⟨hs, hr⟩ := hv
  have sN : Same H (H.newRow []) := same_newRow _
  obtain ⟨a, c, cs, rfl, hrd, heR⟩ := (hs.mono RSpan.mono sN).reading (hr.same sN)
  have hrow0 : (H.newRow []).objs.get H.next = some (.row [] none true) := by simp (disch := omega) only [setRow_get, newRow_get, newRow_next, setRow_next, newRow_lo, setRow_lo, newRow_grps, setRow_grps, newRow_relo, setRow_relo, relo_objs, relo_next, relo_lo, nbeq_ne, sl]
  refine callA_fn (by kernel_rfl) fn46 rfl rfl ?_
  simp only [Tryz.f46]
  cases a with
  | none =>
    have e0 : l = [] := by
      cases l with
      | nil => rfl
      | cons x l =>
        obtain ⟨a', c', e, _, h⟩ := hs
        simp only [Value.slice.injEq] at e
        obtain ⟨r, o, _, _, _, _, h0, _⟩ := h 0 x rfl
        rw [h0] at e
        cases e.1
    subst e0
    repeat' (first | refine boolP_dec (fun _ => ?_) (fun _ => ?_) | apply boolP_not | refine boolP_b (fun _ => ?_) (fun _ => ?_) | simp (config := { maxSteps := 1000000 }) (disch := omega) only [↓sh, ↓sh2, ↓reduceIte, sx, sl, sb, st, nbeq_ne, dle, relo_eq, wrap_i64, Nat.reduceBEq, Nat.reduceLT, Nat.reduceLeDiff, Nat.reduceAdd, Nat.reduceMul, Nat.reduceEqDiff, Int.reduceEq, Int.reduceLT, Int.reduceLE, Int.reduceNeg, Int.reduceToNat, Bool.false_eq_true, eq_self, sa, Option.isNone_none, *])
    exact ⟨⟨SLr.nil, Fresh.nil _ _ _⟩, sameW⟩
  | some a =>
    by_cases hne : l.length = 0
    · have e0 : l = [] := List.eq_nil_of_length_eq_zero hne
      subst e0
      simp only [List.length_nil, Nat.zero_mul] at hrd
      have hap := app_zero (z := 2) (b := 16) (H := H.newRow []) ⟨H.next, 0, none⟩ 0 rfl cs
      repeat' (first | refine boolP_dec (fun _ => ?_) (fun _ => ?_) | apply boolP_not | refine boolP_b (fun _ => ?_) (fun _ => ?_) | simp (config := { maxSteps := 1000000 }) (disch := omega) only [↓sh, ↓sh2, ↓reduceIte, sx, sl, sb, st, nbeq_ne, dle, relo_eq, wrap_i64, Nat.reduceBEq, Nat.reduceLT, Nat.reduceLeDiff, Nat.reduceAdd, Nat.reduceMul, Nat.reduceEqDiff, Int.reduceEq, Int.reduceLT, Int.reduceLE, Int.reduceNeg, Int.reduceToNat, Bool.false_eq_true, eq_self, sa, isnil_30, ble_dec, repeat_zero, List.length_nil, *])
      have hz : SLr RSpan 2 (H.newRow []) (.slice (some ⟨H.next, 0, none⟩) 0 0) [] := SLr.row (l := []) RSpan.mono (by simp (disch := omega) only [setRow_get, newRow_get, newRow_next, setRow_next, newRow_lo, setRow_lo, newRow_grps, setRow_grps, newRow_relo, setRow_relo, relo_objs, relo_next, relo_lo, nbeq_ne, sl]; omega) hrow0 (Elems.nil _ _ (H.newRow [])) ⟨Nat.le_refl _, fun x cells g t hx ho => ⟨t, ho⟩⟩ (by simp)
      exact ⟨hz, Fresh.mk _ _ _ _ (Nat.le_refl _)⟩
    · have hap := app_fresh (z := 2) (b := 16) (k := l.length) (new := cs) hrow0 hne (by simp [growOk, beq_dec, ble_dec]; omega)
      repeat' (first | refine boolP_dec (fun _ => ?_) (fun _ => ?_) | apply boolP_not | refine boolP_b (fun _ => ?_) (fun _ => ?_) | simp (config := { maxSteps := 1000000 }) (disch := omega) only [↓sh, ↓sh2, ↓reduceIte, sx, sl, sb, st, nbeq_ne, dle, relo_eq, wrap_i64, Nat.reduceBEq, Nat.reduceLT, Nat.reduceLeDiff, Nat.reduceAdd, Nat.reduceMul, Nat.reduceEqDiff, Int.reduceEq, Int.reduceLT, Int.reduceLE, Int.reduceNeg, Int.reduceToNat, Bool.false_eq_true, eq_self, sa, isnil_30, ble_dec, repeat_zero, *])
      have g := grown_newApp (b := H.next) (H := H.newRow []) (by simp (disch := omega) only [setRow_get, newRow_get, newRow_next, setRow_next, newRow_lo, setRow_lo, newRow_grps, setRow_grps, newRow_relo, setRow_relo, relo_objs, relo_next, relo_lo, nbeq_ne, sl]; omega) 2 cs
      exact ⟨⟨SLr.row RSpan.mono (by rw [newApp_next]; simp (disch := omega) only [setRow_get, newRow_get, newRow_next, setRow_next, newRow_lo, setRow_lo, newRow_grps, setRow_grps, newRow_relo, setRow_relo, relo_objs, relo_next, relo_lo, nbeq_ne, sl]; omega) (g := some (H.next + 1, 2)) (t := true) (by rw [newApp_get, nbeq_eq (by simp (disch := omega) only [setRow_get, newRow_get, newRow_next, setRow_next, newRow_lo, setRow_lo, newRow_grps, setRow_grps, newRow_relo, setRow_relo, relo_objs, relo_next, relo_lo, nbeq_ne, sl])]; simp (disch := omega) only [setRow_get, newRow_get, newRow_next, setRow_next, newRow_lo, setRow_lo, newRow_grps, setRow_grps, newRow_relo, setRow_relo, relo_objs, relo_next, relo_lo, nbeq_ne, sl]) heR g.ext (by omega), Fresh.mk _ _ _ _ (by omega)⟩, g.same sN (Nat.le_refl _)⟩
theorem fn153 : E.fn.get 153 = some Tryz.f153 := by kernel_rfl
theorem sort_ok (H : Heap) (hlo : H.lo ≤ H.next) (v : Value) (l : List Span) (hv : SLr RSpan 2 H v l) (hr : Rising l) (hl : l.length ≤ 100000) : CallA E (fnv 153) [v] H fun r H' => (SLr RSpan 2 H' r l ∧ Fresh H.next r) ∧ Same H H' := by
  refine callA_fn (by kernel_rfl) fn153 rfl rfl ?_
  simp only [Tryz.f153]
  repeat' (first | refine boolP_dec (fun _ => ?_) (fun _ => ?_) | apply boolP_not | refine boolP_b (fun _ => ?_) (fun _ => ?_) | simp (config := { maxSteps := 1000000 }) (disch := omega) only [↓sh, ↓sh2, ↓reduceIte, sx, sl, sb, st, nbeq_ne, dle, relo_eq, wrap_i64, Nat.reduceBEq, Nat.reduceLT, Nat.reduceLeDiff, Nat.reduceAdd, Nat.reduceMul, Nat.reduceEqDiff, Int.reduceEq, Int.reduceLT, Int.reduceLE, Int.reduceNeg, Int.reduceToNat, Bool.false_eq_true, eq_self, sa, *])
  refine (spans_clone H hlo v l hv hl).mono ?_
  rintro r H2 ⟨⟨hr2, hf⟩, s2⟩
  have k2 := s2.ko; have l2 := s2.lo; have n2 := s2.nxt
  repeat' (first | refine boolP_dec (fun _ => ?_) (fun _ => ?_) | apply boolP_not | refine boolP_b (fun _ => ?_) (fun _ => ?_) | ((with_reducible show CallA _ _ _ _ _); refine call_ko (H0 := H2) koW (sortst_ok _ loW r l (hr2.1.ext RSpan.mono (Ko.ext koW)) hr hl) ?_; intro H2 k2 l2 n2 g2 q2; try simp (disch := omega) only [sm, sl] at l2 n2 g2 q2) | simp (config := { maxSteps := 1000000 }) (disch := omega) only [↓sh, ↓sh2, ↓reduceIte, sx, sl, sb, st, nbeq_ne, dle, relo_eq, wrap_i64, Nat.reduceBEq, Nat.reduceLT, Nat.reduceLeDiff, Nat.reduceAdd, Nat.reduceMul, Nat.reduceEqDiff, Int.reduceEq, Int.reduceLT, Int.reduceLE, Int.reduceNeg, Int.reduceToNat, Bool.false_eq_true, eq_self, sa, *])
  exact ⟨hr2.mono RSpan.mono (Ko.same (by assumption) (by assumption)), sameW⟩
end Go.AM
