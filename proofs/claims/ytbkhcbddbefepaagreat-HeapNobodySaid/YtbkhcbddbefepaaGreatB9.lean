/-
  Walks over letters of the functions that the law reaches.
-/
import Derived.Test.YtbkhcbddbefepaaGreatB8
namespace Go.AM
attribute [local instance] fnMaps
open Go Go.Proofs
set_option maxRecDepth 100000
set_option maxHeartbeats 1000000
set_option linter.unusedSimpArgs false
def SLr {α : Type} (R : Heap → List Value → α → Prop) (z : Nat) (H : Heap) (v : Value) (l : List α) : Prop := SL R z H v l ∧ Rowed H v
def RW : Heap → List Value → Nat → Prop := fun _ part n => part = [wV n]
theorem RW.mono : Mono RW := fun _ _ _ _ _ h => h
theorem elems_words {H : Heap} {cs : List Value} {ws : List Nat} (h : Elems RW 1 H cs ws) : cs = ws.map wV := by
  refine List.ext_getElem? fun i => ?_
  rw [List.getElem?_map]
  by_cases hi : i < ws.length
  · obtain ⟨part, h1, h2⟩ := h.2 i ws[i] (by simp [hi])
    rw [h2, Nat.mul_one] at h1
    rw [cut1 h1, List.getElem?_eq_getElem hi]; rfl
  · have := h.1
    rw [List.getElem?_eq_none (by omega), List.getElem?_eq_none (by omega)]; rfl
theorem app_fresh {z b k r : Nat} {H : Heap} {new : List Value} {t : Bool} (hr : H.objs.get r = some (.row [] none t)) (hk : k ≠ 0) (hg : growOk z b k = true) : appendT z b H (.slice (some ⟨r, 0, none⟩) 0 0) k new = some (.slice (some ⟨H.next, 0, none⟩) k k, H.newApp z new) := by
  have h1 : Nat.ble k 0 = false := Bool.eq_false_iff.2 fun hh => by have := Nat.le_of_ble_eq_true hh; omega
  have h2 : cut ([] : List Value) 0 (0 * z) = some [] := by rw [cut_eq]; simp
  simp only [appendT, Nat.zero_add, h1, cond_false, hg, Bool.not_true, hr, h2, Option.bind_some, List.nil_append]
theorem isnil_29 (d : Nat) (a : Addr) (n c n' c' : Nat) : eqV E (d + 1) 29 (.slice (some a) n c) (.slice none n' c') = some false := by kernel_rfl
theorem fn45 : E.fn.get 45 = some Tryz.f45 := by kernel_rfl
theorem words_clone (H : Heap) (hlo : H.lo ≤ H.next) (v : Value) (ws : List Nat) (hv : SLr RW 1 H v ws) (h0 : ws ≠ []) (hl : ws.length ≤ 100000) : CallA E (fnv 45) [v] H fun r H' => ∃ rw, r = .slice (some ⟨rw, 0, none⟩) ws.length ws.length ∧ H.next ≤ rw ∧ rw < H'.next ∧ H'.objs.get rw = some (.row (ws.map wV) (some (rw, 1)) true) ∧ H'.grps.get rw = some [] ∧ Same H H' := by
  obtain ⟨hs, hr⟩ := hv
  have sN : Same H (H.newRow []) := same_newRow _
  obtain ⟨a, c, cs, rfl, hrd, heR⟩ := (hs.mono RW.mono sN).reading (hr.same sN)
  rw [Nat.mul_one] at hrd
  have hcs := elems_words heR
  subst hcs
  have hne : ws.length ≠ 0 := by cases ws <;> simp_all
  have hrow0 : (H.newRow []).objs.get H.next = some (.row [] none true) := by simp (disch := omega) only [setRow_get, newRow_get, newRow_next, setRow_next, newRow_lo, setRow_lo, newRow_grps, setRow_grps, newRow_relo, setRow_relo, relo_objs, relo_next, relo_lo, nbeq_ne, sl]
  refine callA_fn (by kernel_rfl) fn45 rfl rfl ?_
  simp only [Tryz.f45]
  cases a with
  | none =>
    obtain ⟨a', c', e, _, h⟩ := hs
    simp only [Value.slice.injEq] at e
    obtain ⟨r, o, _, _, _, _, h0, _⟩ := h 0 ws[0] (by simp [List.getElem?_eq_getElem (show 0 < ws.length by omega)])
    rw [h0] at e
    cases e.1
  | some a =>
    have hap := app_fresh (z := 1) (b := 8) (k := ws.length) (new := ws.map wV) hrow0 hne (by simp [growOk, beq_dec, ble_dec]; omega)
    repeat' (first | refine boolP_dec (fun _ => ?_) (fun _ => ?_) | apply boolP_not | refine boolP_b (fun _ => ?_) (fun _ => ?_) | simp (config := { maxSteps := 1000000 }) (disch := omega) only [↓sh, ↓sh2, ↓reduceIte, sx, sl, sb, st, nbeq_ne, dle, relo_eq, wrap_i64, Nat.reduceBEq, Nat.reduceLT, Nat.reduceLeDiff, Nat.reduceAdd, Nat.reduceMul, Nat.reduceEqDiff, Int.reduceEq, Int.reduceLT, Int.reduceLE, Int.reduceNeg, Int.reduceToNat, Bool.false_eq_true, eq_self, sa, isnil_29, ble_dec, repeat_zero, *])
    have g := grown_newApp (b := H.next) (H := H.newRow []) (by simp (disch := omega) only [setRow_get, newRow_get, newRow_next, setRow_next, newRow_lo, setRow_lo, newRow_grps, setRow_grps, newRow_relo, setRow_relo, relo_objs, relo_next, relo_lo, nbeq_ne, sl]; omega) 1 (ws.map wV)
    refine ⟨H.next + 1, rfl, by omega, by rw [newApp_next]; simp (disch := omega) only [setRow_get, newRow_get, newRow_next, setRow_next, newRow_lo, setRow_lo, newRow_grps, setRow_grps, newRow_relo, setRow_relo, relo_objs, relo_next, relo_lo, nbeq_ne, sl]; omega, ?_, ?_, g.same sN (Nat.le_refl _)⟩
    · rw [newApp_get, nbeq_eq (by simp (disch := omega) only [setRow_get, newRow_get, newRow_next, setRow_next, newRow_lo, setRow_lo, newRow_grps, setRow_grps, newRow_relo, setRow_relo, relo_objs, relo_next, relo_lo, nbeq_ne, sl])]
      simp (disch := omega) only [setRow_get, newRow_get, newRow_next, setRow_next, newRow_lo, setRow_lo, newRow_grps, setRow_grps, newRow_relo, setRow_relo, relo_objs, relo_next, relo_lo, nbeq_ne, sl]
    · rw [newApp_grps, nbeq_eq (by simp (disch := omega) only [setRow_get, newRow_get, newRow_next, setRow_next, newRow_lo, setRow_lo, newRow_grps, setRow_grps, newRow_relo, setRow_relo, relo_objs, relo_next, relo_lo, nbeq_ne, sl])]; rfl
theorem fn90 : E.fn.get 90 = some Tryz.f90 := by kernel_rfl
theorem aof_ok (H : Heap) (hlo : H.lo ≤ H.next) (v : Value) (ws : List Nat) (hv : SLr RW 1 H v ws) (h0 : ws ≠ []) (hl : ws.length ≤ 98304) (hu : ∀ w ∈ ws, w < 2 ^ 64) : CallA E (fnv 90) [v] H fun r H' => ∃ a rw, r = .tuple #[ptr a 0, .int .i64 0] ∧ Ar H' a rw rw ws ∧ H.next ≤ a ∧ H.next ≤ rw ∧ Same H H' := by
  have hc := words_clone H hlo v ws hv h0 (by omega)
  obtain ⟨⟨a, c, rfl, _, _⟩, _⟩ := hv
  refine callA_fn (by kernel_rfl) fn90 rfl rfl ?_
  simp only [Tryz.f90]
  repeat' (first | refine boolP_dec (fun _ => ?_) (fun _ => ?_) | apply boolP_not | refine boolP_b (fun _ => ?_) (fun _ => ?_) | simp (config := { maxSteps := 1000000 }) (disch := omega) only [↓sh, ↓sh2, ↓reduceIte, sx, sl, sb, st, nbeq_ne, dle, relo_eq, wrap_i64, Nat.reduceBEq, Nat.reduceLT, Nat.reduceLeDiff, Nat.reduceAdd, Nat.reduceMul, Nat.reduceEqDiff, Int.reduceEq, Int.reduceLT, Int.reduceLE, Int.reduceNeg, Int.reduceToNat, Bool.false_eq_true, eq_self, sa, *])
  all_goals try omega
  refine hc.mono ?_
  rintro r H2 ⟨rw, rfl, h1, h2, h3, h4, s2⟩
  have n2 := s2.nxt
  repeat' (first | refine boolP_dec (fun _ => ?_) (fun _ => ?_) | apply boolP_not | refine boolP_b (fun _ => ?_) (fun _ => ?_) | simp (config := { maxSteps := 1000000 }) (disch := omega) only [↓sh, ↓sh2, ↓reduceIte, sx, sl, sb, st, nbeq_ne, dle, relo_eq, wrap_i64, Nat.reduceBEq, Nat.reduceLT, Nat.reduceLeDiff, Nat.reduceAdd, Nat.reduceMul, Nat.reduceEqDiff, Int.reduceEq, Int.reduceLT, Int.reduceLE, Int.reduceNeg, Int.reduceToNat, Bool.false_eq_true, eq_self, sa, *])
  refine ⟨H2.next, rw, rfl, ⟨?_, ?_, ?_, by simp (disch := omega) only [setRow_get, newRow_get, newRow_next, setRow_next, newRow_lo, setRow_lo, newRow_grps, setRow_grps, newRow_relo, setRow_relo, relo_objs, relo_next, relo_lo, nbeq_ne, sl]; omega, by simp (disch := omega) only [setRow_get, newRow_get, newRow_next, setRow_next, newRow_lo, setRow_lo, newRow_grps, setRow_grps, newRow_relo, setRow_relo, relo_objs, relo_next, relo_lo, nbeq_ne, sl]; omega, by simp (disch := omega) only [setRow_get, newRow_get, newRow_next, setRow_next, newRow_lo, setRow_lo, newRow_grps, setRow_grps, newRow_relo, setRow_relo, relo_objs, relo_next, relo_lo, nbeq_ne, sl]; omega, by omega, hu, hl⟩, n2, h1, s2.newRow _⟩
  · simp (disch := omega) only [setRow_get, newRow_get, newRow_next, setRow_next, newRow_lo, setRow_lo, newRow_grps, setRow_grps, newRow_relo, setRow_relo, relo_objs, relo_next, relo_lo, nbeq_ne, sl]
  · simp (disch := omega) only [setRow_get, newRow_get, newRow_next, setRow_next, newRow_lo, setRow_lo, newRow_grps, setRow_grps, newRow_relo, setRow_relo, relo_objs, relo_next, relo_lo, nbeq_ne, sl]; exact h3
  · simp (disch := omega) only [setRow_get, newRow_get, newRow_next, setRow_next, newRow_lo, setRow_lo, newRow_grps, setRow_grps, newRow_relo, setRow_relo, relo_objs, relo_next, relo_lo, nbeq_ne, sl]; exact h4
theorem words_cut {ws : List Nat} {i : Nat} {x : Nat} (h : ws[i]? = some x) : cut (ws.map wV) (i * 1) 1 = some [wV x] := by
  have hi := (List.getElem?_eq_some_iff.1 h).1
  rw [cut_eq, if_pos (by rw [List.length_map]; omega), Nat.mul_one, List.take_one, List.head?_drop, List.getElem?_map, h]
  rfl
theorem Ar.sl {H : Heap} {a rw g : Nat} {ws : List Nat} (h : Ar H a rw g ws) : SLr RW 1 H (.slice (some ⟨rw, 0, none⟩) ws.length ws.length) ws := by
  have hl := h.len
  refine ⟨SL.ofRow h.lw h.row (Nat.le_refl _) (by omega) fun i x hi => ⟨_, words_cut hi, rfl⟩, ?_⟩
  intro a' l c e
  simp only [Value.slice.injEq] at e
  obtain ⟨rfl, _, _⟩ := e
  exact .inr ⟨rw, _, _, _, rfl, h.lw, h.row⟩
end Go.AM
