/-
  Walks over letters of the functions that the law reaches.
-/
import Derived.Test.YtbkhcbddbefepaaGreatK4
namespace Go.AM
attribute [local instance] fnMaps
open Go Go.Proofs
set_option maxRecDepth 100000
set_option maxHeartbeats 1000000
set_option linter.unusedSimpArgs false
theorem fn54 : E.fn.get 54 = some Tryz.f54 := by kernel_rfl
theorem fn55 : E.fn.get 55 = some Tryz.f55 := by kernel_rfl
theorem fn30 : E.fn.get 30 = some Tryz.f30 := by kernel_rfl
theorem fn31 : E.fn.get 31 = some Tryz.f31 := by kernel_rfl
structure Hd where
  kind : Int
  fields : Int
  raws : Int
  mark : Bool
  cursor : Int
def hdCells (h : Hd) : List Value := [.int .i64 h.kind, .int .i64 h.fields, .int .i64 h.raws, .bool h.mark, .int .i64 h.cursor]
def hdV (h : Hd) : Value := .agg #[.int .i64 h.kind, .int .i64 h.fields, .int .i64 h.raws, .bool h.mark, .int .i64 h.cursor]
def markI (h : Hd) : Int := if h.mark then 1 else 0
def numH (h : Hd) : Nat → Int
  | 0 => markI h
  | 1 => h.kind
  | 2 => h.fields
  | 3 => h.raws
  | _ => h.cursor
def atP : Nat → Nat
  | 0 => 2
  | 1 => 3
  | 2 => 8
  | 3 => 24
  | _ => 40
def mostP : Nat → Int
  | 0 => 1
  | 1 => 31
  | 2 => 4096
  | 3 => 4096
  | _ => 1048576
def wH (h : Hd) : Nat → Nat
  | 0 => 3
  | i + 1 => wH h i + (numH h i).toNat * 2 ^ atP i
def okN (h : Hd) (i : Nat) : Bool := if decide (numH h i < 0) then false else !decide (mostP i < numH h i)
def okH (h : Hd) : Bool := (List.range 5).all (okN h)
theorem okN_in {h : Hd} {i : Nat} (hk : okN h i = true) : 0 ≤ numH h i ∧ numH h i ≤ mostP i := by
  simp [okN] at hk
  omega
theorem wH_lt {h : Hd} : ∀ {i : Nat}, i ≤ 4 → (∀ j, j < i → okN h j = true) → wH h i < 2 ^ atP i
  | 0, _, _ => by show 3 < 2 ^ 2; decide
  | 1, _, hj => by
    have h0 := okN_in (hj 0 (by omega))
    simp only [wH, numH, mostP, atP] at h0 ⊢
    omega
  | 2, _, hj => by
    have h0 := okN_in (hj 0 (by omega))
    have h1 := okN_in (hj 1 (by omega))
    simp only [wH, numH, mostP, atP] at h0 h1 ⊢
    omega
  | 3, _, hj => by
    have h0 := okN_in (hj 0 (by omega))
    have h1 := okN_in (hj 1 (by omega))
    have h2 := okN_in (hj 2 (by omega))
    simp only [wH, numH, mostP, atP] at h0 h1 h2 ⊢
    omega
  | 4, _, hj => by
    have h0 := okN_in (hj 0 (by omega))
    have h1 := okN_in (hj 1 (by omega))
    have h2 := okN_in (hj 2 (by omega))
    have h3 := okN_in (hj 3 (by omega))
    simp only [wH, numH, mostP, atP] at h0 h1 h2 h3 ⊢
    omega
theorem lay_ok (H : Heap) (hlo : H.lo ≤ H.next) (w x A N : Nat) (hw : w < 2 ^ A) (hx : x < 2 ^ N) (hA : A < 64) (hN : 1 ≤ N) (hNA : N + A ≤ 64) : CallA E (fnv 56) [.int .u64 (w : Int), .int .i64 (A : Int), .int .i64 (N : Int), .int .u64 (x : Int)] H fun r H' => r = .tuple #[.int .u64 ((w + x * 2 ^ A : Nat) : Int), .bool true] ∧ Same H H' := by
  have hw64 : w < 2 ^ 64 := Nat.lt_of_lt_of_le hw (Nat.pow_le_pow_right (by omega) (by omega))
  have hx64 : x < 2 ^ 64 := Nat.lt_of_lt_of_le hx (Nat.pow_le_pow_right (by omega) (by omega))
  refine (put_ok H hlo w x hw64 hx64 A N).mono ?_
  rintro r H2 ⟨rfl, s2⟩
  have hp : partW (A : Int) (N : Int) = true := by
    simp [partW]; omega
  have hok : okPut (A : Int) (N : Int) x = true := by simp only [okPut, hp, if_true, Int.toNat_natCast]; simpa using hx
  refine ⟨?_, s2⟩
  rw [hok]
  simp only [if_true, Int.toNat_natCast]
  rw [put_above hw hNA]
theorem numbers_ok (H : Heap) (hlo : H.lo ≤ H.next) (h : Hd) : CallA E (fnv 54) [hdV h] H fun r H' => r = .agg #[.int .i64 (markI h), .int .i64 h.kind, .int .i64 h.fields, .int .i64 h.raws, .int .i64 h.cursor] ∧ Same H H' := by
  refine callA_fn (by kernel_rfl) fn54 rfl rfl ?_
  simp only [Tryz.f54, hdV]
  have s1 : Same H ((H.newRow [.int .i64 h.kind, .int .i64 h.fields, .int .i64 h.raws, .bool h.mark, .int .i64 h.cursor]).newRow [.int .i64 0, .int .i64 0, .int .i64 0, .int .i64 0, .int .i64 0]) := (same_newRow _).newRow _
  cases hm : h.mark
  · rw [hm] at s1
    simp (config := { maxSteps := 1000000 }) (disch := omega) only [↓sh, ↓sh2, ↓reduceIte, sx, sl, sb, st, nbeq_ne, dle, relo_eq, wrap_i64, Nat.reduceBEq, Nat.reduceLT, Nat.reduceLeDiff, Nat.reduceAdd, Nat.reduceMul, Nat.reduceEqDiff, Int.reduceEq, Int.reduceLT, Int.reduceLE, Int.reduceNeg, Int.reduceToNat, Bool.false_eq_true, eq_self, sa]
    exact ⟨by simp only [markI, hm]; rfl, s1.setRow (by omega) _⟩
  · rw [hm] at s1
    simp (config := { maxSteps := 1000000 }) (disch := omega) only [↓sh, ↓sh2, ↓reduceIte, sx, sl, sb, st, nbeq_ne, dle, relo_eq, wrap_i64, Nat.reduceBEq, Nat.reduceLT, Nat.reduceLeDiff, Nat.reduceAdd, Nat.reduceMul, Nat.reduceEqDiff, Int.reduceEq, Int.reduceLT, Int.reduceLE, Int.reduceNeg, Int.reduceToNat, Bool.false_eq_true, eq_self, sa]
    exact ⟨by simp only [markI, hm]; rfl, s1.setRow (by omega) _⟩
theorem parts_ok (H : Heap) (hlo : H.lo ≤ H.next) : CallA E (fnv 55) [] H fun r H' => r = .agg #[.int .i64 2, .int .i64 1, .int .i64 1, .int .i64 3, .int .i64 5, .int .i64 31, .int .i64 8, .int .i64 16, .int .i64 4096, .int .i64 24, .int .i64 16, .int .i64 4096, .int .i64 40, .int .i64 24, .int .i64 1048576] ∧ Same H H' := by
  refine callA_fn (by kernel_rfl) fn55 rfl rfl ?_
  simp only [Tryz.f55]
  simp (config := { maxSteps := 1000000 }) (disch := omega) only [↓sh, ↓sh2, ↓reduceIte, sx, sl, sb, st, nbeq_ne, dle, relo_eq, wrap_i64, Nat.reduceBEq, Nat.reduceLT, Nat.reduceLeDiff, Nat.reduceAdd, Nat.reduceMul, Nat.reduceEqDiff, Int.reduceEq, Int.reduceLT, Int.reduceLE, Int.reduceNeg, Int.reduceToNat, Bool.false_eq_true, eq_self, sa]
  exact same_box _ _ _
theorem enc_ok (H : Heap) (hlo : H.lo ≤ H.next) (h : Hd) : CallA E (fnv 30) [hdV h] H fun r H' => r = .tuple #[.int .u64 ((if okH h then wH h 5 else 0 : Nat) : Int), .int .i64 (if okH h then 0 else 1)] ∧ Same H H' := by
  refine callA_fn (by kernel_rfl) fn30 rfl rfl ?_
  simp only [Tryz.f30, hdV]
  simp (config := { maxSteps := 1000000 }) (disch := omega) only [↓sh, ↓sh2, ↓reduceIte, sx, sl, sb, st, nbeq_ne, dle, relo_eq, wrap_i64, Nat.reduceBEq, Nat.reduceLT, Nat.reduceLeDiff, Nat.reduceAdd, Nat.reduceMul, Nat.reduceEqDiff, Int.reduceEq, Int.reduceLT, Int.reduceLE, Int.reduceNeg, Int.reduceToNat, Bool.false_eq_true, eq_self, sa]
  refine callA_named (fun H1 e1 => ?_)
  have s1 : Same H H1 := by rw [e1]; exact same_newRow _
  have n1 : H1.next = H.next + 1 := by rw [e1]; simp (disch := omega) only [setRow_get, newRow_get, newRow_next, setRow_next, newRow_lo, setRow_lo, newRow_grps, setRow_grps, newRow_relo, setRow_relo, relo_objs, relo_next, relo_lo, nbeq_ne, sl]
  have l1 := s1.lo
  clear e1
  refine (numbers_ok H1 (by omega) h).mono ?_
  rintro r H2 ⟨rfl, s2⟩
  have n2 := s2.nxt
  have l2 := s2.lo
  simp (config := { maxSteps := 1000000 }) (disch := omega) only [↓sh, ↓sh2, ↓reduceIte, sx, sl, sb, st, nbeq_ne, dle, relo_eq, wrap_i64, Nat.reduceBEq, Nat.reduceLT, Nat.reduceLeDiff, Nat.reduceAdd, Nat.reduceMul, Nat.reduceEqDiff, Int.reduceEq, Int.reduceLT, Int.reduceLE, Int.reduceNeg, Int.reduceToNat, Bool.false_eq_true, eq_self, sa]
  refine callA_named (fun H3 e3 => ?_)
  have s3 : Same H2 H3 := by rw [e3]; exact same_box _ _ _
  have n3 : H3.next = H2.next + 1 := by rw [e3]; simp (disch := omega) only [setRow_get, newRow_get, newRow_next, setRow_next, newRow_lo, setRow_lo, newRow_grps, setRow_grps, newRow_relo, setRow_relo, relo_objs, relo_next, relo_lo, nbeq_ne, sl]
  have l3 := s3.lo
  have gN : H3.objs.get H2.next = some (.row [.int .i64 (markI h), .int .i64 h.kind, .int .i64 h.fields, .int .i64 h.raws, .int .i64 h.cursor] none true) := by rw [e3]; simp (disch := omega) only [setRow_get, newRow_get, newRow_next, setRow_next, newRow_lo, setRow_lo, newRow_grps, setRow_grps, newRow_relo, setRow_relo, relo_objs, relo_next, relo_lo, nbeq_ne, sl]
  clear e3
  refine (parts_ok H3 (by omega)).mono ?_
  rintro r H4 ⟨rfl, s4⟩
  have n4 := s4.nxt
  have l4 := s4.lo
  have gN := s4.keeps (by omega) gN
  have s04 := s1.trans (s2.trans (s3.trans s4))
  refine wp_loopQ (by kernel_rfl) (fun k T X => ∃ i : Nat, k = 5 - i ∧ i ≤ 5 ∧ T.get 11 = some (.int .i64 i) ∧ T.get 4 = some (.int .u64 (wH h i : Nat)) ∧ T.get 5 = some (ptr H2.next 0) ∧ T.get 10 = some (.agg #[.int .i64 2, .int .i64 1, .int .i64 1, .int .i64 3, .int .i64 5, .int .i64 31, .int .i64 8, .int .i64 16, .int .i64 4096, .int .i64 24, .int .i64 16, .int .i64 4096, .int .i64 40, .int .i64 24, .int .i64 1048576]) ∧ Same H4 X ∧ ∀ j, j < i → okN h j = true) 5 ?_ ?_
  · exact ⟨0, by omega, by omega, rfl, rfl, rfl, rfl, Same.refl _, fun j h => absurd h (by omega)⟩
  rintro k T X ⟨i, rfl, hi, h11, h4, h5, h10, s, hall⟩ Qs hQ hQr hQe
  have nX := s.nxt
  have lX := s.lo
  have gX := s.keeps (by omega) gN
  have bad : i ≤ 4 → okN h i = false → okH h = false := by
    intro h1 h2
    rw [okH, List.all_eq_false]
    exact ⟨i, by simp; omega, by simp [h2]⟩
  have more : i ≤ 4 → okN h i = true → ∀ j, j < i + 1 → okN h j = true := by
    intro h1 h2 j hj
    by_cases e : j = i
    · subst e; exact h2
    · exact hall j (by omega)
  obtain rfl | rfl | rfl | rfl | rfl | rfl : i = 0 ∨ i = 1 ∨ i = 2 ∨ i = 3 ∨ i = 4 ∨ i = 5 := by omega
  · have hwl := wH_lt (h := h) (i := 0) (by omega) hall
    replace h11 : T.get 11 = some (.int .i64 0) := h11
    have sB := same_box X [Value.int .i64 0, Value.int .i64 0, Value.int .i64 0] [Value.int .i64 2, Value.int .i64 1, Value.int .i64 1]
    cases y1 : decide (markI h < 0)
    case true =>
      simp (config := { maxSteps := 1000000 }) (disch := omega) only [↓sh, ↓sh2, ↓reduceIte, sx, sl, sb, st, nbeq_ne, dle, relo_eq, wrap_i64, Nat.reduceBEq, Nat.reduceLT, Nat.reduceLeDiff, Nat.reduceAdd, Nat.reduceMul, Nat.reduceEqDiff, Int.reduceEq, Int.reduceLT, Int.reduceLE, Int.reduceNeg, Int.reduceToNat, Bool.false_eq_true, eq_self, sa, h11, h10, gX]
      refine wps_draw [(false, [], []), (false, [], []), (false, [], []), (false, [], []), (false, [], []), (false, [], []), (false, [], []), (false, [], []), (false, [], []), (false, [], []), (false, [], []), (false, [], [])] (by kernel_rfl) ?_
      simp (config := { maxSteps := 1000000 }) (disch := omega) only [↓sh, ↓sh2, ↓reduceIte, sx, sl, sb, st, nbeq_ne, dle, relo_eq, wrap_i64, Nat.reduceBEq, Nat.reduceLT, Nat.reduceLeDiff, Nat.reduceAdd, Nat.reduceMul, Nat.reduceEqDiff, Int.reduceEq, Int.reduceLT, Int.reduceLE, Int.reduceNeg, Int.reduceToNat, Bool.false_eq_true, eq_self, sa, h11, h10, h5, gX, y1]
      refine hQr _ _ _ ?_
      simp (config := { maxSteps := 1000000 }) (disch := omega) only [↓sh, ↓sh2, ↓reduceIte, sx, sl, sb, st, nbeq_ne, dle, relo_eq, wrap_i64, Nat.reduceBEq, Nat.reduceLT, Nat.reduceLeDiff, Nat.reduceAdd, Nat.reduceMul, Nat.reduceEqDiff, Int.reduceEq, Int.reduceLT, Int.reduceLE, Int.reduceNeg, Int.reduceToNat, Bool.false_eq_true, eq_self, sa]
      have hok := bad (by omega) (by simp only [okN, numH, y1]; rfl)
      rw [hok]
      exact ⟨rfl, s04.trans (s.trans sB)⟩
    cases y2 : decide (1 < markI h)
    case true =>
      simp (config := { maxSteps := 1000000 }) (disch := omega) only [↓sh, ↓sh2, ↓reduceIte, sx, sl, sb, st, nbeq_ne, dle, relo_eq, wrap_i64, Nat.reduceBEq, Nat.reduceLT, Nat.reduceLeDiff, Nat.reduceAdd, Nat.reduceMul, Nat.reduceEqDiff, Int.reduceEq, Int.reduceLT, Int.reduceLE, Int.reduceNeg, Int.reduceToNat, Bool.false_eq_true, eq_self, sa, h11, h10, gX]
      refine wps_draw [(false, [], []), (false, [], []), (false, [], []), (false, [], []), (false, [], []), (false, [], []), (false, [], []), (false, [], []), (false, [], []), (false, [], []), (false, [], []), (false, [], [])] (by kernel_rfl) ?_
      simp (config := { maxSteps := 1000000 }) (disch := omega) only [↓sh, ↓sh2, ↓reduceIte, sx, sl, sb, st, nbeq_ne, dle, relo_eq, wrap_i64, Nat.reduceBEq, Nat.reduceLT, Nat.reduceLeDiff, Nat.reduceAdd, Nat.reduceMul, Nat.reduceEqDiff, Int.reduceEq, Int.reduceLT, Int.reduceLE, Int.reduceNeg, Int.reduceToNat, Bool.false_eq_true, eq_self, sa, h11, h10, h5, gX, y1, y2]
      refine hQr _ _ _ ?_
      simp (config := { maxSteps := 1000000 }) (disch := omega) only [↓sh, ↓sh2, ↓reduceIte, sx, sl, sb, st, nbeq_ne, dle, relo_eq, wrap_i64, Nat.reduceBEq, Nat.reduceLT, Nat.reduceLeDiff, Nat.reduceAdd, Nat.reduceMul, Nat.reduceEqDiff, Int.reduceEq, Int.reduceLT, Int.reduceLE, Int.reduceNeg, Int.reduceToNat, Bool.false_eq_true, eq_self, sa]
      have hok := bad (by omega) (by simp only [okN, numH, mostP, y1, y2]; rfl)
      rw [hok]
      exact ⟨rfl, s04.trans (s.trans sB)⟩
    have hk := more (by omega) (by simp only [okN, numH, mostP, y1, y2]; rfl)
    have y3 : 0 ≤ markI h := by rw [decide_eq_false_iff_not] at y1; omega
    have y4 : markI h ≤ 1 := by rw [decide_eq_false_iff_not] at y2; omega
    obtain ⟨x, hx⟩ : ∃ x : Nat, markI h = x := ⟨(markI h).toNat, by omega⟩
    have hnum : (numH h 0).toNat = x := by simp only [numH, hx, Int.toNat_natCast]
    have hcv : IntKind.u64.wrap (markI h) = (x : Int) := by rw [wrap_u64 (by omega) (by omega)]; exact hx
    simp (config := { maxSteps := 1000000 }) (disch := omega) only [↓sh, ↓sh2, ↓reduceIte, sx, sl, sb, st, nbeq_ne, dle, relo_eq, wrap_i64, Nat.reduceBEq, Nat.reduceLT, Nat.reduceLeDiff, Nat.reduceAdd, Nat.reduceMul, Nat.reduceEqDiff, Int.reduceEq, Int.reduceLT, Int.reduceLE, Int.reduceNeg, Int.reduceToNat, Bool.false_eq_true, eq_self, sa, h11, h10, gX]
    refine wps_draw [(false, [], []), (false, [], []), (false, [], []), (false, [], []), (false, [], []), (false, [], []), (false, [], []), (false, [], []), (false, [], []), (false, [], []), (false, [], []), (false, [], [])] (by kernel_rfl) ?_
    simp (config := { maxSteps := 1000000 }) (disch := omega) only [↓sh, ↓sh2, ↓reduceIte, sx, sl, sb, st, nbeq_ne, dle, relo_eq, wrap_i64, Nat.reduceBEq, Nat.reduceLT, Nat.reduceLeDiff, Nat.reduceAdd, Nat.reduceMul, Nat.reduceEqDiff, Int.reduceEq, Int.reduceLT, Int.reduceLE, Int.reduceNeg, Int.reduceToNat, Bool.false_eq_true, eq_self, sa, h11, h10, h5, h4, gX, y1, y2]
    refine wps_draw [(false, [], []), (false, [], []), (false, [], []), (false, [], []), (false, [], []), (false, [], []), (false, [], []), (false, [], []), (false, [], []), (false, [], []), (false, [], []), (false, [], []), (false, [], []), (false, [], [])] (by kernel_rfl) ?_
    simp (config := { maxSteps := 1000000 }) (disch := omega) only [↓sh, ↓sh2, ↓reduceIte, sx, sl, sb, st, nbeq_ne, dle, relo_eq, wrap_i64, Nat.reduceBEq, Nat.reduceLT, Nat.reduceLeDiff, Nat.reduceAdd, Nat.reduceMul, Nat.reduceEqDiff, Int.reduceEq, Int.reduceLT, Int.reduceLE, Int.reduceNeg, Int.reduceToNat, Bool.false_eq_true, eq_self, sa, h11, h10, h5, h4, gX, hcv]
    refine (lay_ok _ (by simp (disch := omega) only [setRow_get, newRow_get, newRow_next, setRow_next, newRow_lo, setRow_lo, newRow_grps, setRow_grps, newRow_relo, setRow_relo, relo_objs, relo_next, relo_lo, nbeq_ne, sl]; omega) (wH h 0) x 2 1 hwl (by omega) (by omega) (by omega) (by omega)).mono ?_
    rintro r X2 ⟨rfl, s2x⟩
    have l2x := s2x.lo
    simp only [setRow_lo, newRow_lo] at l2x
    have hw1 : wH h 1 = wH h 0 + x * 2 ^ 2 := by
      show wH h 0 + (numH h 0).toNat * 2 ^ atP 0 = _
      rw [hnum]; rfl
    simp (config := { maxSteps := 1000000 }) (disch := omega) only [↓sh, ↓sh2, ↓reduceIte, sx, sl, sb, st, nbeq_ne, dle, relo_eq, wrap_i64, Nat.reduceBEq, Nat.reduceLT, Nat.reduceLeDiff, Nat.reduceAdd, Nat.reduceMul, Nat.reduceEqDiff, Int.reduceEq, Int.reduceLT, Int.reduceLE, Int.reduceNeg, Int.reduceToNat, Bool.false_eq_true, eq_self, sa, h11]
    refine hQ _ _ (5 - 1) (by omega) ?_
    refine ⟨1, rfl, by omega, ?_, ?_, ?_, ?_, s.trans (sB.trans s2x), hk⟩
    · simp (config := { maxSteps := 1000000 }) (disch := omega) only [↓sh, ↓sh2, ↓reduceIte, sx, sl, sb, st, nbeq_ne, dle, relo_eq, wrap_i64, Nat.reduceBEq, Nat.reduceLT, Nat.reduceLeDiff, Nat.reduceAdd, Nat.reduceMul, Nat.reduceEqDiff, Int.reduceEq, Int.reduceLT, Int.reduceLE, Int.reduceNeg, Int.reduceToNat, Bool.false_eq_true, eq_self, sa, h11]
      rfl
    · rw [hw1]
      simp (config := { maxSteps := 1000000 }) (disch := omega) only [↓sh, ↓sh2, ↓reduceIte, sx, sl, sb, st, nbeq_ne, dle, relo_eq, wrap_i64, Nat.reduceBEq, Nat.reduceLT, Nat.reduceLeDiff, Nat.reduceAdd, Nat.reduceMul, Nat.reduceEqDiff, Int.reduceEq, Int.reduceLT, Int.reduceLE, Int.reduceNeg, Int.reduceToNat, Bool.false_eq_true, eq_self, sa]
    · simp (config := { maxSteps := 1000000 }) (disch := omega) only [↓sh, ↓sh2, ↓reduceIte, sx, sl, sb, st, nbeq_ne, dle, relo_eq, wrap_i64, Nat.reduceBEq, Nat.reduceLT, Nat.reduceLeDiff, Nat.reduceAdd, Nat.reduceMul, Nat.reduceEqDiff, Int.reduceEq, Int.reduceLT, Int.reduceLE, Int.reduceNeg, Int.reduceToNat, Bool.false_eq_true, eq_self, sa, h5]
    · simp (config := { maxSteps := 1000000 }) (disch := omega) only [↓sh, ↓sh2, ↓reduceIte, sx, sl, sb, st, nbeq_ne, dle, relo_eq, wrap_i64, Nat.reduceBEq, Nat.reduceLT, Nat.reduceLeDiff, Nat.reduceAdd, Nat.reduceMul, Nat.reduceEqDiff, Int.reduceEq, Int.reduceLT, Int.reduceLE, Int.reduceNeg, Int.reduceToNat, Bool.false_eq_true, eq_self, sa, h10]
  · have hwl := wH_lt (h := h) (i := 1) (by omega) hall
    replace h11 : T.get 11 = some (.int .i64 1) := h11
    have sB := same_box X [Value.int .i64 0, Value.int .i64 0, Value.int .i64 0] [Value.int .i64 3, Value.int .i64 5, Value.int .i64 31]
    cases y1 : decide (h.kind < 0)
    case true =>
      simp (config := { maxSteps := 1000000 }) (disch := omega) only [↓sh, ↓sh2, ↓reduceIte, sx, sl, sb, st, nbeq_ne, dle, relo_eq, wrap_i64, Nat.reduceBEq, Nat.reduceLT, Nat.reduceLeDiff, Nat.reduceAdd, Nat.reduceMul, Nat.reduceEqDiff, Int.reduceEq, Int.reduceLT, Int.reduceLE, Int.reduceNeg, Int.reduceToNat, Bool.false_eq_true, eq_self, sa, h11, h10, gX]
      refine wps_draw [(false, [], []), (false, [], []), (false, [], []), (false, [], []), (false, [], []), (false, [], []), (false, [], []), (false, [], []), (false, [], []), (false, [], []), (false, [], []), (false, [], [])] (by kernel_rfl) ?_
      simp (config := { maxSteps := 1000000 }) (disch := omega) only [↓sh, ↓sh2, ↓reduceIte, sx, sl, sb, st, nbeq_ne, dle, relo_eq, wrap_i64, Nat.reduceBEq, Nat.reduceLT, Nat.reduceLeDiff, Nat.reduceAdd, Nat.reduceMul, Nat.reduceEqDiff, Int.reduceEq, Int.reduceLT, Int.reduceLE, Int.reduceNeg, Int.reduceToNat, Bool.false_eq_true, eq_self, sa, h11, h10, h5, gX, y1]
      refine hQr _ _ _ ?_
      simp (config := { maxSteps := 1000000 }) (disch := omega) only [↓sh, ↓sh2, ↓reduceIte, sx, sl, sb, st, nbeq_ne, dle, relo_eq, wrap_i64, Nat.reduceBEq, Nat.reduceLT, Nat.reduceLeDiff, Nat.reduceAdd, Nat.reduceMul, Nat.reduceEqDiff, Int.reduceEq, Int.reduceLT, Int.reduceLE, Int.reduceNeg, Int.reduceToNat, Bool.false_eq_true, eq_self, sa]
      have hok := bad (by omega) (by simp only [okN, numH, y1]; rfl)
      rw [hok]
      exact ⟨rfl, s04.trans (s.trans sB)⟩
    cases y2 : decide (31 < h.kind)
    case true =>
      simp (config := { maxSteps := 1000000 }) (disch := omega) only [↓sh, ↓sh2, ↓reduceIte, sx, sl, sb, st, nbeq_ne, dle, relo_eq, wrap_i64, Nat.reduceBEq, Nat.reduceLT, Nat.reduceLeDiff, Nat.reduceAdd, Nat.reduceMul, Nat.reduceEqDiff, Int.reduceEq, Int.reduceLT, Int.reduceLE, Int.reduceNeg, Int.reduceToNat, Bool.false_eq_true, eq_self, sa, h11, h10, gX]
      refine wps_draw [(false, [], []), (false, [], []), (false, [], []), (false, [], []), (false, [], []), (false, [], []), (false, [], []), (false, [], []), (false, [], []), (false, [], []), (false, [], []), (false, [], [])] (by kernel_rfl) ?_
      simp (config := { maxSteps := 1000000 }) (disch := omega) only [↓sh, ↓sh2, ↓reduceIte, sx, sl, sb, st, nbeq_ne, dle, relo_eq, wrap_i64, Nat.reduceBEq, Nat.reduceLT, Nat.reduceLeDiff, Nat.reduceAdd, Nat.reduceMul, Nat.reduceEqDiff, Int.reduceEq, Int.reduceLT, Int.reduceLE, Int.reduceNeg, Int.reduceToNat, Bool.false_eq_true, eq_self, sa, h11, h10, h5, gX, y1, y2]
      refine hQr _ _ _ ?_
      simp (config := { maxSteps := 1000000 }) (disch := omega) only [↓sh, ↓sh2, ↓reduceIte, sx, sl, sb, st, nbeq_ne, dle, relo_eq, wrap_i64, Nat.reduceBEq, Nat.reduceLT, Nat.reduceLeDiff, Nat.reduceAdd, Nat.reduceMul, Nat.reduceEqDiff, Int.reduceEq, Int.reduceLT, Int.reduceLE, Int.reduceNeg, Int.reduceToNat, Bool.false_eq_true, eq_self, sa]
      have hok := bad (by omega) (by simp only [okN, numH, mostP, y1, y2]; rfl)
      rw [hok]
      exact ⟨rfl, s04.trans (s.trans sB)⟩
    have hk := more (by omega) (by simp only [okN, numH, mostP, y1, y2]; rfl)
    have y3 : 0 ≤ h.kind := by rw [decide_eq_false_iff_not] at y1; omega
    have y4 : h.kind ≤ 31 := by rw [decide_eq_false_iff_not] at y2; omega
    obtain ⟨x, hx⟩ : ∃ x : Nat, h.kind = x := ⟨(h.kind).toNat, by omega⟩
    have hnum : (numH h 1).toNat = x := by simp only [numH, hx, Int.toNat_natCast]
    have hcv : IntKind.u64.wrap (h.kind) = (x : Int) := by rw [wrap_u64 (by omega) (by omega)]; exact hx
    simp (config := { maxSteps := 1000000 }) (disch := omega) only [↓sh, ↓sh2, ↓reduceIte, sx, sl, sb, st, nbeq_ne, dle, relo_eq, wrap_i64, Nat.reduceBEq, Nat.reduceLT, Nat.reduceLeDiff, Nat.reduceAdd, Nat.reduceMul, Nat.reduceEqDiff, Int.reduceEq, Int.reduceLT, Int.reduceLE, Int.reduceNeg, Int.reduceToNat, Bool.false_eq_true, eq_self, sa, h11, h10, gX]
    refine wps_draw [(false, [], []), (false, [], []), (false, [], []), (false, [], []), (false, [], []), (false, [], []), (false, [], []), (false, [], []), (false, [], []), (false, [], []), (false, [], []), (false, [], [])] (by kernel_rfl) ?_
    simp (config := { maxSteps := 1000000 }) (disch := omega) only [↓sh, ↓sh2, ↓reduceIte, sx, sl, sb, st, nbeq_ne, dle, relo_eq, wrap_i64, Nat.reduceBEq, Nat.reduceLT, Nat.reduceLeDiff, Nat.reduceAdd, Nat.reduceMul, Nat.reduceEqDiff, Int.reduceEq, Int.reduceLT, Int.reduceLE, Int.reduceNeg, Int.reduceToNat, Bool.false_eq_true, eq_self, sa, h11, h10, h5, h4, gX, y1, y2]
    refine wps_draw [(false, [], []), (false, [], []), (false, [], []), (false, [], []), (false, [], []), (false, [], []), (false, [], []), (false, [], []), (false, [], []), (false, [], []), (false, [], []), (false, [], []), (false, [], []), (false, [], [])] (by kernel_rfl) ?_
    simp (config := { maxSteps := 1000000 }) (disch := omega) only [↓sh, ↓sh2, ↓reduceIte, sx, sl, sb, st, nbeq_ne, dle, relo_eq, wrap_i64, Nat.reduceBEq, Nat.reduceLT, Nat.reduceLeDiff, Nat.reduceAdd, Nat.reduceMul, Nat.reduceEqDiff, Int.reduceEq, Int.reduceLT, Int.reduceLE, Int.reduceNeg, Int.reduceToNat, Bool.false_eq_true, eq_self, sa, h11, h10, h5, h4, gX, hcv]
    refine (lay_ok _ (by simp (disch := omega) only [setRow_get, newRow_get, newRow_next, setRow_next, newRow_lo, setRow_lo, newRow_grps, setRow_grps, newRow_relo, setRow_relo, relo_objs, relo_next, relo_lo, nbeq_ne, sl]; omega) (wH h 1) x 3 5 hwl (by omega) (by omega) (by omega) (by omega)).mono ?_
    rintro r X2 ⟨rfl, s2x⟩
    have l2x := s2x.lo
    simp only [setRow_lo, newRow_lo] at l2x
    have hw1 : wH h 2 = wH h 1 + x * 2 ^ 3 := by
      show wH h 1 + (numH h 1).toNat * 2 ^ atP 1 = _
      rw [hnum]; rfl
    simp (config := { maxSteps := 1000000 }) (disch := omega) only [↓sh, ↓sh2, ↓reduceIte, sx, sl, sb, st, nbeq_ne, dle, relo_eq, wrap_i64, Nat.reduceBEq, Nat.reduceLT, Nat.reduceLeDiff, Nat.reduceAdd, Nat.reduceMul, Nat.reduceEqDiff, Int.reduceEq, Int.reduceLT, Int.reduceLE, Int.reduceNeg, Int.reduceToNat, Bool.false_eq_true, eq_self, sa, h11]
    refine hQ _ _ (5 - 2) (by omega) ?_
    refine ⟨2, rfl, by omega, ?_, ?_, ?_, ?_, s.trans (sB.trans s2x), hk⟩
    · simp (config := { maxSteps := 1000000 }) (disch := omega) only [↓sh, ↓sh2, ↓reduceIte, sx, sl, sb, st, nbeq_ne, dle, relo_eq, wrap_i64, Nat.reduceBEq, Nat.reduceLT, Nat.reduceLeDiff, Nat.reduceAdd, Nat.reduceMul, Nat.reduceEqDiff, Int.reduceEq, Int.reduceLT, Int.reduceLE, Int.reduceNeg, Int.reduceToNat, Bool.false_eq_true, eq_self, sa, h11]
      rfl
    · rw [hw1]
      simp (config := { maxSteps := 1000000 }) (disch := omega) only [↓sh, ↓sh2, ↓reduceIte, sx, sl, sb, st, nbeq_ne, dle, relo_eq, wrap_i64, Nat.reduceBEq, Nat.reduceLT, Nat.reduceLeDiff, Nat.reduceAdd, Nat.reduceMul, Nat.reduceEqDiff, Int.reduceEq, Int.reduceLT, Int.reduceLE, Int.reduceNeg, Int.reduceToNat, Bool.false_eq_true, eq_self, sa]
    · simp (config := { maxSteps := 1000000 }) (disch := omega) only [↓sh, ↓sh2, ↓reduceIte, sx, sl, sb, st, nbeq_ne, dle, relo_eq, wrap_i64, Nat.reduceBEq, Nat.reduceLT, Nat.reduceLeDiff, Nat.reduceAdd, Nat.reduceMul, Nat.reduceEqDiff, Int.reduceEq, Int.reduceLT, Int.reduceLE, Int.reduceNeg, Int.reduceToNat, Bool.false_eq_true, eq_self, sa, h5]
    · simp (config := { maxSteps := 1000000 }) (disch := omega) only [↓sh, ↓sh2, ↓reduceIte, sx, sl, sb, st, nbeq_ne, dle, relo_eq, wrap_i64, Nat.reduceBEq, Nat.reduceLT, Nat.reduceLeDiff, Nat.reduceAdd, Nat.reduceMul, Nat.reduceEqDiff, Int.reduceEq, Int.reduceLT, Int.reduceLE, Int.reduceNeg, Int.reduceToNat, Bool.false_eq_true, eq_self, sa, h10]
  · have hwl := wH_lt (h := h) (i := 2) (by omega) hall
    replace h11 : T.get 11 = some (.int .i64 2) := h11
    have sB := same_box X [Value.int .i64 0, Value.int .i64 0, Value.int .i64 0] [Value.int .i64 8, Value.int .i64 16, Value.int .i64 4096]
    cases y1 : decide (h.fields < 0)
    case true =>
      simp (config := { maxSteps := 1000000 }) (disch := omega) only [↓sh, ↓sh2, ↓reduceIte, sx, sl, sb, st, nbeq_ne, dle, relo_eq, wrap_i64, Nat.reduceBEq, Nat.reduceLT, Nat.reduceLeDiff, Nat.reduceAdd, Nat.reduceMul, Nat.reduceEqDiff, Int.reduceEq, Int.reduceLT, Int.reduceLE, Int.reduceNeg, Int.reduceToNat, Bool.false_eq_true, eq_self, sa, h11, h10, gX]
      refine wps_draw [(false, [], []), (false, [], []), (false, [], []), (false, [], []), (false, [], []), (false, [], []), (false, [], []), (false, [], []), (false, [], []), (false, [], []), (false, [], []), (false, [], [])] (by kernel_rfl) ?_
      simp (config := { maxSteps := 1000000 }) (disch := omega) only [↓sh, ↓sh2, ↓reduceIte, sx, sl, sb, st, nbeq_ne, dle, relo_eq, wrap_i64, Nat.reduceBEq, Nat.reduceLT, Nat.reduceLeDiff, Nat.reduceAdd, Nat.reduceMul, Nat.reduceEqDiff, Int.reduceEq, Int.reduceLT, Int.reduceLE, Int.reduceNeg, Int.reduceToNat, Bool.false_eq_true, eq_self, sa, h11, h10, h5, gX, y1]
      refine hQr _ _ _ ?_
      simp (config := { maxSteps := 1000000 }) (disch := omega) only [↓sh, ↓sh2, ↓reduceIte, sx, sl, sb, st, nbeq_ne, dle, relo_eq, wrap_i64, Nat.reduceBEq, Nat.reduceLT, Nat.reduceLeDiff, Nat.reduceAdd, Nat.reduceMul, Nat.reduceEqDiff, Int.reduceEq, Int.reduceLT, Int.reduceLE, Int.reduceNeg, Int.reduceToNat, Bool.false_eq_true, eq_self, sa]
      have hok := bad (by omega) (by simp only [okN, numH, y1]; rfl)
      rw [hok]
      exact ⟨rfl, s04.trans (s.trans sB)⟩
    cases y2 : decide (4096 < h.fields)
    case true =>
      simp (config := { maxSteps := 1000000 }) (disch := omega) only [↓sh, ↓sh2, ↓reduceIte, sx, sl, sb, st, nbeq_ne, dle, relo_eq, wrap_i64, Nat.reduceBEq, Nat.reduceLT, Nat.reduceLeDiff, Nat.reduceAdd, Nat.reduceMul, Nat.reduceEqDiff, Int.reduceEq, Int.reduceLT, Int.reduceLE, Int.reduceNeg, Int.reduceToNat, Bool.false_eq_true, eq_self, sa, h11, h10, gX]
      refine wps_draw [(false, [], []), (false, [], []), (false, [], []), (false, [], []), (false, [], []), (false, [], []), (false, [], []), (false, [], []), (false, [], []), (false, [], []), (false, [], []), (false, [], [])] (by kernel_rfl) ?_
      simp (config := { maxSteps := 1000000 }) (disch := omega) only [↓sh, ↓sh2, ↓reduceIte, sx, sl, sb, st, nbeq_ne, dle, relo_eq, wrap_i64, Nat.reduceBEq, Nat.reduceLT, Nat.reduceLeDiff, Nat.reduceAdd, Nat.reduceMul, Nat.reduceEqDiff, Int.reduceEq, Int.reduceLT, Int.reduceLE, Int.reduceNeg, Int.reduceToNat, Bool.false_eq_true, eq_self, sa, h11, h10, h5, gX, y1, y2]
      refine hQr _ _ _ ?_
      simp (config := { maxSteps := 1000000 }) (disch := omega) only [↓sh, ↓sh2, ↓reduceIte, sx, sl, sb, st, nbeq_ne, dle, relo_eq, wrap_i64, Nat.reduceBEq, Nat.reduceLT, Nat.reduceLeDiff, Nat.reduceAdd, Nat.reduceMul, Nat.reduceEqDiff, Int.reduceEq, Int.reduceLT, Int.reduceLE, Int.reduceNeg, Int.reduceToNat, Bool.false_eq_true, eq_self, sa]
      have hok := bad (by omega) (by simp only [okN, numH, mostP, y1, y2]; rfl)
      rw [hok]
      exact ⟨rfl, s04.trans (s.trans sB)⟩
    have hk := more (by omega) (by simp only [okN, numH, mostP, y1, y2]; rfl)
    have y3 : 0 ≤ h.fields := by rw [decide_eq_false_iff_not] at y1; omega
    have y4 : h.fields ≤ 4096 := by rw [decide_eq_false_iff_not] at y2; omega
    obtain ⟨x, hx⟩ : ∃ x : Nat, h.fields = x := ⟨(h.fields).toNat, by omega⟩
    have hnum : (numH h 2).toNat = x := by simp only [numH, hx, Int.toNat_natCast]
    have hcv : IntKind.u64.wrap (h.fields) = (x : Int) := by rw [wrap_u64 (by omega) (by omega)]; exact hx
    simp (config := { maxSteps := 1000000 }) (disch := omega) only [↓sh, ↓sh2, ↓reduceIte, sx, sl, sb, st, nbeq_ne, dle, relo_eq, wrap_i64, Nat.reduceBEq, Nat.reduceLT, Nat.reduceLeDiff, Nat.reduceAdd, Nat.reduceMul, Nat.reduceEqDiff, Int.reduceEq, Int.reduceLT, Int.reduceLE, Int.reduceNeg, Int.reduceToNat, Bool.false_eq_true, eq_self, sa, h11, h10, gX]
    refine wps_draw [(false, [], []), (false, [], []), (false, [], []), (false, [], []), (false, [], []), (false, [], []), (false, [], []), (false, [], []), (false, [], []), (false, [], []), (false, [], []), (false, [], [])] (by kernel_rfl) ?_
    simp (config := { maxSteps := 1000000 }) (disch := omega) only [↓sh, ↓sh2, ↓reduceIte, sx, sl, sb, st, nbeq_ne, dle, relo_eq, wrap_i64, Nat.reduceBEq, Nat.reduceLT, Nat.reduceLeDiff, Nat.reduceAdd, Nat.reduceMul, Nat.reduceEqDiff, Int.reduceEq, Int.reduceLT, Int.reduceLE, Int.reduceNeg, Int.reduceToNat, Bool.false_eq_true, eq_self, sa, h11, h10, h5, h4, gX, y1, y2]
    refine wps_draw [(false, [], []), (false, [], []), (false, [], []), (false, [], []), (false, [], []), (false, [], []), (false, [], []), (false, [], []), (false, [], []), (false, [], []), (false, [], []), (false, [], []), (false, [], []), (false, [], [])] (by kernel_rfl) ?_
    simp (config := { maxSteps := 1000000 }) (disch := omega) only [↓sh, ↓sh2, ↓reduceIte, sx, sl, sb, st, nbeq_ne, dle, relo_eq, wrap_i64, Nat.reduceBEq, Nat.reduceLT, Nat.reduceLeDiff, Nat.reduceAdd, Nat.reduceMul, Nat.reduceEqDiff, Int.reduceEq, Int.reduceLT, Int.reduceLE, Int.reduceNeg, Int.reduceToNat, Bool.false_eq_true, eq_self, sa, h11, h10, h5, h4, gX, hcv]
    refine (lay_ok _ (by simp (disch := omega) only [setRow_get, newRow_get, newRow_next, setRow_next, newRow_lo, setRow_lo, newRow_grps, setRow_grps, newRow_relo, setRow_relo, relo_objs, relo_next, relo_lo, nbeq_ne, sl]; omega) (wH h 2) x 8 16 hwl (by omega) (by omega) (by omega) (by omega)).mono ?_
    rintro r X2 ⟨rfl, s2x⟩
    have l2x := s2x.lo
    simp only [setRow_lo, newRow_lo] at l2x
    have hw1 : wH h 3 = wH h 2 + x * 2 ^ 8 := by
      show wH h 2 + (numH h 2).toNat * 2 ^ atP 2 = _
      rw [hnum]; rfl
    simp (config := { maxSteps := 1000000 }) (disch := omega) only [↓sh, ↓sh2, ↓reduceIte, sx, sl, sb, st, nbeq_ne, dle, relo_eq, wrap_i64, Nat.reduceBEq, Nat.reduceLT, Nat.reduceLeDiff, Nat.reduceAdd, Nat.reduceMul, Nat.reduceEqDiff, Int.reduceEq, Int.reduceLT, Int.reduceLE, Int.reduceNeg, Int.reduceToNat, Bool.false_eq_true, eq_self, sa, h11]
    refine hQ _ _ (5 - 3) (by omega) ?_
    refine ⟨3, rfl, by omega, ?_, ?_, ?_, ?_, s.trans (sB.trans s2x), hk⟩
    · simp (config := { maxSteps := 1000000 }) (disch := omega) only [↓sh, ↓sh2, ↓reduceIte, sx, sl, sb, st, nbeq_ne, dle, relo_eq, wrap_i64, Nat.reduceBEq, Nat.reduceLT, Nat.reduceLeDiff, Nat.reduceAdd, Nat.reduceMul, Nat.reduceEqDiff, Int.reduceEq, Int.reduceLT, Int.reduceLE, Int.reduceNeg, Int.reduceToNat, Bool.false_eq_true, eq_self, sa, h11]
      rfl
    · rw [hw1]
      simp (config := { maxSteps := 1000000 }) (disch := omega) only [↓sh, ↓sh2, ↓reduceIte, sx, sl, sb, st, nbeq_ne, dle, relo_eq, wrap_i64, Nat.reduceBEq, Nat.reduceLT, Nat.reduceLeDiff, Nat.reduceAdd, Nat.reduceMul, Nat.reduceEqDiff, Int.reduceEq, Int.reduceLT, Int.reduceLE, Int.reduceNeg, Int.reduceToNat, Bool.false_eq_true, eq_self, sa]
    · simp (config := { maxSteps := 1000000 }) (disch := omega) only [↓sh, ↓sh2, ↓reduceIte, sx, sl, sb, st, nbeq_ne, dle, relo_eq, wrap_i64, Nat.reduceBEq, Nat.reduceLT, Nat.reduceLeDiff, Nat.reduceAdd, Nat.reduceMul, Nat.reduceEqDiff, Int.reduceEq, Int.reduceLT, Int.reduceLE, Int.reduceNeg, Int.reduceToNat, Bool.false_eq_true, eq_self, sa, h5]
    · simp (config := { maxSteps := 1000000 }) (disch := omega) only [↓sh, ↓sh2, ↓reduceIte, sx, sl, sb, st, nbeq_ne, dle, relo_eq, wrap_i64, Nat.reduceBEq, Nat.reduceLT, Nat.reduceLeDiff, Nat.reduceAdd, Nat.reduceMul, Nat.reduceEqDiff, Int.reduceEq, Int.reduceLT, Int.reduceLE, Int.reduceNeg, Int.reduceToNat, Bool.false_eq_true, eq_self, sa, h10]
  · have hwl := wH_lt (h := h) (i := 3) (by omega) hall
    replace h11 : T.get 11 = some (.int .i64 3) := h11
    have sB := same_box X [Value.int .i64 0, Value.int .i64 0, Value.int .i64 0] [Value.int .i64 24, Value.int .i64 16, Value.int .i64 4096]
    cases y1 : decide (h.raws < 0)
    case true =>
      simp (config := { maxSteps := 1000000 }) (disch := omega) only [↓sh, ↓sh2, ↓reduceIte, sx, sl, sb, st, nbeq_ne, dle, relo_eq, wrap_i64, Nat.reduceBEq, Nat.reduceLT, Nat.reduceLeDiff, Nat.reduceAdd, Nat.reduceMul, Nat.reduceEqDiff, Int.reduceEq, Int.reduceLT, Int.reduceLE, Int.reduceNeg, Int.reduceToNat, Bool.false_eq_true, eq_self, sa, h11, h10, gX]
      refine wps_draw [(false, [], []), (false, [], []), (false, [], []), (false, [], []), (false, [], []), (false, [], []), (false, [], []), (false, [], []), (false, [], []), (false, [], []), (false, [], []), (false, [], [])] (by kernel_rfl) ?_
      simp (config := { maxSteps := 1000000 }) (disch := omega) only [↓sh, ↓sh2, ↓reduceIte, sx, sl, sb, st, nbeq_ne, dle, relo_eq, wrap_i64, Nat.reduceBEq, Nat.reduceLT, Nat.reduceLeDiff, Nat.reduceAdd, Nat.reduceMul, Nat.reduceEqDiff, Int.reduceEq, Int.reduceLT, Int.reduceLE, Int.reduceNeg, Int.reduceToNat, Bool.false_eq_true, eq_self, sa, h11, h10, h5, gX, y1]
      refine hQr _ _ _ ?_
      simp (config := { maxSteps := 1000000 }) (disch := omega) only [↓sh, ↓sh2, ↓reduceIte, sx, sl, sb, st, nbeq_ne, dle, relo_eq, wrap_i64, Nat.reduceBEq, Nat.reduceLT, Nat.reduceLeDiff, Nat.reduceAdd, Nat.reduceMul, Nat.reduceEqDiff, Int.reduceEq, Int.reduceLT, Int.reduceLE, Int.reduceNeg, Int.reduceToNat, Bool.false_eq_true, eq_self, sa]
      have hok := bad (by omega) (by simp only [okN, numH, y1]; rfl)
      rw [hok]
      exact ⟨rfl, s04.trans (s.trans sB)⟩
    cases y2 : decide (4096 < h.raws)
    case true =>
      simp (config := { maxSteps := 1000000 }) (disch := omega) only [↓sh, ↓sh2, ↓reduceIte, sx, sl, sb, st, nbeq_ne, dle, relo_eq, wrap_i64, Nat.reduceBEq, Nat.reduceLT, Nat.reduceLeDiff, Nat.reduceAdd, Nat.reduceMul, Nat.reduceEqDiff, Int.reduceEq, Int.reduceLT, Int.reduceLE, Int.reduceNeg, Int.reduceToNat, Bool.false_eq_true, eq_self, sa, h11, h10, gX]
      refine wps_draw [(false, [], []), (false, [], []), (false, [], []), (false, [], []), (false, [], []), (false, [], []), (false, [], []), (false, [], []), (false, [], []), (false, [], []), (false, [], []), (false, [], [])] (by kernel_rfl) ?_
      simp (config := { maxSteps := 1000000 }) (disch := omega) only [↓sh, ↓sh2, ↓reduceIte, sx, sl, sb, st, nbeq_ne, dle, relo_eq, wrap_i64, Nat.reduceBEq, Nat.reduceLT, Nat.reduceLeDiff, Nat.reduceAdd, Nat.reduceMul, Nat.reduceEqDiff, Int.reduceEq, Int.reduceLT, Int.reduceLE, Int.reduceNeg, Int.reduceToNat, Bool.false_eq_true, eq_self, sa, h11, h10, h5, gX, y1, y2]
      refine hQr _ _ _ ?_
      simp (config := { maxSteps := 1000000 }) (disch := omega) only [↓sh, ↓sh2, ↓reduceIte, sx, sl, sb, st, nbeq_ne, dle, relo_eq, wrap_i64, Nat.reduceBEq, Nat.reduceLT, Nat.reduceLeDiff, Nat.reduceAdd, Nat.reduceMul, Nat.reduceEqDiff, Int.reduceEq, Int.reduceLT, Int.reduceLE, Int.reduceNeg, Int.reduceToNat, Bool.false_eq_true, eq_self, sa]
      have hok := bad (by omega) (by simp only [okN, numH, mostP, y1, y2]; rfl)
      rw [hok]
      exact ⟨rfl, s04.trans (s.trans sB)⟩
    have hk := more (by omega) (by simp only [okN, numH, mostP, y1, y2]; rfl)
    have y3 : 0 ≤ h.raws := by rw [decide_eq_false_iff_not] at y1; omega
    have y4 : h.raws ≤ 4096 := by rw [decide_eq_false_iff_not] at y2; omega
    obtain ⟨x, hx⟩ : ∃ x : Nat, h.raws = x := ⟨(h.raws).toNat, by omega⟩
    have hnum : (numH h 3).toNat = x := by simp only [numH, hx, Int.toNat_natCast]
    have hcv : IntKind.u64.wrap (h.raws) = (x : Int) := by rw [wrap_u64 (by omega) (by omega)]; exact hx
    simp (config := { maxSteps := 1000000 }) (disch := omega) only [↓sh, ↓sh2, ↓reduceIte, sx, sl, sb, st, nbeq_ne, dle, relo_eq, wrap_i64, Nat.reduceBEq, Nat.reduceLT, Nat.reduceLeDiff, Nat.reduceAdd, Nat.reduceMul, Nat.reduceEqDiff, Int.reduceEq, Int.reduceLT, Int.reduceLE, Int.reduceNeg, Int.reduceToNat, Bool.false_eq_true, eq_self, sa, h11, h10, gX]
    refine wps_draw [(false, [], []), (false, [], []), (false, [], []), (false, [], []), (false, [], []), (false, [], []), (false, [], []), (false, [], []), (false, [], []), (false, [], []), (false, [], []), (false, [], [])] (by kernel_rfl) ?_
    simp (config := { maxSteps := 1000000 }) (disch := omega) only [↓sh, ↓sh2, ↓reduceIte, sx, sl, sb, st, nbeq_ne, dle, relo_eq, wrap_i64, Nat.reduceBEq, Nat.reduceLT, Nat.reduceLeDiff, Nat.reduceAdd, Nat.reduceMul, Nat.reduceEqDiff, Int.reduceEq, Int.reduceLT, Int.reduceLE, Int.reduceNeg, Int.reduceToNat, Bool.false_eq_true, eq_self, sa, h11, h10, h5, h4, gX, y1, y2]
    refine wps_draw [(false, [], []), (false, [], []), (false, [], []), (false, [], []), (false, [], []), (false, [], []), (false, [], []), (false, [], []), (false, [], []), (false, [], []), (false, [], []), (false, [], []), (false, [], []), (false, [], [])] (by kernel_rfl) ?_
    simp (config := { maxSteps := 1000000 }) (disch := omega) only [↓sh, ↓sh2, ↓reduceIte, sx, sl, sb, st, nbeq_ne, dle, relo_eq, wrap_i64, Nat.reduceBEq, Nat.reduceLT, Nat.reduceLeDiff, Nat.reduceAdd, Nat.reduceMul, Nat.reduceEqDiff, Int.reduceEq, Int.reduceLT, Int.reduceLE, Int.reduceNeg, Int.reduceToNat, Bool.false_eq_true, eq_self, sa, h11, h10, h5, h4, gX, hcv]
    refine (lay_ok _ (by simp (disch := omega) only [setRow_get, newRow_get, newRow_next, setRow_next, newRow_lo, setRow_lo, newRow_grps, setRow_grps, newRow_relo, setRow_relo, relo_objs, relo_next, relo_lo, nbeq_ne, sl]; omega) (wH h 3) x 24 16 hwl (by omega) (by omega) (by omega) (by omega)).mono ?_
    rintro r X2 ⟨rfl, s2x⟩
    have l2x := s2x.lo
    simp only [setRow_lo, newRow_lo] at l2x
    have hw1 : wH h 4 = wH h 3 + x * 2 ^ 24 := by
      show wH h 3 + (numH h 3).toNat * 2 ^ atP 3 = _
      rw [hnum]; rfl
    simp (config := { maxSteps := 1000000 }) (disch := omega) only [↓sh, ↓sh2, ↓reduceIte, sx, sl, sb, st, nbeq_ne, dle, relo_eq, wrap_i64, Nat.reduceBEq, Nat.reduceLT, Nat.reduceLeDiff, Nat.reduceAdd, Nat.reduceMul, Nat.reduceEqDiff, Int.reduceEq, Int.reduceLT, Int.reduceLE, Int.reduceNeg, Int.reduceToNat, Bool.false_eq_true, eq_self, sa, h11]
    refine hQ _ _ (5 - 4) (by omega) ?_
    refine ⟨4, rfl, by omega, ?_, ?_, ?_, ?_, s.trans (sB.trans s2x), hk⟩
    · simp (config := { maxSteps := 1000000 }) (disch := omega) only [↓sh, ↓sh2, ↓reduceIte, sx, sl, sb, st, nbeq_ne, dle, relo_eq, wrap_i64, Nat.reduceBEq, Nat.reduceLT, Nat.reduceLeDiff, Nat.reduceAdd, Nat.reduceMul, Nat.reduceEqDiff, Int.reduceEq, Int.reduceLT, Int.reduceLE, Int.reduceNeg, Int.reduceToNat, Bool.false_eq_true, eq_self, sa, h11]
      rfl
    · rw [hw1]
      simp (config := { maxSteps := 1000000 }) (disch := omega) only [↓sh, ↓sh2, ↓reduceIte, sx, sl, sb, st, nbeq_ne, dle, relo_eq, wrap_i64, Nat.reduceBEq, Nat.reduceLT, Nat.reduceLeDiff, Nat.reduceAdd, Nat.reduceMul, Nat.reduceEqDiff, Int.reduceEq, Int.reduceLT, Int.reduceLE, Int.reduceNeg, Int.reduceToNat, Bool.false_eq_true, eq_self, sa]
    · simp (config := { maxSteps := 1000000 }) (disch := omega) only [↓sh, ↓sh2, ↓reduceIte, sx, sl, sb, st, nbeq_ne, dle, relo_eq, wrap_i64, Nat.reduceBEq, Nat.reduceLT, Nat.reduceLeDiff, Nat.reduceAdd, Nat.reduceMul, Nat.reduceEqDiff, Int.reduceEq, Int.reduceLT, Int.reduceLE, Int.reduceNeg, Int.reduceToNat, Bool.false_eq_true, eq_self, sa, h5]
    · simp (config := { maxSteps := 1000000 }) (disch := omega) only [↓sh, ↓sh2, ↓reduceIte, sx, sl, sb, st, nbeq_ne, dle, relo_eq, wrap_i64, Nat.reduceBEq, Nat.reduceLT, Nat.reduceLeDiff, Nat.reduceAdd, Nat.reduceMul, Nat.reduceEqDiff, Int.reduceEq, Int.reduceLT, Int.reduceLE, Int.reduceNeg, Int.reduceToNat, Bool.false_eq_true, eq_self, sa, h10]
  · have hwl := wH_lt (h := h) (i := 4) (by omega) hall
    replace h11 : T.get 11 = some (.int .i64 4) := h11
    have sB := same_box X [Value.int .i64 0, Value.int .i64 0, Value.int .i64 0] [Value.int .i64 40, Value.int .i64 24, Value.int .i64 1048576]
    cases y1 : decide (h.cursor < 0)
    case true =>
      simp (config := { maxSteps := 1000000 }) (disch := omega) only [↓sh, ↓sh2, ↓reduceIte, sx, sl, sb, st, nbeq_ne, dle, relo_eq, wrap_i64, Nat.reduceBEq, Nat.reduceLT, Nat.reduceLeDiff, Nat.reduceAdd, Nat.reduceMul, Nat.reduceEqDiff, Int.reduceEq, Int.reduceLT, Int.reduceLE, Int.reduceNeg, Int.reduceToNat, Bool.false_eq_true, eq_self, sa, h11, h10, gX]
      refine wps_draw [(false, [], []), (false, [], []), (false, [], []), (false, [], []), (false, [], []), (false, [], []), (false, [], []), (false, [], []), (false, [], []), (false, [], []), (false, [], []), (false, [], [])] (by kernel_rfl) ?_
      simp (config := { maxSteps := 1000000 }) (disch := omega) only [↓sh, ↓sh2, ↓reduceIte, sx, sl, sb, st, nbeq_ne, dle, relo_eq, wrap_i64, Nat.reduceBEq, Nat.reduceLT, Nat.reduceLeDiff, Nat.reduceAdd, Nat.reduceMul, Nat.reduceEqDiff, Int.reduceEq, Int.reduceLT, Int.reduceLE, Int.reduceNeg, Int.reduceToNat, Bool.false_eq_true, eq_self, sa, h11, h10, h5, gX, y1]
      refine hQr _ _ _ ?_
      simp (config := { maxSteps := 1000000 }) (disch := omega) only [↓sh, ↓sh2, ↓reduceIte, sx, sl, sb, st, nbeq_ne, dle, relo_eq, wrap_i64, Nat.reduceBEq, Nat.reduceLT, Nat.reduceLeDiff, Nat.reduceAdd, Nat.reduceMul, Nat.reduceEqDiff, Int.reduceEq, Int.reduceLT, Int.reduceLE, Int.reduceNeg, Int.reduceToNat, Bool.false_eq_true, eq_self, sa]
      have hok := bad (by omega) (by simp only [okN, numH, y1]; rfl)
      rw [hok]
      exact ⟨rfl, s04.trans (s.trans sB)⟩
    cases y2 : decide (1048576 < h.cursor)
    case true =>
      simp (config := { maxSteps := 1000000 }) (disch := omega) only [↓sh, ↓sh2, ↓reduceIte, sx, sl, sb, st, nbeq_ne, dle, relo_eq, wrap_i64, Nat.reduceBEq, Nat.reduceLT, Nat.reduceLeDiff, Nat.reduceAdd, Nat.reduceMul, Nat.reduceEqDiff, Int.reduceEq, Int.reduceLT, Int.reduceLE, Int.reduceNeg, Int.reduceToNat, Bool.false_eq_true, eq_self, sa, h11, h10, gX]
      refine wps_draw [(false, [], []), (false, [], []), (false, [], []), (false, [], []), (false, [], []), (false, [], []), (false, [], []), (false, [], []), (false, [], []), (false, [], []), (false, [], []), (false, [], [])] (by kernel_rfl) ?_
      simp (config := { maxSteps := 1000000 }) (disch := omega) only [↓sh, ↓sh2, ↓reduceIte, sx, sl, sb, st, nbeq_ne, dle, relo_eq, wrap_i64, Nat.reduceBEq, Nat.reduceLT, Nat.reduceLeDiff, Nat.reduceAdd, Nat.reduceMul, Nat.reduceEqDiff, Int.reduceEq, Int.reduceLT, Int.reduceLE, Int.reduceNeg, Int.reduceToNat, Bool.false_eq_true, eq_self, sa, h11, h10, h5, gX, y1, y2]
      refine hQr _ _ _ ?_
      simp (config := { maxSteps := 1000000 }) (disch := omega) only [↓sh, ↓sh2, ↓reduceIte, sx, sl, sb, st, nbeq_ne, dle, relo_eq, wrap_i64, Nat.reduceBEq, Nat.reduceLT, Nat.reduceLeDiff, Nat.reduceAdd, Nat.reduceMul, Nat.reduceEqDiff, Int.reduceEq, Int.reduceLT, Int.reduceLE, Int.reduceNeg, Int.reduceToNat, Bool.false_eq_true, eq_self, sa]
      have hok := bad (by omega) (by simp only [okN, numH, mostP, y1, y2]; rfl)
      rw [hok]
      exact ⟨rfl, s04.trans (s.trans sB)⟩
    have hk := more (by omega) (by simp only [okN, numH, mostP, y1, y2]; rfl)
    have y3 : 0 ≤ h.cursor := by rw [decide_eq_false_iff_not] at y1; omega
    have y4 : h.cursor ≤ 1048576 := by rw [decide_eq_false_iff_not] at y2; omega
    obtain ⟨x, hx⟩ : ∃ x : Nat, h.cursor = x := ⟨(h.cursor).toNat, by omega⟩
    have hnum : (numH h 4).toNat = x := by simp only [numH, hx, Int.toNat_natCast]
    have hcv : IntKind.u64.wrap (h.cursor) = (x : Int) := by rw [wrap_u64 (by omega) (by omega)]; exact hx
    simp (config := { maxSteps := 1000000 }) (disch := omega) only [↓sh, ↓sh2, ↓reduceIte, sx, sl, sb, st, nbeq_ne, dle, relo_eq, wrap_i64, Nat.reduceBEq, Nat.reduceLT, Nat.reduceLeDiff, Nat.reduceAdd, Nat.reduceMul, Nat.reduceEqDiff, Int.reduceEq, Int.reduceLT, Int.reduceLE, Int.reduceNeg, Int.reduceToNat, Bool.false_eq_true, eq_self, sa, h11, h10, gX]
    refine wps_draw [(false, [], []), (false, [], []), (false, [], []), (false, [], []), (false, [], []), (false, [], []), (false, [], []), (false, [], []), (false, [], []), (false, [], []), (false, [], []), (false, [], [])] (by kernel_rfl) ?_
    simp (config := { maxSteps := 1000000 }) (disch := omega) only [↓sh, ↓sh2, ↓reduceIte, sx, sl, sb, st, nbeq_ne, dle, relo_eq, wrap_i64, Nat.reduceBEq, Nat.reduceLT, Nat.reduceLeDiff, Nat.reduceAdd, Nat.reduceMul, Nat.reduceEqDiff, Int.reduceEq, Int.reduceLT, Int.reduceLE, Int.reduceNeg, Int.reduceToNat, Bool.false_eq_true, eq_self, sa, h11, h10, h5, h4, gX, y1, y2]
    refine wps_draw [(false, [], []), (false, [], []), (false, [], []), (false, [], []), (false, [], []), (false, [], []), (false, [], []), (false, [], []), (false, [], []), (false, [], []), (false, [], []), (false, [], []), (false, [], []), (false, [], [])] (by kernel_rfl) ?_
    simp (config := { maxSteps := 1000000 }) (disch := omega) only [↓sh, ↓sh2, ↓reduceIte, sx, sl, sb, st, nbeq_ne, dle, relo_eq, wrap_i64, Nat.reduceBEq, Nat.reduceLT, Nat.reduceLeDiff, Nat.reduceAdd, Nat.reduceMul, Nat.reduceEqDiff, Int.reduceEq, Int.reduceLT, Int.reduceLE, Int.reduceNeg, Int.reduceToNat, Bool.false_eq_true, eq_self, sa, h11, h10, h5, h4, gX, hcv]
    refine (lay_ok _ (by simp (disch := omega) only [setRow_get, newRow_get, newRow_next, setRow_next, newRow_lo, setRow_lo, newRow_grps, setRow_grps, newRow_relo, setRow_relo, relo_objs, relo_next, relo_lo, nbeq_ne, sl]; omega) (wH h 4) x 40 24 hwl (by omega) (by omega) (by omega) (by omega)).mono ?_
    rintro r X2 ⟨rfl, s2x⟩
    have l2x := s2x.lo
    simp only [setRow_lo, newRow_lo] at l2x
    have hw1 : wH h 5 = wH h 4 + x * 2 ^ 40 := by
      show wH h 4 + (numH h 4).toNat * 2 ^ atP 4 = _
      rw [hnum]; rfl
    simp (config := { maxSteps := 1000000 }) (disch := omega) only [↓sh, ↓sh2, ↓reduceIte, sx, sl, sb, st, nbeq_ne, dle, relo_eq, wrap_i64, Nat.reduceBEq, Nat.reduceLT, Nat.reduceLeDiff, Nat.reduceAdd, Nat.reduceMul, Nat.reduceEqDiff, Int.reduceEq, Int.reduceLT, Int.reduceLE, Int.reduceNeg, Int.reduceToNat, Bool.false_eq_true, eq_self, sa, h11]
    refine hQ _ _ (5 - 5) (by omega) ?_
    refine ⟨5, rfl, by omega, ?_, ?_, ?_, ?_, s.trans (sB.trans s2x), hk⟩
    · simp (config := { maxSteps := 1000000 }) (disch := omega) only [↓sh, ↓sh2, ↓reduceIte, sx, sl, sb, st, nbeq_ne, dle, relo_eq, wrap_i64, Nat.reduceBEq, Nat.reduceLT, Nat.reduceLeDiff, Nat.reduceAdd, Nat.reduceMul, Nat.reduceEqDiff, Int.reduceEq, Int.reduceLT, Int.reduceLE, Int.reduceNeg, Int.reduceToNat, Bool.false_eq_true, eq_self, sa, h11]
      rfl
    · rw [hw1]
      simp (config := { maxSteps := 1000000 }) (disch := omega) only [↓sh, ↓sh2, ↓reduceIte, sx, sl, sb, st, nbeq_ne, dle, relo_eq, wrap_i64, Nat.reduceBEq, Nat.reduceLT, Nat.reduceLeDiff, Nat.reduceAdd, Nat.reduceMul, Nat.reduceEqDiff, Int.reduceEq, Int.reduceLT, Int.reduceLE, Int.reduceNeg, Int.reduceToNat, Bool.false_eq_true, eq_self, sa]
    · simp (config := { maxSteps := 1000000 }) (disch := omega) only [↓sh, ↓sh2, ↓reduceIte, sx, sl, sb, st, nbeq_ne, dle, relo_eq, wrap_i64, Nat.reduceBEq, Nat.reduceLT, Nat.reduceLeDiff, Nat.reduceAdd, Nat.reduceMul, Nat.reduceEqDiff, Int.reduceEq, Int.reduceLT, Int.reduceLE, Int.reduceNeg, Int.reduceToNat, Bool.false_eq_true, eq_self, sa, h5]
    · simp (config := { maxSteps := 1000000 }) (disch := omega) only [↓sh, ↓sh2, ↓reduceIte, sx, sl, sb, st, nbeq_ne, dle, relo_eq, wrap_i64, Nat.reduceBEq, Nat.reduceLT, Nat.reduceLeDiff, Nat.reduceAdd, Nat.reduceMul, Nat.reduceEqDiff, Int.reduceEq, Int.reduceLT, Int.reduceLE, Int.reduceNeg, Int.reduceToNat, Bool.false_eq_true, eq_self, sa, h10]
  · replace h11 : T.get 11 = some (.int .i64 5) := h11
    simp (config := { maxSteps := 1000000 }) (disch := omega) only [↓sh, ↓sh2, ↓reduceIte, sx, sl, sb, st, nbeq_ne, dle, relo_eq, wrap_i64, Nat.reduceBEq, Nat.reduceLT, Nat.reduceLeDiff, Nat.reduceAdd, Nat.reduceMul, Nat.reduceEqDiff, Int.reduceEq, Int.reduceLT, Int.reduceLE, Int.reduceNeg, Int.reduceToNat, Bool.false_eq_true, eq_self, sa, h11]
    refine hQe _ _ _ _ ?_
    simp (config := { maxSteps := 1000000 }) (disch := omega) only [↓sh, ↓sh2, ↓reduceIte, sx, sl, sb, st, nbeq_ne, dle, relo_eq, wrap_i64, Nat.reduceBEq, Nat.reduceLT, Nat.reduceLeDiff, Nat.reduceAdd, Nat.reduceMul, Nat.reduceEqDiff, Int.reduceEq, Int.reduceLT, Int.reduceLE, Int.reduceNeg, Int.reduceToNat, Bool.false_eq_true, eq_self, sa, h4]
    have hok : okH h = true := by
      rw [okH, List.all_eq_true]
      intro j hj
      exact hall j (by simpa using hj)
    rw [hok]
    exact ⟨rfl, s04.trans s⟩
end Go.AM
