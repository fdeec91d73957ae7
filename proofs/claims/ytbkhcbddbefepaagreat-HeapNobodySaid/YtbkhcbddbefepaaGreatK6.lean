/-
  Walks over letters of the functions that the law reaches.
-/
import Derived.Test.YtbkhcbddbefepaaGreatK5
namespace Go.AM
attribute [local instance] fnMaps
open Go Go.Proofs
set_option maxRecDepth 100000
set_option maxHeartbeats 1000000
set_option linter.unusedSimpArgs false
theorem fn107 : E.fn.get 107 = some Tryz.f107 := by kernel_rfl
theorem getW_lt (w a n : Nat) : getW w a n < 2 ^ n := Nat.mod_lt _ (Nat.pow_pos (by omega))
def sizeH (h : Hd) : Int := if okH h then 1 + h.fields + h.raws else 0
theorem okH_in {h : Hd} (hk : okH h = true) : 0 ≤ h.kind ∧ h.kind ≤ 31 ∧ 0 ≤ h.fields ∧ h.fields ≤ 4096 ∧ 0 ≤ h.raws ∧ h.raws ≤ 4096 ∧ 0 ≤ h.cursor ∧ h.cursor ≤ 1048576 := by
  have hj : ∀ j, j < 5 → okN h j = true := fun j hj => List.all_eq_true.1 hk j (by simpa using hj)
  have h1 := okN_in (hj 1 (by omega))
  have h2 := okN_in (hj 2 (by omega))
  have h3 := okN_in (hj 3 (by omega))
  have h4 := okN_in (hj 4 (by omega))
  simp only [numH, mostP] at h1 h2 h3 h4
  omega
theorem hsize_ok (H : Heap) (hlo : H.lo ≤ H.next) (h : Hd) : CallA E (fnv 31) [hdV h] H fun r H' => r = .int .i64 (sizeH h) ∧ Same H H' := by
  refine callA_fn (by kernel_rfl) fn31 rfl rfl ?_
  simp only [Tryz.f31, hdV]
  simp (config := { maxSteps := 1000000 }) (disch := omega) only [↓sh, ↓sh2, ↓reduceIte, sx, sl, sb, st, nbeq_ne, dle, relo_eq, wrap_i64, Nat.reduceBEq, Nat.reduceLT, Nat.reduceLeDiff, Nat.reduceAdd, Nat.reduceMul, Nat.reduceEqDiff, Int.reduceEq, Int.reduceLT, Int.reduceLE, Int.reduceNeg, Int.reduceToNat, Bool.false_eq_true, eq_self, sa]
  refine callA_named (fun H1 e1 => ?_)
  have s1 : Same H H1 := by rw [e1]; exact same_newRow _
  have n1 : H1.next = H.next + 1 := by rw [e1]; simp (disch := omega) only [setRow_get, newRow_get, newRow_next, setRow_next, newRow_lo, setRow_lo, newRow_grps, setRow_grps, newRow_relo, setRow_relo, relo_objs, relo_next, relo_lo, nbeq_ne, sl]
  have l1 := s1.lo
  have b1 : H1.objs.get H.next = some (.row [.int .i64 h.kind, .int .i64 h.fields, .int .i64 h.raws, .bool h.mark, .int .i64 h.cursor] none true) := by rw [e1]; simp (disch := omega) only [setRow_get, newRow_get, newRow_next, setRow_next, newRow_lo, setRow_lo, newRow_grps, setRow_grps, newRow_relo, setRow_relo, relo_objs, relo_next, relo_lo, nbeq_ne, sl]
  clear e1
  refine (enc_ok H1 (by omega) h).mono ?_
  rintro r H2 ⟨hr, s2⟩
  have b2 := s2.keeps (by omega) b1
  cases hk : okH h
  case false =>
    rw [hk] at hr
    replace hr : r = .tuple #[.int .u64 0, .int .i64 1] := hr
    subst hr
    simp (config := { maxSteps := 1000000 }) (disch := omega) only [↓sh, ↓sh2, ↓reduceIte, sx, sl, sb, st, nbeq_ne, dle, relo_eq, wrap_i64, Nat.reduceBEq, Nat.reduceLT, Nat.reduceLeDiff, Nat.reduceAdd, Nat.reduceMul, Nat.reduceEqDiff, Int.reduceEq, Int.reduceLT, Int.reduceLE, Int.reduceNeg, Int.reduceToNat, Bool.false_eq_true, eq_self, sa]
    exact ⟨by simp only [sizeH, hk]; rfl, s1.trans s2⟩
  rw [hk] at hr
  replace hr : r = .tuple #[.int .u64 (wH h 5 : Nat), .int .i64 0] := hr
  subst hr
  obtain ⟨q1, q2, q3, q4, q5, q6, q7, q8⟩ := okH_in hk
  simp (config := { maxSteps := 1000000 }) (disch := omega) only [↓sh, ↓sh2, ↓reduceIte, sx, sl, sb, st, nbeq_ne, dle, relo_eq, wrap_i64, Nat.reduceBEq, Nat.reduceLT, Nat.reduceLeDiff, Nat.reduceAdd, Nat.reduceMul, Nat.reduceEqDiff, Int.reduceEq, Int.reduceLT, Int.reduceLE, Int.reduceNeg, Int.reduceToNat, Bool.false_eq_true, eq_self, sa, b2]
  exact ⟨by simp only [sizeH, hk]; rfl, s1.trans s2⟩
def decHd (w : Nat) : Hd := ⟨(getW w 3 5 : Nat), (getW w 8 16 : Nat), (getW w 24 16 : Nat), decide (((getW w 2 1 : Nat) : Int) = 1), (getW w 40 24 : Nat)⟩
def isHd (w : Nat) : Bool := if okH (decHd w) then decide (wH (decHd w) 5 = w) else false
def zeroHd : Hd := ⟨0, 0, 0, false, 0⟩
theorem hdec_ok (H : Heap) (hlo : H.lo ≤ H.next) (w : Nat) (hw : w < 2 ^ 64) : CallA E (fnv 107) [.int .u64 (w : Int)] H fun r H' => r = .tuple #[hdV (if isHd w then decHd w else zeroHd), .int .i64 (if isHd w then 0 else 3)] ∧ Same H H' := by
  refine callA_fn (by kernel_rfl) fn107 rfl rfl ?_
  simp only [Tryz.f107]
  simp (config := { maxSteps := 1000000 }) (disch := omega) only [↓sh, ↓sh2, ↓reduceIte, sx, sl, sb, st, nbeq_ne, dle, relo_eq, wrap_i64, Nat.reduceBEq, Nat.reduceLT, Nat.reduceLeDiff, Nat.reduceAdd, Nat.reduceMul, Nat.reduceEqDiff, Int.reduceEq, Int.reduceLT, Int.reduceLE, Int.reduceNeg, Int.reduceToNat, Bool.false_eq_true, eq_self, sa]
  refine callA_named (fun H1 e1 => ?_)
  have s1 : Same H H1 := by rw [e1]; exact (same_newRow _).newRow _
  have n1 : H1.next = H.next + 1 + 1 := by rw [e1]; simp (disch := omega) only [setRow_get, newRow_get, newRow_next, setRow_next, newRow_lo, setRow_lo, newRow_grps, setRow_grps, newRow_relo, setRow_relo, relo_objs, relo_next, relo_lo, nbeq_ne, sl]
  have l1 := s1.lo
  have bR : H1.objs.get H.next = some (.row [.int .i64 0, .int .i64 0, .int .i64 0, .bool false, .int .i64 0] none true) := by rw [e1]; simp (disch := omega) only [setRow_get, newRow_get, newRow_next, setRow_next, newRow_lo, setRow_lo, newRow_grps, setRow_grps, newRow_relo, setRow_relo, relo_objs, relo_next, relo_lo, nbeq_ne, sl]
  have bN : H1.objs.get (H.next + 1) = some (.row [Value.int .i64 0, Value.int .i64 0, Value.int .i64 0, Value.int .i64 0, Value.int .i64 0] none true) := by rw [e1]; simp (disch := omega) only [setRow_get, newRow_get, newRow_next, setRow_next, newRow_lo, setRow_lo, newRow_grps, setRow_grps, newRow_relo, setRow_relo, relo_objs, relo_next, relo_lo, nbeq_ne, sl]
  clear e1
  refine (parts_ok H1 (by omega)).mono ?_
  rintro r H2 ⟨rfl, s2⟩
  have n2 := s2.nxt
  have l2 := s2.lo
  have bR := s2.keeps (by omega) bR
  have bN := s2.keeps (by omega) bN
  have s02 := s1.trans s2
  refine wp_loopQ (by kernel_rfl) (fun k T X => ∃ (i : Nat) (row : List Value), k = 5 - i ∧ i ≤ 5 ∧ T.get 13 = some (.int .i64 i) ∧ T.get 0 = some (.int .u64 (w : Int)) ∧ T.get 4 = some (ptr (H.next + 1) 0) ∧ T.get 2 = some (ptr H.next 0) ∧ T.get 12 = some (.agg #[.int .i64 2, .int .i64 1, .int .i64 1, .int .i64 3, .int .i64 5, .int .i64 31, .int .i64 8, .int .i64 16, .int .i64 4096, .int .i64 24, .int .i64 16, .int .i64 4096, .int .i64 40, .int .i64 24, .int .i64 1048576]) ∧ SameBut (H.next + 1) H2 X ∧ X.objs.get (H.next + 1) = some (.row row none true) ∧ ((i = 0 ∧ row = [Value.int .i64 0, Value.int .i64 0, Value.int .i64 0, Value.int .i64 0, Value.int .i64 0]) ∨ (i = 1 ∧ row = [Value.int .i64 ((getW w 2 1 : Nat) : Int), Value.int .i64 0, Value.int .i64 0, Value.int .i64 0, Value.int .i64 0]) ∨ (i = 2 ∧ row = [Value.int .i64 ((getW w 2 1 : Nat) : Int), Value.int .i64 ((getW w 3 5 : Nat) : Int), Value.int .i64 0, Value.int .i64 0, Value.int .i64 0]) ∨ (i = 3 ∧ row = [Value.int .i64 ((getW w 2 1 : Nat) : Int), Value.int .i64 ((getW w 3 5 : Nat) : Int), Value.int .i64 ((getW w 8 16 : Nat) : Int), Value.int .i64 0, Value.int .i64 0]) ∨ (i = 4 ∧ row = [Value.int .i64 ((getW w 2 1 : Nat) : Int), Value.int .i64 ((getW w 3 5 : Nat) : Int), Value.int .i64 ((getW w 8 16 : Nat) : Int), Value.int .i64 ((getW w 24 16 : Nat) : Int), Value.int .i64 0]) ∨ (i = 5 ∧ row = [Value.int .i64 ((getW w 2 1 : Nat) : Int), Value.int .i64 ((getW w 3 5 : Nat) : Int), Value.int .i64 ((getW w 8 16 : Nat) : Int), Value.int .i64 ((getW w 24 16 : Nat) : Int), Value.int .i64 ((getW w 40 24 : Nat) : Int)]))) 5 ?_ ?_
  · exact ⟨0, _, by omega, by omega, rfl, rfl, rfl, rfl, rfl, (Same.refl _).but _, bN, .inl ⟨rfl, rfl⟩⟩
  rintro k T X ⟨i, row, rfl, hi, h13, h0, h4, h2, h12, s, hX, hrow⟩ Qs hQ hQr hQe
  have nX := s.nxt
  have lX := s.lo
  have bRX := s.keeps (by omega) (by omega) bR
  have s0X := s.same s02 (by omega)
  rcases hrow with ⟨rfl, rfl⟩ | ⟨rfl, rfl⟩ | ⟨rfl, rfl⟩ | ⟨rfl, rfl⟩ | ⟨rfl, rfl⟩ | ⟨rfl, rfl⟩
  · replace h13 : T.get 13 = some (.int .i64 0) := h13
    have sB := same_box X [Value.int .i64 0, Value.int .i64 0, Value.int .i64 0] [Value.int .i64 2, Value.int .i64 1, Value.int .i64 1]
    have hlt := getW_lt w 2 1
    simp (config := { maxSteps := 1000000 }) (disch := omega) only [↓sh, ↓sh2, ↓reduceIte, sx, sl, sb, st, nbeq_ne, dle, relo_eq, wrap_i64, Nat.reduceBEq, Nat.reduceLT, Nat.reduceLeDiff, Nat.reduceAdd, Nat.reduceMul, Nat.reduceEqDiff, Int.reduceEq, Int.reduceLT, Int.reduceLE, Int.reduceNeg, Int.reduceToNat, Bool.false_eq_true, eq_self, sa, h13, h12, h0]
    refine (get_ok _ (by simp (disch := omega) only [setRow_get, newRow_get, newRow_next, setRow_next, newRow_lo, setRow_lo, newRow_grps, setRow_grps, newRow_relo, setRow_relo, relo_objs, relo_next, relo_lo, nbeq_ne, sl]; omega) w hw 2 1).mono ?_
    rintro r X2 ⟨hr, s2x⟩
    have l2x := s2x.lo
    simp only [setRow_lo, newRow_lo] at l2x
    have hX2 : X2.objs.get (H.next + 1) = _ := s2x.keeps (by simp (disch := omega) only [setRow_get, newRow_get, newRow_next, setRow_next, newRow_lo, setRow_lo, newRow_grps, setRow_grps, newRow_relo, setRow_relo, relo_objs, relo_next, relo_lo, nbeq_ne, sl]; omega) (sB.keeps (by omega) hX)
    replace hr : r = .tuple #[.int .u64 ((getW w 2 1 : Nat) : Int), .bool true] := hr
    subst hr
    simp (config := { maxSteps := 1000000 }) (disch := omega) only [↓sh, ↓sh2, ↓reduceIte, sx, sl, sb, st, nbeq_ne, dle, relo_eq, wrap_i64, Nat.reduceBEq, Nat.reduceLT, Nat.reduceLeDiff, Nat.reduceAdd, Nat.reduceMul, Nat.reduceEqDiff, Int.reduceEq, Int.reduceLT, Int.reduceLE, Int.reduceNeg, Int.reduceToNat, Bool.false_eq_true, eq_self, sa, h13, h4, hX2]
    refine hQ _ _ (5 - 1) (by omega) ?_
    refine ⟨1, _, rfl, by omega, ?_, ?_, ?_, ?_, ?_, (s.trans (sB.trans s2x)).setRow _, by simp (disch := omega) only [setRow_get, newRow_get, newRow_next, setRow_next, newRow_lo, setRow_lo, newRow_grps, setRow_grps, newRow_relo, setRow_relo, relo_objs, relo_next, relo_lo, nbeq_ne, sl], .inr (.inl ⟨rfl, rfl⟩)⟩
    · simp (config := { maxSteps := 1000000 }) (disch := omega) only [↓sh, ↓sh2, ↓reduceIte, sx, sl, sb, st, nbeq_ne, dle, relo_eq, wrap_i64, Nat.reduceBEq, Nat.reduceLT, Nat.reduceLeDiff, Nat.reduceAdd, Nat.reduceMul, Nat.reduceEqDiff, Int.reduceEq, Int.reduceLT, Int.reduceLE, Int.reduceNeg, Int.reduceToNat, Bool.false_eq_true, eq_self, sa, h13]
      rfl
    · simp (config := { maxSteps := 1000000 }) (disch := omega) only [↓sh, ↓sh2, ↓reduceIte, sx, sl, sb, st, nbeq_ne, dle, relo_eq, wrap_i64, Nat.reduceBEq, Nat.reduceLT, Nat.reduceLeDiff, Nat.reduceAdd, Nat.reduceMul, Nat.reduceEqDiff, Int.reduceEq, Int.reduceLT, Int.reduceLE, Int.reduceNeg, Int.reduceToNat, Bool.false_eq_true, eq_self, sa, h0]
    · simp (config := { maxSteps := 1000000 }) (disch := omega) only [↓sh, ↓sh2, ↓reduceIte, sx, sl, sb, st, nbeq_ne, dle, relo_eq, wrap_i64, Nat.reduceBEq, Nat.reduceLT, Nat.reduceLeDiff, Nat.reduceAdd, Nat.reduceMul, Nat.reduceEqDiff, Int.reduceEq, Int.reduceLT, Int.reduceLE, Int.reduceNeg, Int.reduceToNat, Bool.false_eq_true, eq_self, sa, h4]
    · simp (config := { maxSteps := 1000000 }) (disch := omega) only [↓sh, ↓sh2, ↓reduceIte, sx, sl, sb, st, nbeq_ne, dle, relo_eq, wrap_i64, Nat.reduceBEq, Nat.reduceLT, Nat.reduceLeDiff, Nat.reduceAdd, Nat.reduceMul, Nat.reduceEqDiff, Int.reduceEq, Int.reduceLT, Int.reduceLE, Int.reduceNeg, Int.reduceToNat, Bool.false_eq_true, eq_self, sa, h2]
    · simp (config := { maxSteps := 1000000 }) (disch := omega) only [↓sh, ↓sh2, ↓reduceIte, sx, sl, sb, st, nbeq_ne, dle, relo_eq, wrap_i64, Nat.reduceBEq, Nat.reduceLT, Nat.reduceLeDiff, Nat.reduceAdd, Nat.reduceMul, Nat.reduceEqDiff, Int.reduceEq, Int.reduceLT, Int.reduceLE, Int.reduceNeg, Int.reduceToNat, Bool.false_eq_true, eq_self, sa, h12]
  · replace h13 : T.get 13 = some (.int .i64 1) := h13
    have sB := same_box X [Value.int .i64 0, Value.int .i64 0, Value.int .i64 0] [Value.int .i64 3, Value.int .i64 5, Value.int .i64 31]
    have hlt := getW_lt w 3 5
    simp (config := { maxSteps := 1000000 }) (disch := omega) only [↓sh, ↓sh2, ↓reduceIte, sx, sl, sb, st, nbeq_ne, dle, relo_eq, wrap_i64, Nat.reduceBEq, Nat.reduceLT, Nat.reduceLeDiff, Nat.reduceAdd, Nat.reduceMul, Nat.reduceEqDiff, Int.reduceEq, Int.reduceLT, Int.reduceLE, Int.reduceNeg, Int.reduceToNat, Bool.false_eq_true, eq_self, sa, h13, h12, h0]
    refine (get_ok _ (by simp (disch := omega) only [setRow_get, newRow_get, newRow_next, setRow_next, newRow_lo, setRow_lo, newRow_grps, setRow_grps, newRow_relo, setRow_relo, relo_objs, relo_next, relo_lo, nbeq_ne, sl]; omega) w hw 3 5).mono ?_
    rintro r X2 ⟨hr, s2x⟩
    have l2x := s2x.lo
    simp only [setRow_lo, newRow_lo] at l2x
    have hX2 : X2.objs.get (H.next + 1) = _ := s2x.keeps (by simp (disch := omega) only [setRow_get, newRow_get, newRow_next, setRow_next, newRow_lo, setRow_lo, newRow_grps, setRow_grps, newRow_relo, setRow_relo, relo_objs, relo_next, relo_lo, nbeq_ne, sl]; omega) (sB.keeps (by omega) hX)
    replace hr : r = .tuple #[.int .u64 ((getW w 3 5 : Nat) : Int), .bool true] := hr
    subst hr
    simp (config := { maxSteps := 1000000 }) (disch := omega) only [↓sh, ↓sh2, ↓reduceIte, sx, sl, sb, st, nbeq_ne, dle, relo_eq, wrap_i64, Nat.reduceBEq, Nat.reduceLT, Nat.reduceLeDiff, Nat.reduceAdd, Nat.reduceMul, Nat.reduceEqDiff, Int.reduceEq, Int.reduceLT, Int.reduceLE, Int.reduceNeg, Int.reduceToNat, Bool.false_eq_true, eq_self, sa, h13, h4, hX2]
    refine hQ _ _ (5 - 2) (by omega) ?_
    refine ⟨2, _, rfl, by omega, ?_, ?_, ?_, ?_, ?_, (s.trans (sB.trans s2x)).setRow _, by simp (disch := omega) only [setRow_get, newRow_get, newRow_next, setRow_next, newRow_lo, setRow_lo, newRow_grps, setRow_grps, newRow_relo, setRow_relo, relo_objs, relo_next, relo_lo, nbeq_ne, sl], .inr (.inr (.inl ⟨rfl, rfl⟩))⟩
    · simp (config := { maxSteps := 1000000 }) (disch := omega) only [↓sh, ↓sh2, ↓reduceIte, sx, sl, sb, st, nbeq_ne, dle, relo_eq, wrap_i64, Nat.reduceBEq, Nat.reduceLT, Nat.reduceLeDiff, Nat.reduceAdd, Nat.reduceMul, Nat.reduceEqDiff, Int.reduceEq, Int.reduceLT, Int.reduceLE, Int.reduceNeg, Int.reduceToNat, Bool.false_eq_true, eq_self, sa, h13]
      rfl
    · simp (config := { maxSteps := 1000000 }) (disch := omega) only [↓sh, ↓sh2, ↓reduceIte, sx, sl, sb, st, nbeq_ne, dle, relo_eq, wrap_i64, Nat.reduceBEq, Nat.reduceLT, Nat.reduceLeDiff, Nat.reduceAdd, Nat.reduceMul, Nat.reduceEqDiff, Int.reduceEq, Int.reduceLT, Int.reduceLE, Int.reduceNeg, Int.reduceToNat, Bool.false_eq_true, eq_self, sa, h0]
    · simp (config := { maxSteps := 1000000 }) (disch := omega) only [↓sh, ↓sh2, ↓reduceIte, sx, sl, sb, st, nbeq_ne, dle, relo_eq, wrap_i64, Nat.reduceBEq, Nat.reduceLT, Nat.reduceLeDiff, Nat.reduceAdd, Nat.reduceMul, Nat.reduceEqDiff, Int.reduceEq, Int.reduceLT, Int.reduceLE, Int.reduceNeg, Int.reduceToNat, Bool.false_eq_true, eq_self, sa, h4]
    · simp (config := { maxSteps := 1000000 }) (disch := omega) only [↓sh, ↓sh2, ↓reduceIte, sx, sl, sb, st, nbeq_ne, dle, relo_eq, wrap_i64, Nat.reduceBEq, Nat.reduceLT, Nat.reduceLeDiff, Nat.reduceAdd, Nat.reduceMul, Nat.reduceEqDiff, Int.reduceEq, Int.reduceLT, Int.reduceLE, Int.reduceNeg, Int.reduceToNat, Bool.false_eq_true, eq_self, sa, h2]
    · simp (config := { maxSteps := 1000000 }) (disch := omega) only [↓sh, ↓sh2, ↓reduceIte, sx, sl, sb, st, nbeq_ne, dle, relo_eq, wrap_i64, Nat.reduceBEq, Nat.reduceLT, Nat.reduceLeDiff, Nat.reduceAdd, Nat.reduceMul, Nat.reduceEqDiff, Int.reduceEq, Int.reduceLT, Int.reduceLE, Int.reduceNeg, Int.reduceToNat, Bool.false_eq_true, eq_self, sa, h12]
  · replace h13 : T.get 13 = some (.int .i64 2) := h13
    have sB := same_box X [Value.int .i64 0, Value.int .i64 0, Value.int .i64 0] [Value.int .i64 8, Value.int .i64 16, Value.int .i64 4096]
    have hlt := getW_lt w 8 16
    simp (config := { maxSteps := 1000000 }) (disch := omega) only [↓sh, ↓sh2, ↓reduceIte, sx, sl, sb, st, nbeq_ne, dle, relo_eq, wrap_i64, Nat.reduceBEq, Nat.reduceLT, Nat.reduceLeDiff, Nat.reduceAdd, Nat.reduceMul, Nat.reduceEqDiff, Int.reduceEq, Int.reduceLT, Int.reduceLE, Int.reduceNeg, Int.reduceToNat, Bool.false_eq_true, eq_self, sa, h13, h12, h0]
    refine (get_ok _ (by simp (disch := omega) only [setRow_get, newRow_get, newRow_next, setRow_next, newRow_lo, setRow_lo, newRow_grps, setRow_grps, newRow_relo, setRow_relo, relo_objs, relo_next, relo_lo, nbeq_ne, sl]; omega) w hw 8 16).mono ?_
    rintro r X2 ⟨hr, s2x⟩
    have l2x := s2x.lo
    simp only [setRow_lo, newRow_lo] at l2x
    have hX2 : X2.objs.get (H.next + 1) = _ := s2x.keeps (by simp (disch := omega) only [setRow_get, newRow_get, newRow_next, setRow_next, newRow_lo, setRow_lo, newRow_grps, setRow_grps, newRow_relo, setRow_relo, relo_objs, relo_next, relo_lo, nbeq_ne, sl]; omega) (sB.keeps (by omega) hX)
    replace hr : r = .tuple #[.int .u64 ((getW w 8 16 : Nat) : Int), .bool true] := hr
    subst hr
    simp (config := { maxSteps := 1000000 }) (disch := omega) only [↓sh, ↓sh2, ↓reduceIte, sx, sl, sb, st, nbeq_ne, dle, relo_eq, wrap_i64, Nat.reduceBEq, Nat.reduceLT, Nat.reduceLeDiff, Nat.reduceAdd, Nat.reduceMul, Nat.reduceEqDiff, Int.reduceEq, Int.reduceLT, Int.reduceLE, Int.reduceNeg, Int.reduceToNat, Bool.false_eq_true, eq_self, sa, h13, h4, hX2]
    refine hQ _ _ (5 - 3) (by omega) ?_
    refine ⟨3, _, rfl, by omega, ?_, ?_, ?_, ?_, ?_, (s.trans (sB.trans s2x)).setRow _, by simp (disch := omega) only [setRow_get, newRow_get, newRow_next, setRow_next, newRow_lo, setRow_lo, newRow_grps, setRow_grps, newRow_relo, setRow_relo, relo_objs, relo_next, relo_lo, nbeq_ne, sl], .inr (.inr (.inr (.inl ⟨rfl, rfl⟩)))⟩
    · simp (config := { maxSteps := 1000000 }) (disch := omega) only [↓sh, ↓sh2, ↓reduceIte, sx, sl, sb, st, nbeq_ne, dle, relo_eq, wrap_i64, Nat.reduceBEq, Nat.reduceLT, Nat.reduceLeDiff, Nat.reduceAdd, Nat.reduceMul, Nat.reduceEqDiff, Int.reduceEq, Int.reduceLT, Int.reduceLE, Int.reduceNeg, Int.reduceToNat, Bool.false_eq_true, eq_self, sa, h13]
      rfl
    · simp (config := { maxSteps := 1000000 }) (disch := omega) only [↓sh, ↓sh2, ↓reduceIte, sx, sl, sb, st, nbeq_ne, dle, relo_eq, wrap_i64, Nat.reduceBEq, Nat.reduceLT, Nat.reduceLeDiff, Nat.reduceAdd, Nat.reduceMul, Nat.reduceEqDiff, Int.reduceEq, Int.reduceLT, Int.reduceLE, Int.reduceNeg, Int.reduceToNat, Bool.false_eq_true, eq_self, sa, h0]
    · simp (config := { maxSteps := 1000000 }) (disch := omega) only [↓sh, ↓sh2, ↓reduceIte, sx, sl, sb, st, nbeq_ne, dle, relo_eq, wrap_i64, Nat.reduceBEq, Nat.reduceLT, Nat.reduceLeDiff, Nat.reduceAdd, Nat.reduceMul, Nat.reduceEqDiff, Int.reduceEq, Int.reduceLT, Int.reduceLE, Int.reduceNeg, Int.reduceToNat, Bool.false_eq_true, eq_self, sa, h4]
    · simp (config := { maxSteps := 1000000 }) (disch := omega) only [↓sh, ↓sh2, ↓reduceIte, sx, sl, sb, st, nbeq_ne, dle, relo_eq, wrap_i64, Nat.reduceBEq, Nat.reduceLT, Nat.reduceLeDiff, Nat.reduceAdd, Nat.reduceMul, Nat.reduceEqDiff, Int.reduceEq, Int.reduceLT, Int.reduceLE, Int.reduceNeg, Int.reduceToNat, Bool.false_eq_true, eq_self, sa, h2]
    · simp (config := { maxSteps := 1000000 }) (disch := omega) only [↓sh, ↓sh2, ↓reduceIte, sx, sl, sb, st, nbeq_ne, dle, relo_eq, wrap_i64, Nat.reduceBEq, Nat.reduceLT, Nat.reduceLeDiff, Nat.reduceAdd, Nat.reduceMul, Nat.reduceEqDiff, Int.reduceEq, Int.reduceLT, Int.reduceLE, Int.reduceNeg, Int.reduceToNat, Bool.false_eq_true, eq_self, sa, h12]
  · replace h13 : T.get 13 = some (.int .i64 3) := h13
    have sB := same_box X [Value.int .i64 0, Value.int .i64 0, Value.int .i64 0] [Value.int .i64 24, Value.int .i64 16, Value.int .i64 4096]
    have hlt := getW_lt w 24 16
    simp (config := { maxSteps := 1000000 }) (disch := omega) only [↓sh, ↓sh2, ↓reduceIte, sx, sl, sb, st, nbeq_ne, dle, relo_eq, wrap_i64, Nat.reduceBEq, Nat.reduceLT, Nat.reduceLeDiff, Nat.reduceAdd, Nat.reduceMul, Nat.reduceEqDiff, Int.reduceEq, Int.reduceLT, Int.reduceLE, Int.reduceNeg, Int.reduceToNat, Bool.false_eq_true, eq_self, sa, h13, h12, h0]
    refine (get_ok _ (by simp (disch := omega) only [setRow_get, newRow_get, newRow_next, setRow_next, newRow_lo, setRow_lo, newRow_grps, setRow_grps, newRow_relo, setRow_relo, relo_objs, relo_next, relo_lo, nbeq_ne, sl]; omega) w hw 24 16).mono ?_
    rintro r X2 ⟨hr, s2x⟩
    have l2x := s2x.lo
    simp only [setRow_lo, newRow_lo] at l2x
    have hX2 : X2.objs.get (H.next + 1) = _ := s2x.keeps (by simp (disch := omega) only [setRow_get, newRow_get, newRow_next, setRow_next, newRow_lo, setRow_lo, newRow_grps, setRow_grps, newRow_relo, setRow_relo, relo_objs, relo_next, relo_lo, nbeq_ne, sl]; omega) (sB.keeps (by omega) hX)
    replace hr : r = .tuple #[.int .u64 ((getW w 24 16 : Nat) : Int), .bool true] := hr
    subst hr
    simp (config := { maxSteps := 1000000 }) (disch := omega) only [↓sh, ↓sh2, ↓reduceIte, sx, sl, sb, st, nbeq_ne, dle, relo_eq, wrap_i64, Nat.reduceBEq, Nat.reduceLT, Nat.reduceLeDiff, Nat.reduceAdd, Nat.reduceMul, Nat.reduceEqDiff, Int.reduceEq, Int.reduceLT, Int.reduceLE, Int.reduceNeg, Int.reduceToNat, Bool.false_eq_true, eq_self, sa, h13, h4, hX2]
    refine hQ _ _ (5 - 4) (by omega) ?_
    refine ⟨4, _, rfl, by omega, ?_, ?_, ?_, ?_, ?_, (s.trans (sB.trans s2x)).setRow _, by simp (disch := omega) only [setRow_get, newRow_get, newRow_next, setRow_next, newRow_lo, setRow_lo, newRow_grps, setRow_grps, newRow_relo, setRow_relo, relo_objs, relo_next, relo_lo, nbeq_ne, sl], .inr (.inr (.inr (.inr (.inl ⟨rfl, rfl⟩))))⟩
    · simp (config := { maxSteps := 1000000 }) (disch := omega) only [↓sh, ↓sh2, ↓reduceIte, sx, sl, sb, st, nbeq_ne, dle, relo_eq, wrap_i64, Nat.reduceBEq, Nat.reduceLT, Nat.reduceLeDiff, Nat.reduceAdd, Nat.reduceMul, Nat.reduceEqDiff, Int.reduceEq, Int.reduceLT, Int.reduceLE, Int.reduceNeg, Int.reduceToNat, Bool.false_eq_true, eq_self, sa, h13]
      rfl
    · simp (config := { maxSteps := 1000000 }) (disch := omega) only [↓sh, ↓sh2, ↓reduceIte, sx, sl, sb, st, nbeq_ne, dle, relo_eq, wrap_i64, Nat.reduceBEq, Nat.reduceLT, Nat.reduceLeDiff, Nat.reduceAdd, Nat.reduceMul, Nat.reduceEqDiff, Int.reduceEq, Int.reduceLT, Int.reduceLE, Int.reduceNeg, Int.reduceToNat, Bool.false_eq_true, eq_self, sa, h0]
    · simp (config := { maxSteps := 1000000 }) (disch := omega) only [↓sh, ↓sh2, ↓reduceIte, sx, sl, sb, st, nbeq_ne, dle, relo_eq, wrap_i64, Nat.reduceBEq, Nat.reduceLT, Nat.reduceLeDiff, Nat.reduceAdd, Nat.reduceMul, Nat.reduceEqDiff, Int.reduceEq, Int.reduceLT, Int.reduceLE, Int.reduceNeg, Int.reduceToNat, Bool.false_eq_true, eq_self, sa, h4]
    · simp (config := { maxSteps := 1000000 }) (disch := omega) only [↓sh, ↓sh2, ↓reduceIte, sx, sl, sb, st, nbeq_ne, dle, relo_eq, wrap_i64, Nat.reduceBEq, Nat.reduceLT, Nat.reduceLeDiff, Nat.reduceAdd, Nat.reduceMul, Nat.reduceEqDiff, Int.reduceEq, Int.reduceLT, Int.reduceLE, Int.reduceNeg, Int.reduceToNat, Bool.false_eq_true, eq_self, sa, h2]
    · simp (config := { maxSteps := 1000000 }) (disch := omega) only [↓sh, ↓sh2, ↓reduceIte, sx, sl, sb, st, nbeq_ne, dle, relo_eq, wrap_i64, Nat.reduceBEq, Nat.reduceLT, Nat.reduceLeDiff, Nat.reduceAdd, Nat.reduceMul, Nat.reduceEqDiff, Int.reduceEq, Int.reduceLT, Int.reduceLE, Int.reduceNeg, Int.reduceToNat, Bool.false_eq_true, eq_self, sa, h12]
  · replace h13 : T.get 13 = some (.int .i64 4) := h13
    have sB := same_box X [Value.int .i64 0, Value.int .i64 0, Value.int .i64 0] [Value.int .i64 40, Value.int .i64 24, Value.int .i64 1048576]
    have hlt := getW_lt w 40 24
    simp (config := { maxSteps := 1000000 }) (disch := omega) only [↓sh, ↓sh2, ↓reduceIte, sx, sl, sb, st, nbeq_ne, dle, relo_eq, wrap_i64, Nat.reduceBEq, Nat.reduceLT, Nat.reduceLeDiff, Nat.reduceAdd, Nat.reduceMul, Nat.reduceEqDiff, Int.reduceEq, Int.reduceLT, Int.reduceLE, Int.reduceNeg, Int.reduceToNat, Bool.false_eq_true, eq_self, sa, h13, h12, h0]
    refine (get_ok _ (by simp (disch := omega) only [setRow_get, newRow_get, newRow_next, setRow_next, newRow_lo, setRow_lo, newRow_grps, setRow_grps, newRow_relo, setRow_relo, relo_objs, relo_next, relo_lo, nbeq_ne, sl]; omega) w hw 40 24).mono ?_
    rintro r X2 ⟨hr, s2x⟩
    have l2x := s2x.lo
    simp only [setRow_lo, newRow_lo] at l2x
    have hX2 : X2.objs.get (H.next + 1) = _ := s2x.keeps (by simp (disch := omega) only [setRow_get, newRow_get, newRow_next, setRow_next, newRow_lo, setRow_lo, newRow_grps, setRow_grps, newRow_relo, setRow_relo, relo_objs, relo_next, relo_lo, nbeq_ne, sl]; omega) (sB.keeps (by omega) hX)
    replace hr : r = .tuple #[.int .u64 ((getW w 40 24 : Nat) : Int), .bool true] := hr
    subst hr
    simp (config := { maxSteps := 1000000 }) (disch := omega) only [↓sh, ↓sh2, ↓reduceIte, sx, sl, sb, st, nbeq_ne, dle, relo_eq, wrap_i64, Nat.reduceBEq, Nat.reduceLT, Nat.reduceLeDiff, Nat.reduceAdd, Nat.reduceMul, Nat.reduceEqDiff, Int.reduceEq, Int.reduceLT, Int.reduceLE, Int.reduceNeg, Int.reduceToNat, Bool.false_eq_true, eq_self, sa, h13, h4, hX2]
    refine hQ _ _ (5 - 5) (by omega) ?_
    refine ⟨5, _, rfl, by omega, ?_, ?_, ?_, ?_, ?_, (s.trans (sB.trans s2x)).setRow _, by simp (disch := omega) only [setRow_get, newRow_get, newRow_next, setRow_next, newRow_lo, setRow_lo, newRow_grps, setRow_grps, newRow_relo, setRow_relo, relo_objs, relo_next, relo_lo, nbeq_ne, sl], .inr (.inr (.inr (.inr (.inr (⟨rfl, rfl⟩)))))⟩
    · simp (config := { maxSteps := 1000000 }) (disch := omega) only [↓sh, ↓sh2, ↓reduceIte, sx, sl, sb, st, nbeq_ne, dle, relo_eq, wrap_i64, Nat.reduceBEq, Nat.reduceLT, Nat.reduceLeDiff, Nat.reduceAdd, Nat.reduceMul, Nat.reduceEqDiff, Int.reduceEq, Int.reduceLT, Int.reduceLE, Int.reduceNeg, Int.reduceToNat, Bool.false_eq_true, eq_self, sa, h13]
      rfl
    · simp (config := { maxSteps := 1000000 }) (disch := omega) only [↓sh, ↓sh2, ↓reduceIte, sx, sl, sb, st, nbeq_ne, dle, relo_eq, wrap_i64, Nat.reduceBEq, Nat.reduceLT, Nat.reduceLeDiff, Nat.reduceAdd, Nat.reduceMul, Nat.reduceEqDiff, Int.reduceEq, Int.reduceLT, Int.reduceLE, Int.reduceNeg, Int.reduceToNat, Bool.false_eq_true, eq_self, sa, h0]
    · simp (config := { maxSteps := 1000000 }) (disch := omega) only [↓sh, ↓sh2, ↓reduceIte, sx, sl, sb, st, nbeq_ne, dle, relo_eq, wrap_i64, Nat.reduceBEq, Nat.reduceLT, Nat.reduceLeDiff, Nat.reduceAdd, Nat.reduceMul, Nat.reduceEqDiff, Int.reduceEq, Int.reduceLT, Int.reduceLE, Int.reduceNeg, Int.reduceToNat, Bool.false_eq_true, eq_self, sa, h4]
    · simp (config := { maxSteps := 1000000 }) (disch := omega) only [↓sh, ↓sh2, ↓reduceIte, sx, sl, sb, st, nbeq_ne, dle, relo_eq, wrap_i64, Nat.reduceBEq, Nat.reduceLT, Nat.reduceLeDiff, Nat.reduceAdd, Nat.reduceMul, Nat.reduceEqDiff, Int.reduceEq, Int.reduceLT, Int.reduceLE, Int.reduceNeg, Int.reduceToNat, Bool.false_eq_true, eq_self, sa, h2]
    · simp (config := { maxSteps := 1000000 }) (disch := omega) only [↓sh, ↓sh2, ↓reduceIte, sx, sl, sb, st, nbeq_ne, dle, relo_eq, wrap_i64, Nat.reduceBEq, Nat.reduceLT, Nat.reduceLeDiff, Nat.reduceAdd, Nat.reduceMul, Nat.reduceEqDiff, Int.reduceEq, Int.reduceLT, Int.reduceLE, Int.reduceNeg, Int.reduceToNat, Bool.false_eq_true, eq_self, sa, h12]
  · replace h13 : T.get 13 = some (.int .i64 5) := h13
    simp (config := { maxSteps := 1000000 }) (disch := omega) only [↓sh, ↓sh2, ↓reduceIte, sx, sl, sb, st, nbeq_ne, dle, relo_eq, wrap_i64, Nat.reduceBEq, Nat.reduceLT, Nat.reduceLeDiff, Nat.reduceAdd, Nat.reduceMul, Nat.reduceEqDiff, Int.reduceEq, Int.reduceLT, Int.reduceLE, Int.reduceNeg, Int.reduceToNat, Bool.false_eq_true, eq_self, sa, h13]
    refine hQe _ _ _ _ ?_
    simp (config := { maxSteps := 1000000 }) (disch := omega) only [↓sh, ↓sh2, ↓reduceIte, sx, sl, sb, st, nbeq_ne, dle, relo_eq, wrap_i64, Nat.reduceBEq, Nat.reduceLT, Nat.reduceLeDiff, Nat.reduceAdd, Nat.reduceMul, Nat.reduceEqDiff, Int.reduceEq, Int.reduceLT, Int.reduceLE, Int.reduceNeg, Int.reduceToNat, Bool.false_eq_true, eq_self, sa, h4, hX]
    refine callA_named (fun H5 e5 => ?_)
    have s5 : Same X H5 := by rw [e5]; exact same_box _ _ _
    have n5 : H5.next = X.next + 1 := by rw [e5]; simp (disch := omega) only [setRow_get, newRow_get, newRow_next, setRow_next, newRow_lo, setRow_lo, newRow_grps, setRow_grps, newRow_relo, setRow_relo, relo_objs, relo_next, relo_lo, nbeq_ne, sl]
    have l5 := s5.lo
    have b5 : H5.objs.get X.next = some (.row (hdCells (decHd w)) none true) := by rw [e5, setRow_get, nbeq_eq rfl]; rfl
    clear e5
    refine (enc_ok H5 (by omega) (decHd w)).mono ?_
    rintro r H6 ⟨hr, s6⟩
    have n6 := s6.nxt
    have l6 := s6.lo
    have b6 := s6.keeps (by omega) b5
    have bR6 := s6.keeps (by omega) (s5.keeps (by omega) bRX)
    have s06 := s0X.trans (s5.trans s6)
    simp only [hdCells] at b6
    cases hk : okH (decHd w)
    case false =>
      rw [hk] at hr
      replace hr : r = .tuple #[.int .u64 0, .int .i64 1] := hr
      subst hr
      have hi : isHd w = false := by simp only [isHd, hk]; rfl
      simp (config := { maxSteps := 1000000 }) (disch := omega) only [↓sh, ↓sh2, ↓reduceIte, sx, sl, sb, st, nbeq_ne, dle, relo_eq, wrap_i64, Nat.reduceBEq, Nat.reduceLT, Nat.reduceLeDiff, Nat.reduceAdd, Nat.reduceMul, Nat.reduceEqDiff, Int.reduceEq, Int.reduceLT, Int.reduceLE, Int.reduceNeg, Int.reduceToNat, Bool.false_eq_true, eq_self, sa, h0, h2, bR6, b6]
      rw [hi]
      exact ⟨rfl, s06.setRow (by omega) _⟩
    rw [hk] at hr
    replace hr : r = .tuple #[.int .u64 (wH (decHd w) 5 : Nat), .int .i64 0] := hr
    subst hr
    cases he : decide (((wH (decHd w) 5 : Nat) : Int) = (w : Int))
    case false =>
      have hi : isHd w = false := by
        simp only [isHd, hk]
        rw [decide_eq_false_iff_not] at he
        rw [if_pos trivial, decide_eq_false_iff_not]
        omega
      simp (config := { maxSteps := 1000000 }) (disch := omega) only [↓sh, ↓sh2, ↓reduceIte, sx, sl, sb, st, nbeq_ne, dle, relo_eq, wrap_i64, Nat.reduceBEq, Nat.reduceLT, Nat.reduceLeDiff, Nat.reduceAdd, Nat.reduceMul, Nat.reduceEqDiff, Int.reduceEq, Int.reduceLT, Int.reduceLE, Int.reduceNeg, Int.reduceToNat, Bool.false_eq_true, eq_self, sa, h0, h2, bR6, b6, he]
      rw [hi]
      exact ⟨rfl, s06.setRow (by omega) _⟩
    have hi : isHd w = true := by
      simp only [isHd, hk]
      rw [decide_eq_true_iff] at he
      rw [if_pos trivial, decide_eq_true_iff]
      omega
    simp (config := { maxSteps := 1000000 }) (disch := omega) only [↓sh, ↓sh2, ↓reduceIte, sx, sl, sb, st, nbeq_ne, dle, relo_eq, wrap_i64, Nat.reduceBEq, Nat.reduceLT, Nat.reduceLeDiff, Nat.reduceAdd, Nat.reduceMul, Nat.reduceEqDiff, Int.reduceEq, Int.reduceLT, Int.reduceLE, Int.reduceNeg, Int.reduceToNat, Bool.false_eq_true, eq_self, sa, h0, h2, bR6, b6, he]
    rw [hi]
    exact ⟨rfl, s06.setRow (by omega) _⟩
end Go.AM
