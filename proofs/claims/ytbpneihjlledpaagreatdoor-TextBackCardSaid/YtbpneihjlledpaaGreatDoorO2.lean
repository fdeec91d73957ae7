/-
  Walks over letters of the functions that the law reaches.
-/
import Derived.Test.YtbpneihjlledpaaGreatDoorO1
set_option linter.unusedVariables false
set_option linter.unusedSectionVars false
namespace Go.AM
variable [Orc13]
attribute [local instance] fnMaps
open Go Go.Proofs
set_option maxRecDepth 100000
set_option maxHeartbeats 1000000
set_option linter.unusedSimpArgs false
theorem bin_seq {E : Env} (t : TypeId) (x y : Operand) (a b : ByteArray) : binV E .eql t x y (.string a) (.string b) = some (.bool (eqBytes a b)) := Eq.trans rfl rfl
def ofFrom (s : ByteArray) (i : Nat) : Nat → Int
  | 0 => 0
  | n + 1 => if eqBytes (nameB ((i : Int) + 1)) s then (i : Int) + 1 else ofFrom s (i + 1) n
def ofS (s : ByteArray) : Int := ofFrom s 0 10
theorem kcut (i : Nat) (h : i < 10) : cut kRow (i * 3) 3 = some [.string (nameB ((i : Int) + 1)), .string (usesB ((i : Int) + 1)), doV ((i : Int) + 1)] := by
  match i, h with
  | 0, _ => exact Eq.trans rfl rfl
  | 1, _ => exact Eq.trans rfl rfl
  | 2, _ => exact Eq.trans rfl rfl
  | 3, _ => exact Eq.trans rfl rfl
  | 4, _ => exact Eq.trans rfl rfl
  | 5, _ => exact Eq.trans rfl rfl
  | 6, _ => exact Eq.trans rfl rfl
  | 7, _ => exact Eq.trans rfl rfl
  | 8, _ => exact Eq.trans rfl rfl
  | 9, _ => exact Eq.trans rfl rfl
theorem opOf_ok (H : Heap) (hlo : H.lo ≤ H.next) (s : ByteArray) : CallA E (fnv 32) [.string s] H fun v H' => v = .int .i64 (ofS s) ∧ Same H H' := by
  refine callA_fn (by kernel_rfl) fn32 rfl rfl ?_
  simp only [Tryz.f32]
  simp (maxSteps := 1000000) (disch := omega) only [↓sgg, sww, simprocAttr, zero_78, lit_78, agg_78, size_78, bs_86, len_86, ia_86, fa_78_0, fa_78_1, agg_9, size_9, repeat_succ, repeat_zero, ble_dec, cellsV_str, cellsV_fn, isCell_fn, isCell_nf, isCell_do, Int.reduceSub, Int.reduceAdd, Int.reduceToNat, nat10, Int.reduceMul]
  refine (kinds_ok _).mono ?_
  rintro v H2 ⟨rfl, rfl⟩
  simp (maxSteps := 1000000) (disch := omega) only [↓sgg, sww, simprocAttr, zero_78, lit_78, agg_78, size_78, bs_86, len_86, ia_86, fa_78_0, fa_78_1, agg_9, size_9, repeat_succ, repeat_zero, ble_dec, cellsV_str, cellsV_fn, isCell_fn, isCell_nf, isCell_do, Int.reduceSub, Int.reduceAdd, Int.reduceToNat, nat10, Int.reduceMul]
  refine wp_loopQ (by kernel_rfl) (fun n T X => ∃ i : Nat, n = 10 - i ∧ i ≤ 10 ∧ T.get 7 = some (.int .i64 i) ∧ T.get 6 = some (.int .i64 10) ∧ T.get 5 = some (.slice (some ⟨H.next, 0, none⟩) 10 10) ∧ T.get 0 = some (.string s) ∧ ofS s = ofFrom s i (10 - i) ∧ Same (H.newRow kRow) X) 10 ?_ ?_
  · exact ⟨0, by omega, by omega, rfl, rfl, rfl, rfl, rfl, Same.refl _⟩
  rintro n T X ⟨i, rfl, hi, h7, h6, h5, h0, hs, sm⟩ Qs hQ hQr hQe
  have n1 := sm.nxt
  have l1 := sm.lo
  simp only [newRow_next, newRow_lo] at n1 l1
  by_cases hlt : i < 10
  · have hd : decide ((i : Int) < 10) = true := by simp; omega
    have hrow : X.objs.get H.next = some (.row kRow none true) := by
      refine sm.keeps (by simp only [newRow_next]; omega) ?_
      simp (disch := omega) only [setRow_get, newRow_get, newRow_next, setRow_next, newRow_lo, setRow_lo, newRow_grps, setRow_grps, newRow_relo, setRow_relo, relo_objs, relo_next, relo_lo, nbeq_ne, sl]
    have hk := kcut i hlt
    have hs2 : ofFrom s i (10 - i) = if eqBytes (nameB ((i : Int) + 1)) s then (i : Int) + 1 else ofFrom s (i + 1) (10 - (i + 1)) := by
      rw [show 10 - i = (10 - (i + 1)) + 1 by omega]
      rfl
    have s3 : ∀ z z', Same H ((X.newRow z).setRow X.next z') := fun z z' => ((same_newRow kRow).trans sm).trans (same_box _ _ _)
    cases he : eqBytes (nameB ((i : Int) + 1)) s with
    | true =>
      simp (maxSteps := 1000000) (disch := omega) only [↓sgg, sww, simprocAttr, zero_78, lit_78, agg_78, size_78, bs_86, len_86, ia_86, fa_78_0, fa_78_1, agg_9, size_9, repeat_succ, repeat_zero, ble_dec, cellsV_str, cellsV_fn, isCell_fn, isCell_nf, isCell_do, Int.reduceSub, Int.reduceAdd, Int.reduceToNat, nat10, Int.reduceMul, h7, h6, h5, h0, hd, at_nat hlt, hrow, hk, cutAll3, bin_seq, he]
      refine hQr _ _ _ ?_
      rw [he, if_pos rfl] at hs2
      simp (maxSteps := 1000000) (disch := omega) only [↓sgg, sww, simprocAttr, zero_78, lit_78, agg_78, size_78, bs_86, len_86, ia_86, fa_78_0, fa_78_1, agg_9, size_9, repeat_succ, repeat_zero, ble_dec, cellsV_str, cellsV_fn, isCell_fn, isCell_nf, isCell_do, Int.reduceSub, Int.reduceAdd, Int.reduceToNat, nat10, Int.reduceMul]
      exact ⟨by rw [hs, hs2], s3 _ _⟩
    | false =>
      simp (maxSteps := 1000000) (disch := omega) only [↓sgg, sww, simprocAttr, zero_78, lit_78, agg_78, size_78, bs_86, len_86, ia_86, fa_78_0, fa_78_1, agg_9, size_9, repeat_succ, repeat_zero, ble_dec, cellsV_str, cellsV_fn, isCell_fn, isCell_nf, isCell_do, Int.reduceSub, Int.reduceAdd, Int.reduceToNat, nat10, Int.reduceMul, h7, h6, h5, h0, hd, at_nat hlt, hrow, hk, cutAll3, bin_seq, he]
      refine hQ _ _ (10 - (i + 1)) (by omega) ?_
      rw [he] at hs2
      simp only [Bool.false_eq_true, if_false] at hs2
      refine ⟨i + 1, rfl, by omega, ?_, ?_, ?_, ?_, hs.trans hs2, sm.trans (same_box _ _ _)⟩ <;> simp (maxSteps := 1000000) (disch := omega) only [↓sgg, sww, simprocAttr, h7, h6, h5, h0, Int.natCast_add, Int.natCast_one]
  · have hd : decide ((i : Int) < 10) = false := by simp; omega
    simp (maxSteps := 1000000) (disch := omega) only [↓sgg, sww, simprocAttr, zero_78, lit_78, agg_78, size_78, bs_86, len_86, ia_86, fa_78_0, fa_78_1, agg_9, size_9, repeat_succ, repeat_zero, ble_dec, cellsV_str, cellsV_fn, isCell_fn, isCell_nf, isCell_do, Int.reduceSub, Int.reduceAdd, Int.reduceToNat, nat10, Int.reduceMul, h7, h6, h5, h0, hd]
    refine hQe _ _ _ _ ?_
    simp (maxSteps := 1000000) (disch := omega) only [↓sgg, sww, simprocAttr, zero_78, lit_78, agg_78, size_78, bs_86, len_86, ia_86, fa_78_0, fa_78_1, agg_9, size_9, repeat_succ, repeat_zero, ble_dec, cellsV_str, cellsV_fn, isCell_fn, isCell_nf, isCell_do, Int.reduceSub, Int.reduceAdd, Int.reduceToNat, nat10, Int.reduceMul]
    have : i = 10 := by omega
    subst this
    exact ⟨by rw [hs]; rfl, (same_newRow kRow).trans sm⟩
def anyC : List UInt8 → Int → Bool
  | [], _ => false
  | x :: l, c => if decide ((x.toNat : Int) = c) then true else anyC l c
def usesC (d c : Int) : Bool := anyC (usesB d).data.toList c
theorem ix_str (s : ByteArray) (k : IntKind) (i : Int) : indexV E 9 (.string s) (.int k i) = (at? i s.size).bind fun n => (s.data.toList[n]?).bind fun b => some (.int .u8 b.toNat) := by kernel_rfl
theorem size_len (s : ByteArray) : s.size = s.data.toList.length := by rw [Array.length_toList]; rfl
