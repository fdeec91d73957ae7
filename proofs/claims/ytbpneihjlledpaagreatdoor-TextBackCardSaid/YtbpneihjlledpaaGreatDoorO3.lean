/-
  Walks over letters of the functions that the law reaches.
-/
import Derived.Test.YtbpneihjlledpaaGreatDoorO2
set_option linter.unusedVariables false
set_option linter.unusedSectionVars false
namespace Go.AM
variable [Orc13]
attribute [local instance] fnMaps
open Go Go.Proofs
set_option maxRecDepth 100000
set_option maxHeartbeats 1000000
set_option linter.unusedSimpArgs false
theorem cut45 (a b c d e f g h i j k : Value) : cut [a, b, c, d, e, f, g, h, i, j, k] 4 2 = some [e, f] := Eq.trans (cut_eq _ _ _) rfl
theorem rng_str (H : Heap) (s : ByteArray) : rangeTO E H 9 (.string s) = some (.siter s 0) := by kernel_rfl
theorem nextV_at {H : Heap} {r pos : Nat} {s : ByteArray} {x : UInt8} (h : H.objs.get r = some (.siter s pos)) (hl : H.lo ≤ r) (hb : s.data.toList[pos]? = some x) (hx : x.toNat < 128) :
    nextV H (ptr r 0) = some (.tuple #[.bool true, .int .i64 pos, .int .i32 x.toNat], H.setObj r (.siter s (pos + 1))) := by
  have h1 : (!Nat.ble H.lo r) = false := by simpa using hl
  have h2 : Nat.blt x.toNat 128 = true := Nat.ble_eq_true_of_le hx
  simp only [nextV, ptr, h, h1, cond_false, nextC, hb, h2, cond_true, forceNat_eq]
theorem nextV_end {H : Heap} {r pos : Nat} {s : ByteArray} (h : H.objs.get r = some (.siter s pos)) (hl : H.lo ≤ r) (hb : s.data.toList[pos]? = none) : nextV H (ptr r 0) = some (.tuple #[.bool false], H) := by
  have h1 : (!Nat.ble H.lo r) = false := by simpa using hl
  simp only [nextV, ptr, h, h1, cond_false, nextC, hb]
def Q (l : List UInt8) (c x : Int) : Int := if anyC l c then x else 0
def outR (d h g i vk vx w k f r p : Int) (l : List UInt8) : List Value := [.int .i64 d, .int .i64 (Q l 104 h), .int .i64 (Q l 103 g), .int .i64 (Q l 105 i), .int .i64 (Q l 118 vk), .int .i64 (Q l 118 vx), .int .u64 (Q l 119 w), .int .i64 (Q l 107 k), .int .i64 (Q l 102 f), .int .i64 (Q l 114 r), .int .u8 (Q l 112 p)]
def inO (d h g i vk vx w k f r p : Int) : List Value := [.int .i64 d, .int .i64 h, .int .i64 g, .int .i64 i, .int .i64 vk, .int .i64 vx, .int .u64 w, .int .i64 k, .int .i64 f, .int .i64 r, .int .u8 p]
theorem anyC_snoc (c : Int) (x : UInt8) : ∀ l, anyC (l ++ [x]) c = (anyC l c || decide ((x.toNat : Int) = c))
  | [] => by simp only [List.nil_append, anyC]; cases decide ((x.toNat : Int) = c) <;> rfl
  | y :: l => by
    simp only [List.cons_append, anyC, anyC_snoc c x l]
    cases decide ((y.toNat : Int) = c) <;> rfl
theorem usesB_low (d : Int) : ∀ x ∈ (usesB d).data.toList, x.toNat < 128 := by
  have key : ∀ l : List UInt8, l.all (fun x => Nat.blt x.toNat 128) = true → ∀ x ∈ l, x.toNat < 128 := fun l h x hx => Nat.le_of_ble_eq_true (List.all_eq_true.1 h x hx)
  rcases in10 d with rfl | rfl | rfl | rfl | rfl | rfl | rfl | rfl | rfl | rfl | h
  · exact key _ rfl
  · exact key _ rfl
  · exact key _ rfl
  · exact key _ rfl
  · exact key _ rfl
  · exact key _ rfl
  · exact key _ rfl
  · exact key _ rfl
  · exact key _ rfl
  · exact key _ rfl
  · rw [(out_name h).2.1]; exact key _ rfl
theorem plain_ok (H : Heap) (hlo : H.lo ≤ H.next) (d h g i vk vx w k f r p : Int) (hd : -9223372036854775808 ≤ d ∧ d ≤ 9223372036854775807) : CallA E (fnv 19) [.agg (inO d h g i vk vx w k f r p).toArray] H fun v H' => v = .agg (outR d h g i vk vx w k f r p (usesB d).data.toList).toArray ∧ Same H H' := by
  refine callA_fn (by kernel_rfl) fn19 rfl rfl ?_
  simp only [Tryz.f19, inO]
  simp (maxSteps := 1000000) (disch := omega) only [↓sgg, sww, simprocAttr, fa_26_0, fa_26_1, fa_26_2, fa_26_3, fa_26_4, fa_26_5, fa_26_6, fa_26_7, fa_26_8, fa_26_9, zero_26, lit_26, agg_26, size_26, agg_3, size_3, agg_24, size_24, agg_5, size_5, agg_23, size_23, lit_23, zero_23, cutAll11, cut45, cutAll2, cutAll3]
  refine (of_ok _ (by simp (disch := omega) only [setRow_get, newRow_get, newRow_next, setRow_next, newRow_lo, setRow_lo, newRow_grps, setRow_grps, newRow_relo, setRow_relo, relo_objs, relo_next, relo_lo, nbeq_ne, sl]; omega) d hd).mono ?_
  rintro v H2 ⟨rfl, s2⟩
  have n2 := s2.nxt
  have l2 := s2.lo
  simp (disch := omega) only [setRow_get, newRow_get, newRow_next, setRow_next, newRow_lo, setRow_lo, newRow_grps, setRow_grps, newRow_relo, setRow_relo, relo_objs, relo_next, relo_lo, nbeq_ne, sl] at n2 l2
  have r1 := s2.objs H.next (by simp (disch := omega) only [setRow_get, newRow_get, newRow_next, setRow_next, newRow_lo, setRow_lo, newRow_grps, setRow_grps, newRow_relo, setRow_relo, relo_objs, relo_next, relo_lo, nbeq_ne, sl]; omega)
  have r2 := s2.objs (H.next + 1) (by simp (disch := omega) only [setRow_get, newRow_get, newRow_next, setRow_next, newRow_lo, setRow_lo, newRow_grps, setRow_grps, newRow_relo, setRow_relo, relo_objs, relo_next, relo_lo, nbeq_ne, sl]; omega)
  have r3 := s2.objs (H.next + 1 + 1) (by simp (disch := omega) only [setRow_get, newRow_get, newRow_next, setRow_next, newRow_lo, setRow_lo, newRow_grps, setRow_grps, newRow_relo, setRow_relo, relo_objs, relo_next, relo_lo, nbeq_ne, sl]; omega)
  simp (disch := omega) only [setRow_get, newRow_get, newRow_next, setRow_next, newRow_lo, setRow_lo, newRow_grps, setRow_grps, newRow_relo, setRow_relo, relo_objs, relo_next, relo_lo, nbeq_ne, sl] at r1 r2 r3
  have sH : Same H H2 := by
    refine Same.trans ?_ s2
    repeat (first | exact Same.refl _ | refine Same.setRow ?_ (by omega) _ | refine Same.newRow ?_ _)
  simp (maxSteps := 1000000) (disch := omega) only [↓sgg, sww, simprocAttr, zero_78, lit_78, agg_78, size_78, fa_78_0, fa_78_1, agg_9, size_9, cellsV_str, isCell_do, fa_26_0, fa_26_1, fa_26_2, fa_26_3, fa_26_4, fa_26_5, fa_26_6, fa_26_7, fa_26_8, fa_26_9, zero_26, lit_26, agg_26, size_26, agg_3, size_3, agg_24, size_24, agg_5, size_5, agg_23, size_23, lit_23, zero_23, cutAll11, cut45, cutAll2, cutAll3, r1, r2, r3]
  have hlow := usesB_low d
  generalize usesB d = s at *
  generalize hl : s.data.toList = l at *
  simp (maxSteps := 1000000) (disch := omega) only [↓sgg, sww, simprocAttr, rng_str]
  refine wp_loopQ (by kernel_rfl) (fun n T X => ∃ j : Nat, n = l.length - j ∧ j ≤ l.length ∧ T.get 19 = some (ptr (H2.next + 1) 0) ∧ T.get 1 = some (ptr H.next 0) ∧ T.get 2 = some (ptr (H.next + 1) 0) ∧ T.get 3 = some (ptr (H.next + 1 + 1) 0) ∧
    X.objs.get (H2.next + 1) = some (.siter s j) ∧ X.objs.get H.next = some (.row (inO d h g i vk vx w k f r p) none true) ∧ X.objs.get (H.next + 1) = some (.row [.int .i64 0, .int .i64 0, .int .i64 0, .int .i64 0, .int .i64 0, .int .i64 0, .int .u64 0, .int .i64 0, .int .i64 0, .int .i64 0, .int .u8 0] none true) ∧
    X.objs.get (H.next + 1 + 1) = some (.row (outR d h g i vk vx w k f r p (l.take j)) none true) ∧ X.lo = H.lo ∧ Same H X) l.length ?_ ?_
  · refine ⟨0, by omega, by omega, ?_, ?_, ?_, ?_, ?_, ?_, ?_, ?_, ?_, ?_⟩
    · simp (maxSteps := 1000000) (disch := omega) only [↓sgg, sww, simprocAttr]
    · simp (maxSteps := 1000000) (disch := omega) only [↓sgg, sww, simprocAttr]
    · simp (maxSteps := 1000000) (disch := omega) only [↓sgg, sww, simprocAttr]
    · simp (maxSteps := 1000000) (disch := omega) only [↓sgg, sww, simprocAttr]
    · simp (disch := omega) only [setRow_get, newRow_get, newRow_next, setRow_next, newRow_lo, setRow_lo, newRow_grps, setRow_grps, newRow_relo, setRow_relo, relo_objs, relo_next, relo_lo, nbeq_ne, sl, addO_get]
    · simp (disch := omega) only [setRow_get, newRow_get, newRow_next, setRow_next, newRow_lo, setRow_lo, newRow_grps, setRow_grps, newRow_relo, setRow_relo, relo_objs, relo_next, relo_lo, nbeq_ne, sl, addO_get, r1, inO]
    · simp (disch := omega) only [setRow_get, newRow_get, newRow_next, setRow_next, newRow_lo, setRow_lo, newRow_grps, setRow_grps, newRow_relo, setRow_relo, relo_objs, relo_next, relo_lo, nbeq_ne, sl, addO_get, r2]
    · simp (disch := omega) only [setRow_get, newRow_get, newRow_next, setRow_next, newRow_lo, setRow_lo, newRow_grps, setRow_grps, newRow_relo, setRow_relo, relo_objs, relo_next, relo_lo, nbeq_ne, sl, addO_get, r3, outR, Q, List.take_zero, anyC, Bool.false_eq_true, if_false]
    · simp (disch := omega) only [setRow_get, newRow_get, newRow_next, setRow_next, newRow_lo, setRow_lo, newRow_grps, setRow_grps, newRow_relo, setRow_relo, relo_objs, relo_next, relo_lo, nbeq_ne, sl, add_lo, l2]
    · exact (sH.trans (same_box _ _ _)).trans (same_add _ _)
  rintro n T X ⟨j, rfl, hj, h19, h1, h2, h3, gI, g1, g2, g3, hXlo, sX⟩ Qs hQ hQr hQe
  simp only [inO] at g1
  have g3' := g3
  simp only [outR] at g3
  by_cases hlt : j < l.length
  · generalize hx : l[j] = x at *
    have hb : s.data.toList[j]? = some x := by rw [hl, List.getElem?_eq_getElem hlt, hx]
    have hn := nextV_at gI (by omega) hb (hlow x (by rw [← hx]; exact List.getElem_mem hlt))
    have htk : l.take (j + 1) = l.take j ++ [x] := by rw [List.take_add_one, List.getElem?_eq_getElem hlt, hx]; rfl
    have qset : ∀ c y, decide ((x.toNat : Int) = c) = true → Q (l.take (j + 1)) c y = y := fun c y hc => by
      simp only [Q, htk, anyC_snoc, hc, Bool.or_true, if_true]
    have qsame : ∀ c y, decide ((x.toNat : Int) = c) = false → Q (l.take (j + 1)) c y = Q (l.take j) c y := fun c y hc => by
      simp only [Q, htk, anyC_snoc, hc, Bool.or_false]
    have sN : ∀ z, Same H ((X.setObj (H2.next + 1) (.siter s (j + 1))).setRow (H.next + 1 + 1) z) := fun z => (same_setO sX (by omega) _).setRow (by omega) _
    by_cases c107 : (x.toNat : Int) = 107
    · have e107 : decide ((x.toNat : Int) = 107) = true := by simpa using c107
      have e102 : decide ((x.toNat : Int) = 102) = false := by rw [c107]; rfl
      have e114 : decide ((x.toNat : Int) = 114) = false := by rw [c107]; rfl
      have e112 : decide ((x.toNat : Int) = 112) = false := by rw [c107]; rfl
      have e104 : decide ((x.toNat : Int) = 104) = false := by rw [c107]; rfl
      have e103 : decide ((x.toNat : Int) = 103) = false := by rw [c107]; rfl
      have e105 : decide ((x.toNat : Int) = 105) = false := by rw [c107]; rfl
      have e118 : decide ((x.toNat : Int) = 118) = false := by rw [c107]; rfl
      have e119 : decide ((x.toNat : Int) = 119) = false := by rw [c107]; rfl
      simp (maxSteps := 1000000) (disch := omega) only [↓sgg, sww, simprocAttr, fa_26_0, fa_26_1, fa_26_2, fa_26_3, fa_26_4, fa_26_5, fa_26_6, fa_26_7, fa_26_8, fa_26_9, zero_26, lit_26, agg_26, size_26, agg_3, size_3, agg_24, size_24, agg_5, size_5, agg_23, size_23, lit_23, zero_23, cutAll11, cut45, cutAll2, cutAll3, setO_get, setO_next, setO_lo, setO_grps, h19, h1, h2, h3, hn, g1, g2, g3, hXlo, e107, e102, e114, e112, e104, e103, e105, e118, e119]
      refine hQ _ _ (l.length - (j + 1)) (by omega) ?_
      refine ⟨j + 1, rfl, by omega, ?_, ?_, ?_, ?_, ?_, ?_, ?_, ?_, ?_, sN _⟩
      · simp (maxSteps := 1000000) (disch := omega) only [↓sgg, sww, simprocAttr, h19]
      · simp (maxSteps := 1000000) (disch := omega) only [↓sgg, sww, simprocAttr, h1]
      · simp (maxSteps := 1000000) (disch := omega) only [↓sgg, sww, simprocAttr, h2]
      · simp (maxSteps := 1000000) (disch := omega) only [↓sgg, sww, simprocAttr, h3]
      · simp (disch := omega) only [setRow_get, newRow_get, newRow_next, setRow_next, newRow_lo, setRow_lo, newRow_grps, setRow_grps, newRow_relo, setRow_relo, relo_objs, relo_next, relo_lo, nbeq_ne, sl, setO_get, setO_next, setO_lo, setO_grps]
      · simp (disch := omega) only [setRow_get, newRow_get, newRow_next, setRow_next, newRow_lo, setRow_lo, newRow_grps, setRow_grps, newRow_relo, setRow_relo, relo_objs, relo_next, relo_lo, nbeq_ne, sl, setO_get, setO_next, setO_lo, setO_grps, g1, inO]
      · simp (disch := omega) only [setRow_get, newRow_get, newRow_next, setRow_next, newRow_lo, setRow_lo, newRow_grps, setRow_grps, newRow_relo, setRow_relo, relo_objs, relo_next, relo_lo, nbeq_ne, sl, setO_get, setO_next, setO_lo, setO_grps, g2]
      · simp (disch := omega) only [setRow_get, newRow_get, newRow_next, setRow_next, newRow_lo, setRow_lo, newRow_grps, setRow_grps, newRow_relo, setRow_relo, relo_objs, relo_next, relo_lo, nbeq_ne, sl, setO_get, setO_next, setO_lo, setO_grps, outR, qset _ _ e107, qsame _ _ e102, qsame _ _ e114, qsame _ _ e112, qsame _ _ e104, qsame _ _ e103, qsame _ _ e105, qsame _ _ e118, qsame _ _ e119]
      · simp (disch := omega) only [setRow_get, newRow_get, newRow_next, setRow_next, newRow_lo, setRow_lo, newRow_grps, setRow_grps, newRow_relo, setRow_relo, relo_objs, relo_next, relo_lo, nbeq_ne, sl, setO_get, setO_next, setO_lo, setO_grps, hXlo]
    have e107 : decide ((x.toNat : Int) = 107) = false := by simpa using c107
    by_cases c102 : (x.toNat : Int) = 102
    · have e102 : decide ((x.toNat : Int) = 102) = true := by simpa using c102
      have e114 : decide ((x.toNat : Int) = 114) = false := by rw [c102]; rfl
      have e112 : decide ((x.toNat : Int) = 112) = false := by rw [c102]; rfl
      have e104 : decide ((x.toNat : Int) = 104) = false := by rw [c102]; rfl
      have e103 : decide ((x.toNat : Int) = 103) = false := by rw [c102]; rfl
      have e105 : decide ((x.toNat : Int) = 105) = false := by rw [c102]; rfl
      have e118 : decide ((x.toNat : Int) = 118) = false := by rw [c102]; rfl
      have e119 : decide ((x.toNat : Int) = 119) = false := by rw [c102]; rfl
      simp (maxSteps := 1000000) (disch := omega) only [↓sgg, sww, simprocAttr, fa_26_0, fa_26_1, fa_26_2, fa_26_3, fa_26_4, fa_26_5, fa_26_6, fa_26_7, fa_26_8, fa_26_9, zero_26, lit_26, agg_26, size_26, agg_3, size_3, agg_24, size_24, agg_5, size_5, agg_23, size_23, lit_23, zero_23, cutAll11, cut45, cutAll2, cutAll3, setO_get, setO_next, setO_lo, setO_grps, h19, h1, h2, h3, hn, g1, g2, g3, hXlo, e107, e102, e114, e112, e104, e103, e105, e118, e119]
      refine hQ _ _ (l.length - (j + 1)) (by omega) ?_
      refine ⟨j + 1, rfl, by omega, ?_, ?_, ?_, ?_, ?_, ?_, ?_, ?_, ?_, sN _⟩
      · simp (maxSteps := 1000000) (disch := omega) only [↓sgg, sww, simprocAttr, h19]
      · simp (maxSteps := 1000000) (disch := omega) only [↓sgg, sww, simprocAttr, h1]
      · simp (maxSteps := 1000000) (disch := omega) only [↓sgg, sww, simprocAttr, h2]
      · simp (maxSteps := 1000000) (disch := omega) only [↓sgg, sww, simprocAttr, h3]
      · simp (disch := omega) only [setRow_get, newRow_get, newRow_next, setRow_next, newRow_lo, setRow_lo, newRow_grps, setRow_grps, newRow_relo, setRow_relo, relo_objs, relo_next, relo_lo, nbeq_ne, sl, setO_get, setO_next, setO_lo, setO_grps]
      · simp (disch := omega) only [setRow_get, newRow_get, newRow_next, setRow_next, newRow_lo, setRow_lo, newRow_grps, setRow_grps, newRow_relo, setRow_relo, relo_objs, relo_next, relo_lo, nbeq_ne, sl, setO_get, setO_next, setO_lo, setO_grps, g1, inO]
      · simp (disch := omega) only [setRow_get, newRow_get, newRow_next, setRow_next, newRow_lo, setRow_lo, newRow_grps, setRow_grps, newRow_relo, setRow_relo, relo_objs, relo_next, relo_lo, nbeq_ne, sl, setO_get, setO_next, setO_lo, setO_grps, g2]
      · simp (disch := omega) only [setRow_get, newRow_get, newRow_next, setRow_next, newRow_lo, setRow_lo, newRow_grps, setRow_grps, newRow_relo, setRow_relo, relo_objs, relo_next, relo_lo, nbeq_ne, sl, setO_get, setO_next, setO_lo, setO_grps, outR, qsame _ _ e107, qset _ _ e102, qsame _ _ e114, qsame _ _ e112, qsame _ _ e104, qsame _ _ e103, qsame _ _ e105, qsame _ _ e118, qsame _ _ e119]
      · simp (disch := omega) only [setRow_get, newRow_get, newRow_next, setRow_next, newRow_lo, setRow_lo, newRow_grps, setRow_grps, newRow_relo, setRow_relo, relo_objs, relo_next, relo_lo, nbeq_ne, sl, setO_get, setO_next, setO_lo, setO_grps, hXlo]
    have e102 : decide ((x.toNat : Int) = 102) = false := by simpa using c102
    by_cases c114 : (x.toNat : Int) = 114
    · have e114 : decide ((x.toNat : Int) = 114) = true := by simpa using c114
      have e112 : decide ((x.toNat : Int) = 112) = false := by rw [c114]; rfl
      have e104 : decide ((x.toNat : Int) = 104) = false := by rw [c114]; rfl
      have e103 : decide ((x.toNat : Int) = 103) = false := by rw [c114]; rfl
      have e105 : decide ((x.toNat : Int) = 105) = false := by rw [c114]; rfl
      have e118 : decide ((x.toNat : Int) = 118) = false := by rw [c114]; rfl
      have e119 : decide ((x.toNat : Int) = 119) = false := by rw [c114]; rfl
      simp (maxSteps := 1000000) (disch := omega) only [↓sgg, sww, simprocAttr, fa_26_0, fa_26_1, fa_26_2, fa_26_3, fa_26_4, fa_26_5, fa_26_6, fa_26_7, fa_26_8, fa_26_9, zero_26, lit_26, agg_26, size_26, agg_3, size_3, agg_24, size_24, agg_5, size_5, agg_23, size_23, lit_23, zero_23, cutAll11, cut45, cutAll2, cutAll3, setO_get, setO_next, setO_lo, setO_grps, h19, h1, h2, h3, hn, g1, g2, g3, hXlo, e107, e102, e114, e112, e104, e103, e105, e118, e119]
      refine hQ _ _ (l.length - (j + 1)) (by omega) ?_
      refine ⟨j + 1, rfl, by omega, ?_, ?_, ?_, ?_, ?_, ?_, ?_, ?_, ?_, sN _⟩
      · simp (maxSteps := 1000000) (disch := omega) only [↓sgg, sww, simprocAttr, h19]
      · simp (maxSteps := 1000000) (disch := omega) only [↓sgg, sww, simprocAttr, h1]
      · simp (maxSteps := 1000000) (disch := omega) only [↓sgg, sww, simprocAttr, h2]
      · simp (maxSteps := 1000000) (disch := omega) only [↓sgg, sww, simprocAttr, h3]
      · simp (disch := omega) only [setRow_get, newRow_get, newRow_next, setRow_next, newRow_lo, setRow_lo, newRow_grps, setRow_grps, newRow_relo, setRow_relo, relo_objs, relo_next, relo_lo, nbeq_ne, sl, setO_get, setO_next, setO_lo, setO_grps]
      · simp (disch := omega) only [setRow_get, newRow_get, newRow_next, setRow_next, newRow_lo, setRow_lo, newRow_grps, setRow_grps, newRow_relo, setRow_relo, relo_objs, relo_next, relo_lo, nbeq_ne, sl, setO_get, setO_next, setO_lo, setO_grps, g1, inO]
      · simp (disch := omega) only [setRow_get, newRow_get, newRow_next, setRow_next, newRow_lo, setRow_lo, newRow_grps, setRow_grps, newRow_relo, setRow_relo, relo_objs, relo_next, relo_lo, nbeq_ne, sl, setO_get, setO_next, setO_lo, setO_grps, g2]
      · simp (disch := omega) only [setRow_get, newRow_get, newRow_next, setRow_next, newRow_lo, setRow_lo, newRow_grps, setRow_grps, newRow_relo, setRow_relo, relo_objs, relo_next, relo_lo, nbeq_ne, sl, setO_get, setO_next, setO_lo, setO_grps, outR, qsame _ _ e107, qsame _ _ e102, qset _ _ e114, qsame _ _ e112, qsame _ _ e104, qsame _ _ e103, qsame _ _ e105, qsame _ _ e118, qsame _ _ e119]
      · simp (disch := omega) only [setRow_get, newRow_get, newRow_next, setRow_next, newRow_lo, setRow_lo, newRow_grps, setRow_grps, newRow_relo, setRow_relo, relo_objs, relo_next, relo_lo, nbeq_ne, sl, setO_get, setO_next, setO_lo, setO_grps, hXlo]
    have e114 : decide ((x.toNat : Int) = 114) = false := by simpa using c114
    by_cases c112 : (x.toNat : Int) = 112
    · have e112 : decide ((x.toNat : Int) = 112) = true := by simpa using c112
      have e104 : decide ((x.toNat : Int) = 104) = false := by rw [c112]; rfl
      have e103 : decide ((x.toNat : Int) = 103) = false := by rw [c112]; rfl
      have e105 : decide ((x.toNat : Int) = 105) = false := by rw [c112]; rfl
      have e118 : decide ((x.toNat : Int) = 118) = false := by rw [c112]; rfl
      have e119 : decide ((x.toNat : Int) = 119) = false := by rw [c112]; rfl
      simp (maxSteps := 1000000) (disch := omega) only [↓sgg, sww, simprocAttr, fa_26_0, fa_26_1, fa_26_2, fa_26_3, fa_26_4, fa_26_5, fa_26_6, fa_26_7, fa_26_8, fa_26_9, zero_26, lit_26, agg_26, size_26, agg_3, size_3, agg_24, size_24, agg_5, size_5, agg_23, size_23, lit_23, zero_23, cutAll11, cut45, cutAll2, cutAll3, setO_get, setO_next, setO_lo, setO_grps, h19, h1, h2, h3, hn, g1, g2, g3, hXlo, e107, e102, e114, e112, e104, e103, e105, e118, e119]
      refine hQ _ _ (l.length - (j + 1)) (by omega) ?_
      refine ⟨j + 1, rfl, by omega, ?_, ?_, ?_, ?_, ?_, ?_, ?_, ?_, ?_, sN _⟩
      · simp (maxSteps := 1000000) (disch := omega) only [↓sgg, sww, simprocAttr, h19]
      · simp (maxSteps := 1000000) (disch := omega) only [↓sgg, sww, simprocAttr, h1]
      · simp (maxSteps := 1000000) (disch := omega) only [↓sgg, sww, simprocAttr, h2]
      · simp (maxSteps := 1000000) (disch := omega) only [↓sgg, sww, simprocAttr, h3]
      · simp (disch := omega) only [setRow_get, newRow_get, newRow_next, setRow_next, newRow_lo, setRow_lo, newRow_grps, setRow_grps, newRow_relo, setRow_relo, relo_objs, relo_next, relo_lo, nbeq_ne, sl, setO_get, setO_next, setO_lo, setO_grps]
      · simp (disch := omega) only [setRow_get, newRow_get, newRow_next, setRow_next, newRow_lo, setRow_lo, newRow_grps, setRow_grps, newRow_relo, setRow_relo, relo_objs, relo_next, relo_lo, nbeq_ne, sl, setO_get, setO_next, setO_lo, setO_grps, g1, inO]
      · simp (disch := omega) only [setRow_get, newRow_get, newRow_next, setRow_next, newRow_lo, setRow_lo, newRow_grps, setRow_grps, newRow_relo, setRow_relo, relo_objs, relo_next, relo_lo, nbeq_ne, sl, setO_get, setO_next, setO_lo, setO_grps, g2]
      · simp (disch := omega) only [setRow_get, newRow_get, newRow_next, setRow_next, newRow_lo, setRow_lo, newRow_grps, setRow_grps, newRow_relo, setRow_relo, relo_objs, relo_next, relo_lo, nbeq_ne, sl, setO_get, setO_next, setO_lo, setO_grps, outR, qsame _ _ e107, qsame _ _ e102, qsame _ _ e114, qset _ _ e112, qsame _ _ e104, qsame _ _ e103, qsame _ _ e105, qsame _ _ e118, qsame _ _ e119]
      · simp (disch := omega) only [setRow_get, newRow_get, newRow_next, setRow_next, newRow_lo, setRow_lo, newRow_grps, setRow_grps, newRow_relo, setRow_relo, relo_objs, relo_next, relo_lo, nbeq_ne, sl, setO_get, setO_next, setO_lo, setO_grps, hXlo]
    have e112 : decide ((x.toNat : Int) = 112) = false := by simpa using c112
    by_cases c104 : (x.toNat : Int) = 104
    · have e104 : decide ((x.toNat : Int) = 104) = true := by simpa using c104
      have e103 : decide ((x.toNat : Int) = 103) = false := by rw [c104]; rfl
      have e105 : decide ((x.toNat : Int) = 105) = false := by rw [c104]; rfl
      have e118 : decide ((x.toNat : Int) = 118) = false := by rw [c104]; rfl
      have e119 : decide ((x.toNat : Int) = 119) = false := by rw [c104]; rfl
      simp (maxSteps := 1000000) (disch := omega) only [↓sgg, sww, simprocAttr, fa_26_0, fa_26_1, fa_26_2, fa_26_3, fa_26_4, fa_26_5, fa_26_6, fa_26_7, fa_26_8, fa_26_9, zero_26, lit_26, agg_26, size_26, agg_3, size_3, agg_24, size_24, agg_5, size_5, agg_23, size_23, lit_23, zero_23, cutAll11, cut45, cutAll2, cutAll3, setO_get, setO_next, setO_lo, setO_grps, h19, h1, h2, h3, hn, g1, g2, g3, hXlo, e107, e102, e114, e112, e104, e103, e105, e118, e119]
      refine hQ _ _ (l.length - (j + 1)) (by omega) ?_
      refine ⟨j + 1, rfl, by omega, ?_, ?_, ?_, ?_, ?_, ?_, ?_, ?_, ?_, sN _⟩
      · simp (maxSteps := 1000000) (disch := omega) only [↓sgg, sww, simprocAttr, h19]
      · simp (maxSteps := 1000000) (disch := omega) only [↓sgg, sww, simprocAttr, h1]
      · simp (maxSteps := 1000000) (disch := omega) only [↓sgg, sww, simprocAttr, h2]
      · simp (maxSteps := 1000000) (disch := omega) only [↓sgg, sww, simprocAttr, h3]
      · simp (disch := omega) only [setRow_get, newRow_get, newRow_next, setRow_next, newRow_lo, setRow_lo, newRow_grps, setRow_grps, newRow_relo, setRow_relo, relo_objs, relo_next, relo_lo, nbeq_ne, sl, setO_get, setO_next, setO_lo, setO_grps]
      · simp (disch := omega) only [setRow_get, newRow_get, newRow_next, setRow_next, newRow_lo, setRow_lo, newRow_grps, setRow_grps, newRow_relo, setRow_relo, relo_objs, relo_next, relo_lo, nbeq_ne, sl, setO_get, setO_next, setO_lo, setO_grps, g1, inO]
      · simp (disch := omega) only [setRow_get, newRow_get, newRow_next, setRow_next, newRow_lo, setRow_lo, newRow_grps, setRow_grps, newRow_relo, setRow_relo, relo_objs, relo_next, relo_lo, nbeq_ne, sl, setO_get, setO_next, setO_lo, setO_grps, g2]
      · simp (disch := omega) only [setRow_get, newRow_get, newRow_next, setRow_next, newRow_lo, setRow_lo, newRow_grps, setRow_grps, newRow_relo, setRow_relo, relo_objs, relo_next, relo_lo, nbeq_ne, sl, setO_get, setO_next, setO_lo, setO_grps, outR, qsame _ _ e107, qsame _ _ e102, qsame _ _ e114, qsame _ _ e112, qset _ _ e104, qsame _ _ e103, qsame _ _ e105, qsame _ _ e118, qsame _ _ e119]
      · simp (disch := omega) only [setRow_get, newRow_get, newRow_next, setRow_next, newRow_lo, setRow_lo, newRow_grps, setRow_grps, newRow_relo, setRow_relo, relo_objs, relo_next, relo_lo, nbeq_ne, sl, setO_get, setO_next, setO_lo, setO_grps, hXlo]
    have e104 : decide ((x.toNat : Int) = 104) = false := by simpa using c104
    by_cases c103 : (x.toNat : Int) = 103
    · have e103 : decide ((x.toNat : Int) = 103) = true := by simpa using c103
      have e105 : decide ((x.toNat : Int) = 105) = false := by rw [c103]; rfl
      have e118 : decide ((x.toNat : Int) = 118) = false := by rw [c103]; rfl
      have e119 : decide ((x.toNat : Int) = 119) = false := by rw [c103]; rfl
      simp (maxSteps := 1000000) (disch := omega) only [↓sgg, sww, simprocAttr, fa_26_0, fa_26_1, fa_26_2, fa_26_3, fa_26_4, fa_26_5, fa_26_6, fa_26_7, fa_26_8, fa_26_9, zero_26, lit_26, agg_26, size_26, agg_3, size_3, agg_24, size_24, agg_5, size_5, agg_23, size_23, lit_23, zero_23, cutAll11, cut45, cutAll2, cutAll3, setO_get, setO_next, setO_lo, setO_grps, h19, h1, h2, h3, hn, g1, g2, g3, hXlo, e107, e102, e114, e112, e104, e103, e105, e118, e119]
      refine hQ _ _ (l.length - (j + 1)) (by omega) ?_
      refine ⟨j + 1, rfl, by omega, ?_, ?_, ?_, ?_, ?_, ?_, ?_, ?_, ?_, sN _⟩
      · simp (maxSteps := 1000000) (disch := omega) only [↓sgg, sww, simprocAttr, h19]
      · simp (maxSteps := 1000000) (disch := omega) only [↓sgg, sww, simprocAttr, h1]
      · simp (maxSteps := 1000000) (disch := omega) only [↓sgg, sww, simprocAttr, h2]
      · simp (maxSteps := 1000000) (disch := omega) only [↓sgg, sww, simprocAttr, h3]
      · simp (disch := omega) only [setRow_get, newRow_get, newRow_next, setRow_next, newRow_lo, setRow_lo, newRow_grps, setRow_grps, newRow_relo, setRow_relo, relo_objs, relo_next, relo_lo, nbeq_ne, sl, setO_get, setO_next, setO_lo, setO_grps]
      · simp (disch := omega) only [setRow_get, newRow_get, newRow_next, setRow_next, newRow_lo, setRow_lo, newRow_grps, setRow_grps, newRow_relo, setRow_relo, relo_objs, relo_next, relo_lo, nbeq_ne, sl, setO_get, setO_next, setO_lo, setO_grps, g1, inO]
      · simp (disch := omega) only [setRow_get, newRow_get, newRow_next, setRow_next, newRow_lo, setRow_lo, newRow_grps, setRow_grps, newRow_relo, setRow_relo, relo_objs, relo_next, relo_lo, nbeq_ne, sl, setO_get, setO_next, setO_lo, setO_grps, g2]
      · simp (disch := omega) only [setRow_get, newRow_get, newRow_next, setRow_next, newRow_lo, setRow_lo, newRow_grps, setRow_grps, newRow_relo, setRow_relo, relo_objs, relo_next, relo_lo, nbeq_ne, sl, setO_get, setO_next, setO_lo, setO_grps, outR, qsame _ _ e107, qsame _ _ e102, qsame _ _ e114, qsame _ _ e112, qsame _ _ e104, qset _ _ e103, qsame _ _ e105, qsame _ _ e118, qsame _ _ e119]
      · simp (disch := omega) only [setRow_get, newRow_get, newRow_next, setRow_next, newRow_lo, setRow_lo, newRow_grps, setRow_grps, newRow_relo, setRow_relo, relo_objs, relo_next, relo_lo, nbeq_ne, sl, setO_get, setO_next, setO_lo, setO_grps, hXlo]
    have e103 : decide ((x.toNat : Int) = 103) = false := by simpa using c103
    by_cases c105 : (x.toNat : Int) = 105
    · have e105 : decide ((x.toNat : Int) = 105) = true := by simpa using c105
      have e118 : decide ((x.toNat : Int) = 118) = false := by rw [c105]; rfl
      have e119 : decide ((x.toNat : Int) = 119) = false := by rw [c105]; rfl
      simp (maxSteps := 1000000) (disch := omega) only [↓sgg, sww, simprocAttr, fa_26_0, fa_26_1, fa_26_2, fa_26_3, fa_26_4, fa_26_5, fa_26_6, fa_26_7, fa_26_8, fa_26_9, zero_26, lit_26, agg_26, size_26, agg_3, size_3, agg_24, size_24, agg_5, size_5, agg_23, size_23, lit_23, zero_23, cutAll11, cut45, cutAll2, cutAll3, setO_get, setO_next, setO_lo, setO_grps, h19, h1, h2, h3, hn, g1, g2, g3, hXlo, e107, e102, e114, e112, e104, e103, e105, e118, e119]
      refine hQ _ _ (l.length - (j + 1)) (by omega) ?_
      refine ⟨j + 1, rfl, by omega, ?_, ?_, ?_, ?_, ?_, ?_, ?_, ?_, ?_, sN _⟩
      · simp (maxSteps := 1000000) (disch := omega) only [↓sgg, sww, simprocAttr, h19]
      · simp (maxSteps := 1000000) (disch := omega) only [↓sgg, sww, simprocAttr, h1]
      · simp (maxSteps := 1000000) (disch := omega) only [↓sgg, sww, simprocAttr, h2]
      · simp (maxSteps := 1000000) (disch := omega) only [↓sgg, sww, simprocAttr, h3]
      · simp (disch := omega) only [setRow_get, newRow_get, newRow_next, setRow_next, newRow_lo, setRow_lo, newRow_grps, setRow_grps, newRow_relo, setRow_relo, relo_objs, relo_next, relo_lo, nbeq_ne, sl, setO_get, setO_next, setO_lo, setO_grps]
      · simp (disch := omega) only [setRow_get, newRow_get, newRow_next, setRow_next, newRow_lo, setRow_lo, newRow_grps, setRow_grps, newRow_relo, setRow_relo, relo_objs, relo_next, relo_lo, nbeq_ne, sl, setO_get, setO_next, setO_lo, setO_grps, g1, inO]
      · simp (disch := omega) only [setRow_get, newRow_get, newRow_next, setRow_next, newRow_lo, setRow_lo, newRow_grps, setRow_grps, newRow_relo, setRow_relo, relo_objs, relo_next, relo_lo, nbeq_ne, sl, setO_get, setO_next, setO_lo, setO_grps, g2]
      · simp (disch := omega) only [setRow_get, newRow_get, newRow_next, setRow_next, newRow_lo, setRow_lo, newRow_grps, setRow_grps, newRow_relo, setRow_relo, relo_objs, relo_next, relo_lo, nbeq_ne, sl, setO_get, setO_next, setO_lo, setO_grps, outR, qsame _ _ e107, qsame _ _ e102, qsame _ _ e114, qsame _ _ e112, qsame _ _ e104, qsame _ _ e103, qset _ _ e105, qsame _ _ e118, qsame _ _ e119]
      · simp (disch := omega) only [setRow_get, newRow_get, newRow_next, setRow_next, newRow_lo, setRow_lo, newRow_grps, setRow_grps, newRow_relo, setRow_relo, relo_objs, relo_next, relo_lo, nbeq_ne, sl, setO_get, setO_next, setO_lo, setO_grps, hXlo]
    have e105 : decide ((x.toNat : Int) = 105) = false := by simpa using c105
    by_cases c118 : (x.toNat : Int) = 118
    · have e118 : decide ((x.toNat : Int) = 118) = true := by simpa using c118
      have e119 : decide ((x.toNat : Int) = 119) = false := by rw [c118]; rfl
      simp (maxSteps := 1000000) (disch := omega) only [↓sgg, sww, simprocAttr, fa_26_0, fa_26_1, fa_26_2, fa_26_3, fa_26_4, fa_26_5, fa_26_6, fa_26_7, fa_26_8, fa_26_9, zero_26, lit_26, agg_26, size_26, agg_3, size_3, agg_24, size_24, agg_5, size_5, agg_23, size_23, lit_23, zero_23, cutAll11, cut45, cutAll2, cutAll3, setO_get, setO_next, setO_lo, setO_grps, h19, h1, h2, h3, hn, g1, g2, g3, hXlo, e107, e102, e114, e112, e104, e103, e105, e118, e119]
      refine hQ _ _ (l.length - (j + 1)) (by omega) ?_
      refine ⟨j + 1, rfl, by omega, ?_, ?_, ?_, ?_, ?_, ?_, ?_, ?_, ?_, sN _⟩
      · simp (maxSteps := 1000000) (disch := omega) only [↓sgg, sww, simprocAttr, h19]
      · simp (maxSteps := 1000000) (disch := omega) only [↓sgg, sww, simprocAttr, h1]
      · simp (maxSteps := 1000000) (disch := omega) only [↓sgg, sww, simprocAttr, h2]
      · simp (maxSteps := 1000000) (disch := omega) only [↓sgg, sww, simprocAttr, h3]
      · simp (disch := omega) only [setRow_get, newRow_get, newRow_next, setRow_next, newRow_lo, setRow_lo, newRow_grps, setRow_grps, newRow_relo, setRow_relo, relo_objs, relo_next, relo_lo, nbeq_ne, sl, setO_get, setO_next, setO_lo, setO_grps]
      · simp (disch := omega) only [setRow_get, newRow_get, newRow_next, setRow_next, newRow_lo, setRow_lo, newRow_grps, setRow_grps, newRow_relo, setRow_relo, relo_objs, relo_next, relo_lo, nbeq_ne, sl, setO_get, setO_next, setO_lo, setO_grps, g1, inO]
      · simp (disch := omega) only [setRow_get, newRow_get, newRow_next, setRow_next, newRow_lo, setRow_lo, newRow_grps, setRow_grps, newRow_relo, setRow_relo, relo_objs, relo_next, relo_lo, nbeq_ne, sl, setO_get, setO_next, setO_lo, setO_grps, g2]
      · simp (disch := omega) only [setRow_get, newRow_get, newRow_next, setRow_next, newRow_lo, setRow_lo, newRow_grps, setRow_grps, newRow_relo, setRow_relo, relo_objs, relo_next, relo_lo, nbeq_ne, sl, setO_get, setO_next, setO_lo, setO_grps, outR, qsame _ _ e107, qsame _ _ e102, qsame _ _ e114, qsame _ _ e112, qsame _ _ e104, qsame _ _ e103, qsame _ _ e105, qset _ _ e118, qsame _ _ e119]
      · simp (disch := omega) only [setRow_get, newRow_get, newRow_next, setRow_next, newRow_lo, setRow_lo, newRow_grps, setRow_grps, newRow_relo, setRow_relo, relo_objs, relo_next, relo_lo, nbeq_ne, sl, setO_get, setO_next, setO_lo, setO_grps, hXlo]
    have e118 : decide ((x.toNat : Int) = 118) = false := by simpa using c118
    by_cases c119 : (x.toNat : Int) = 119
    · have e119 : decide ((x.toNat : Int) = 119) = true := by simpa using c119
      simp (maxSteps := 1000000) (disch := omega) only [↓sgg, sww, simprocAttr, fa_26_0, fa_26_1, fa_26_2, fa_26_3, fa_26_4, fa_26_5, fa_26_6, fa_26_7, fa_26_8, fa_26_9, zero_26, lit_26, agg_26, size_26, agg_3, size_3, agg_24, size_24, agg_5, size_5, agg_23, size_23, lit_23, zero_23, cutAll11, cut45, cutAll2, cutAll3, setO_get, setO_next, setO_lo, setO_grps, h19, h1, h2, h3, hn, g1, g2, g3, hXlo, e107, e102, e114, e112, e104, e103, e105, e118, e119]
      refine hQ _ _ (l.length - (j + 1)) (by omega) ?_
      refine ⟨j + 1, rfl, by omega, ?_, ?_, ?_, ?_, ?_, ?_, ?_, ?_, ?_, sN _⟩
      · simp (maxSteps := 1000000) (disch := omega) only [↓sgg, sww, simprocAttr, h19]
      · simp (maxSteps := 1000000) (disch := omega) only [↓sgg, sww, simprocAttr, h1]
      · simp (maxSteps := 1000000) (disch := omega) only [↓sgg, sww, simprocAttr, h2]
      · simp (maxSteps := 1000000) (disch := omega) only [↓sgg, sww, simprocAttr, h3]
      · simp (disch := omega) only [setRow_get, newRow_get, newRow_next, setRow_next, newRow_lo, setRow_lo, newRow_grps, setRow_grps, newRow_relo, setRow_relo, relo_objs, relo_next, relo_lo, nbeq_ne, sl, setO_get, setO_next, setO_lo, setO_grps]
      · simp (disch := omega) only [setRow_get, newRow_get, newRow_next, setRow_next, newRow_lo, setRow_lo, newRow_grps, setRow_grps, newRow_relo, setRow_relo, relo_objs, relo_next, relo_lo, nbeq_ne, sl, setO_get, setO_next, setO_lo, setO_grps, g1, inO]
      · simp (disch := omega) only [setRow_get, newRow_get, newRow_next, setRow_next, newRow_lo, setRow_lo, newRow_grps, setRow_grps, newRow_relo, setRow_relo, relo_objs, relo_next, relo_lo, nbeq_ne, sl, setO_get, setO_next, setO_lo, setO_grps, g2]
      · simp (disch := omega) only [setRow_get, newRow_get, newRow_next, setRow_next, newRow_lo, setRow_lo, newRow_grps, setRow_grps, newRow_relo, setRow_relo, relo_objs, relo_next, relo_lo, nbeq_ne, sl, setO_get, setO_next, setO_lo, setO_grps, outR, qsame _ _ e107, qsame _ _ e102, qsame _ _ e114, qsame _ _ e112, qsame _ _ e104, qsame _ _ e103, qsame _ _ e105, qsame _ _ e118, qset _ _ e119]
      · simp (disch := omega) only [setRow_get, newRow_get, newRow_next, setRow_next, newRow_lo, setRow_lo, newRow_grps, setRow_grps, newRow_relo, setRow_relo, relo_objs, relo_next, relo_lo, nbeq_ne, sl, setO_get, setO_next, setO_lo, setO_grps, hXlo]
    have e119 : decide ((x.toNat : Int) = 119) = false := by simpa using c119
    simp (maxSteps := 1000000) (disch := omega) only [↓sgg, sww, simprocAttr, fa_26_0, fa_26_1, fa_26_2, fa_26_3, fa_26_4, fa_26_5, fa_26_6, fa_26_7, fa_26_8, fa_26_9, zero_26, lit_26, agg_26, size_26, agg_3, size_3, agg_24, size_24, agg_5, size_5, agg_23, size_23, lit_23, zero_23, cutAll11, cut45, cutAll2, cutAll3, setO_get, setO_next, setO_lo, setO_grps, h19, h1, h2, h3, hn, g1, g2, g3, hXlo, e107, e102, e114, e112, e104, e103, e105, e118, e119]
    refine hQ _ _ (l.length - (j + 1)) (by omega) ?_
    refine ⟨j + 1, rfl, by omega, ?_, ?_, ?_, ?_, ?_, ?_, ?_, ?_, ?_, same_setO sX (by omega) _⟩
    · simp (maxSteps := 1000000) (disch := omega) only [↓sgg, sww, simprocAttr, h19]
    · simp (maxSteps := 1000000) (disch := omega) only [↓sgg, sww, simprocAttr, h1]
    · simp (maxSteps := 1000000) (disch := omega) only [↓sgg, sww, simprocAttr, h2]
    · simp (maxSteps := 1000000) (disch := omega) only [↓sgg, sww, simprocAttr, h3]
    · simp (disch := omega) only [setRow_get, newRow_get, newRow_next, setRow_next, newRow_lo, setRow_lo, newRow_grps, setRow_grps, newRow_relo, setRow_relo, relo_objs, relo_next, relo_lo, nbeq_ne, sl, setO_get, setO_next, setO_lo, setO_grps]
    · simp (disch := omega) only [setRow_get, newRow_get, newRow_next, setRow_next, newRow_lo, setRow_lo, newRow_grps, setRow_grps, newRow_relo, setRow_relo, relo_objs, relo_next, relo_lo, nbeq_ne, sl, setO_get, setO_next, setO_lo, setO_grps, g1, inO]
    · simp (disch := omega) only [setRow_get, newRow_get, newRow_next, setRow_next, newRow_lo, setRow_lo, newRow_grps, setRow_grps, newRow_relo, setRow_relo, relo_objs, relo_next, relo_lo, nbeq_ne, sl, setO_get, setO_next, setO_lo, setO_grps, g2]
    · simp (disch := omega) only [setRow_get, newRow_get, newRow_next, setRow_next, newRow_lo, setRow_lo, newRow_grps, setRow_grps, newRow_relo, setRow_relo, relo_objs, relo_next, relo_lo, nbeq_ne, sl, setO_get, setO_next, setO_lo, setO_grps, outR, g3, qsame _ _ e107, qsame _ _ e102, qsame _ _ e114, qsame _ _ e112, qsame _ _ e104, qsame _ _ e103, qsame _ _ e105, qsame _ _ e118, qsame _ _ e119]
    · simp (disch := omega) only [setRow_get, newRow_get, newRow_next, setRow_next, newRow_lo, setRow_lo, newRow_grps, setRow_grps, newRow_relo, setRow_relo, relo_objs, relo_next, relo_lo, nbeq_ne, sl, setO_get, setO_next, setO_lo, setO_grps, hXlo]
  · have hb : s.data.toList[j]? = none := by rw [hl, List.getElem?_eq_none_iff]; omega
    have hn := nextV_end gI (by omega) hb
    simp (maxSteps := 1000000) (disch := omega) only [↓sgg, sww, simprocAttr, h19, h1, h2, h3, hn]
    refine hQe _ _ _ _ ?_
    simp (maxSteps := 1000000) (disch := omega) only [↓sgg, sww, simprocAttr, fa_26_0, fa_26_1, fa_26_2, fa_26_3, fa_26_4, fa_26_5, fa_26_6, fa_26_7, fa_26_8, fa_26_9, zero_26, lit_26, agg_26, size_26, agg_3, size_3, agg_24, size_24, agg_5, size_5, agg_23, size_23, lit_23, zero_23, cutAll11, cut45, cutAll2, cutAll3, h19, h1, h2, h3, g1, g2, g3, hXlo]
    have hjl : l.take j = l := List.take_of_length_le (by omega)
    rw [hjl]
    exact ⟨rfl, sX.setRow (by omega) _⟩
