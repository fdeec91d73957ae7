/-
  Walks over letters of the functions that the law reaches.
-/
import Derived.Test.YtbpneihjlledpaaGreatDoorB0
set_option linter.unusedVariables false
set_option linter.unusedSectionVars false
namespace Go.AM
variable [Orc13]
attribute [local instance] fnMaps
open Go Go.Proofs
set_option maxRecDepth 100000
set_option maxHeartbeats 1000000
set_option linter.unusedSimpArgs false
theorem fn18 : E.fn.get 18 = some Tryz.f18 := by kernel_rfl
theorem fn20 : E.fn.get 20 = some Tryz.f20 := by kernel_rfl
theorem fn32 : E.fn.get 32 = some Tryz.f32 := by kernel_rfl
theorem fn19 : E.fn.get 19 = some Tryz.f19 := by kernel_rfl
theorem fn45 : E.fn.get 45 = some Tryz.f45 := by kernel_rfl
theorem fn50 : E.fn.get 50 = some Tryz.f50 := by kernel_rfl
def kRow : List Value := [.string ⟨#[110, 101, 119]⟩, .string ⟨#[107, 102, 114, 112]⟩, .func (.func 62) #[] #[],
  .string ⟨#[108, 111, 97, 100]⟩, .string ⟨#[104, 105]⟩, .func (.func 64) #[] #[],
  .string ⟨#[115, 116, 111, 114, 101]⟩, .string ⟨#[104, 105, 118]⟩, .func (.func 66) #[] #[],
  .string ⟨#[114, 101, 97, 100]⟩, .string ⟨#[104, 105]⟩, .func (.func 68) #[] #[],
  .string ⟨#[119, 114, 105, 116, 101]⟩, .string ⟨#[104, 105, 119]⟩, .func (.func 70) #[] #[],
  .string ⟨#[115, 97, 109, 101]⟩, .string ⟨#[104, 103]⟩, .func (.func 72) #[] #[],
  .string ⟨#[100, 117, 112]⟩, .string ⟨#[104]⟩, .func (.func 74) #[] #[],
  .string ⟨#[114, 101, 108, 101, 97, 115, 101]⟩, .string ⟨#[104]⟩, .func (.func 76) #[] #[],
  .string ⟨#[99, 111, 108, 108, 101, 99, 116]⟩, .string ⟨#[112]⟩, .func (.func 78) #[] #[],
  .string ⟨#[119, 104, 97, 116]⟩, .string ⟨#[104]⟩, .func (.func 80) #[] #[]]
theorem nat10 : ((10 : Nat) : Int) = 10 := rfl
theorem isCell_nf : isCell .nilFunc = true := Eq.trans rfl rfl
theorem isCell_fn (f : Fn) (a b : Array Value) : isCell (.func f a b) = true := Eq.trans rfl rfl
theorem cellsV_str (s : ByteArray) : cellsV (.string s) = [.string s] := Eq.trans rfl rfl
theorem cellsV_fn (f : Fn) (a b : Array Value) : cellsV (.func f a b) = [.func f a b] := Eq.trans rfl rfl
theorem kinds_ok (H : Heap) : CallA E (fnv 50) [] H fun v H' => v = .slice (some ⟨H.next, 0, none⟩) 10 10 ∧ H' = H.newRow kRow := by
  refine callA_fn (by kernel_rfl) fn50 rfl rfl ?_
  simp only [Tryz.f50]
  simp (maxSteps := 1000000) (disch := omega) only [↓sgg, sww, simprocAttr, lit_78, agg_78, size_78, bs_86, repeat_succ, repeat_zero, ble_dec, cellsV_str, cellsV_fn]
  rfl
def nameB (d : Int) : ByteArray := if d = 1 then ⟨#[110, 101, 119]⟩ else if d = 2 then ⟨#[108, 111, 97, 100]⟩ else if d = 3 then ⟨#[115, 116, 111, 114, 101]⟩ else if d = 4 then ⟨#[114, 101, 97, 100]⟩ else if d = 5 then ⟨#[119, 114, 105, 116, 101]⟩ else if d = 6 then ⟨#[115, 97, 109, 101]⟩ else if d = 7 then ⟨#[100, 117, 112]⟩ else if d = 8 then ⟨#[114, 101, 108, 101, 97, 115, 101]⟩ else if d = 9 then ⟨#[99, 111, 108, 108, 101, 99, 116]⟩ else if d = 10 then ⟨#[119, 104, 97, 116]⟩ else ⟨#[]⟩
def usesB (d : Int) : ByteArray := if d = 1 then ⟨#[107, 102, 114, 112]⟩ else if d = 2 then ⟨#[104, 105]⟩ else if d = 3 then ⟨#[104, 105, 118]⟩ else if d = 4 then ⟨#[104, 105]⟩ else if d = 5 then ⟨#[104, 105, 119]⟩ else if d = 6 then ⟨#[104, 103]⟩ else if d = 7 then ⟨#[104]⟩ else if d = 8 then ⟨#[104]⟩ else if d = 9 then ⟨#[112]⟩ else if d = 10 then ⟨#[104]⟩ else ⟨#[]⟩
def doV (d : Int) : Value := if d = 1 then .func (.func 62) #[] #[] else if d = 2 then .func (.func 64) #[] #[] else if d = 3 then .func (.func 66) #[] #[] else if d = 4 then .func (.func 68) #[] #[] else if d = 5 then .func (.func 70) #[] #[] else if d = 6 then .func (.func 72) #[] #[] else if d = 7 then .func (.func 74) #[] #[] else if d = 8 then .func (.func 76) #[] #[] else if d = 9 then .func (.func 78) #[] #[] else if d = 10 then .func (.func 80) #[] #[] else .nilFunc
def inR (d : Int) : Bool := decide (1 ≤ d) && decide (d ≤ 10)
theorem in10 (d : Int) : d = 1 ∨ d = 2 ∨ d = 3 ∨ d = 4 ∨ d = 5 ∨ d = 6 ∨ d = 7 ∨ d = 8 ∨ d = 9 ∨ d = 10 ∨ d < 1 ∨ 10 < d := by omega
theorem out_name {d : Int} (h : d < 1 ∨ 10 < d) : nameB d = ⟨#[]⟩ ∧ usesB d = ⟨#[]⟩ ∧ doV d = .nilFunc ∧ inR d = false := by
  refine ⟨?_, ?_, ?_, ?_⟩
  · unfold nameB; repeat rw [if_neg (by omega)]
  · unfold usesB; repeat rw [if_neg (by omega)]
  · unfold doV; repeat rw [if_neg (by omega)]
  · unfold inR
    rcases h with h | h
    · rw [decide_eq_false (by omega)]; rfl
    · rw [decide_eq_false (p := d ≤ 10) (by omega), Bool.and_false]
theorem isCell_do (d : Int) : isCell (doV d) = true := by
  rcases in10 d with rfl | rfl | rfl | rfl | rfl | rfl | rfl | rfl | rfl | rfl | h
  · rfl
  · rfl
  · rfl
  · rfl
  · rfl
  · rfl
  · rfl
  · rfl
  · rfl
  · rfl
  · rw [(out_name h).2.2.1]; rfl
theorem kcut0 : cut kRow 0 3 = some [.string ⟨#[110, 101, 119]⟩, .string ⟨#[107, 102, 114, 112]⟩, .func (.func 62) #[] #[]] := Eq.trans rfl rfl
theorem kcut1 : cut kRow 3 3 = some [.string ⟨#[108, 111, 97, 100]⟩, .string ⟨#[104, 105]⟩, .func (.func 64) #[] #[]] := Eq.trans rfl rfl
theorem kcut2 : cut kRow 6 3 = some [.string ⟨#[115, 116, 111, 114, 101]⟩, .string ⟨#[104, 105, 118]⟩, .func (.func 66) #[] #[]] := Eq.trans rfl rfl
theorem kcut3 : cut kRow 9 3 = some [.string ⟨#[114, 101, 97, 100]⟩, .string ⟨#[104, 105]⟩, .func (.func 68) #[] #[]] := Eq.trans rfl rfl
theorem kcut4 : cut kRow 12 3 = some [.string ⟨#[119, 114, 105, 116, 101]⟩, .string ⟨#[104, 105, 119]⟩, .func (.func 70) #[] #[]] := Eq.trans rfl rfl
theorem kcut5 : cut kRow 15 3 = some [.string ⟨#[115, 97, 109, 101]⟩, .string ⟨#[104, 103]⟩, .func (.func 72) #[] #[]] := Eq.trans rfl rfl
theorem kcut6 : cut kRow 18 3 = some [.string ⟨#[100, 117, 112]⟩, .string ⟨#[104]⟩, .func (.func 74) #[] #[]] := Eq.trans rfl rfl
theorem kcut7 : cut kRow 21 3 = some [.string ⟨#[114, 101, 108, 101, 97, 115, 101]⟩, .string ⟨#[104]⟩, .func (.func 76) #[] #[]] := Eq.trans rfl rfl
theorem kcut8 : cut kRow 24 3 = some [.string ⟨#[99, 111, 108, 108, 101, 99, 116]⟩, .string ⟨#[112]⟩, .func (.func 78) #[] #[]] := Eq.trans rfl rfl
theorem kcut9 : cut kRow 27 3 = some [.string ⟨#[119, 104, 97, 116]⟩, .string ⟨#[104]⟩, .func (.func 80) #[] #[]] := Eq.trans rfl rfl
theorem of_ok (H : Heap) (hlo : H.lo ≤ H.next) (d : Int) (hd : -9223372036854775808 ≤ d ∧ d ≤ 9223372036854775807) : CallA E (fnv 45) [.int .i64 d] H fun v H' => v = .tuple #[.agg #[.string (nameB d), .string (usesB d), doV d], .bool (inR d)] ∧ Same H H' := by
  have sK : ∀ z, Same H ((H.newRow z).newRow kRow) := fun z => (same_newRow _).trans (same_newRow _)
  have sK2 : ∀ z z', Same H (((H.newRow z).newRow kRow).setRow H.next z') := fun z z' => (sK z).setRow (Nat.le_refl _) _
  rcases in10 d with rfl | rfl | rfl | rfl | rfl | rfl | rfl | rfl | rfl | rfl | h
  · refine callA_fn (by kernel_rfl) fn45 rfl rfl ?_
    simp only [Tryz.f45]
    simp (maxSteps := 1000000) (disch := omega) only [↓sgg, sww, simprocAttr, zero_78, lit_78, agg_78, size_78, bs_86, len_86, ia_86, fa_78_0, fa_78_1, agg_9, size_9, repeat_succ, repeat_zero, ble_dec, cellsV_str, cellsV_fn, isCell_fn, isCell_nf, isCell_do, Int.reduceSub, Int.reduceAdd, Int.reduceToNat, nat10, Int.reduceMul]
    refine (kinds_ok _).mono ?_
    rintro v H2 ⟨rfl, rfl⟩
    simp (maxSteps := 1000000) (disch := omega) only [↓sgg, sww, simprocAttr, zero_78, lit_78, agg_78, size_78, bs_86, len_86, ia_86, fa_78_0, fa_78_1, agg_9, size_9, repeat_succ, repeat_zero, ble_dec, cellsV_str, cellsV_fn, isCell_fn, isCell_nf, isCell_do, Int.reduceSub, Int.reduceAdd, Int.reduceToNat, nat10, Int.reduceMul, at_in, kcut0, cutAll3]
    exact ⟨rfl, sK2 _ _⟩
  · refine callA_fn (by kernel_rfl) fn45 rfl rfl ?_
    simp only [Tryz.f45]
    simp (maxSteps := 1000000) (disch := omega) only [↓sgg, sww, simprocAttr, zero_78, lit_78, agg_78, size_78, bs_86, len_86, ia_86, fa_78_0, fa_78_1, agg_9, size_9, repeat_succ, repeat_zero, ble_dec, cellsV_str, cellsV_fn, isCell_fn, isCell_nf, isCell_do, Int.reduceSub, Int.reduceAdd, Int.reduceToNat, nat10, Int.reduceMul]
    refine (kinds_ok _).mono ?_
    rintro v H2 ⟨rfl, rfl⟩
    simp (maxSteps := 1000000) (disch := omega) only [↓sgg, sww, simprocAttr, zero_78, lit_78, agg_78, size_78, bs_86, len_86, ia_86, fa_78_0, fa_78_1, agg_9, size_9, repeat_succ, repeat_zero, ble_dec, cellsV_str, cellsV_fn, isCell_fn, isCell_nf, isCell_do, Int.reduceSub, Int.reduceAdd, Int.reduceToNat, nat10, Int.reduceMul, at_in, kcut1, cutAll3]
    exact ⟨rfl, sK2 _ _⟩
  · refine callA_fn (by kernel_rfl) fn45 rfl rfl ?_
    simp only [Tryz.f45]
    simp (maxSteps := 1000000) (disch := omega) only [↓sgg, sww, simprocAttr, zero_78, lit_78, agg_78, size_78, bs_86, len_86, ia_86, fa_78_0, fa_78_1, agg_9, size_9, repeat_succ, repeat_zero, ble_dec, cellsV_str, cellsV_fn, isCell_fn, isCell_nf, isCell_do, Int.reduceSub, Int.reduceAdd, Int.reduceToNat, nat10, Int.reduceMul]
    refine (kinds_ok _).mono ?_
    rintro v H2 ⟨rfl, rfl⟩
    simp (maxSteps := 1000000) (disch := omega) only [↓sgg, sww, simprocAttr, zero_78, lit_78, agg_78, size_78, bs_86, len_86, ia_86, fa_78_0, fa_78_1, agg_9, size_9, repeat_succ, repeat_zero, ble_dec, cellsV_str, cellsV_fn, isCell_fn, isCell_nf, isCell_do, Int.reduceSub, Int.reduceAdd, Int.reduceToNat, nat10, Int.reduceMul, at_in, kcut2, cutAll3]
    exact ⟨rfl, sK2 _ _⟩
  · refine callA_fn (by kernel_rfl) fn45 rfl rfl ?_
    simp only [Tryz.f45]
    simp (maxSteps := 1000000) (disch := omega) only [↓sgg, sww, simprocAttr, zero_78, lit_78, agg_78, size_78, bs_86, len_86, ia_86, fa_78_0, fa_78_1, agg_9, size_9, repeat_succ, repeat_zero, ble_dec, cellsV_str, cellsV_fn, isCell_fn, isCell_nf, isCell_do, Int.reduceSub, Int.reduceAdd, Int.reduceToNat, nat10, Int.reduceMul]
    refine (kinds_ok _).mono ?_
    rintro v H2 ⟨rfl, rfl⟩
    simp (maxSteps := 1000000) (disch := omega) only [↓sgg, sww, simprocAttr, zero_78, lit_78, agg_78, size_78, bs_86, len_86, ia_86, fa_78_0, fa_78_1, agg_9, size_9, repeat_succ, repeat_zero, ble_dec, cellsV_str, cellsV_fn, isCell_fn, isCell_nf, isCell_do, Int.reduceSub, Int.reduceAdd, Int.reduceToNat, nat10, Int.reduceMul, at_in, kcut3, cutAll3]
    exact ⟨rfl, sK2 _ _⟩
  · refine callA_fn (by kernel_rfl) fn45 rfl rfl ?_
    simp only [Tryz.f45]
    simp (maxSteps := 1000000) (disch := omega) only [↓sgg, sww, simprocAttr, zero_78, lit_78, agg_78, size_78, bs_86, len_86, ia_86, fa_78_0, fa_78_1, agg_9, size_9, repeat_succ, repeat_zero, ble_dec, cellsV_str, cellsV_fn, isCell_fn, isCell_nf, isCell_do, Int.reduceSub, Int.reduceAdd, Int.reduceToNat, nat10, Int.reduceMul]
    refine (kinds_ok _).mono ?_
    rintro v H2 ⟨rfl, rfl⟩
    simp (maxSteps := 1000000) (disch := omega) only [↓sgg, sww, simprocAttr, zero_78, lit_78, agg_78, size_78, bs_86, len_86, ia_86, fa_78_0, fa_78_1, agg_9, size_9, repeat_succ, repeat_zero, ble_dec, cellsV_str, cellsV_fn, isCell_fn, isCell_nf, isCell_do, Int.reduceSub, Int.reduceAdd, Int.reduceToNat, nat10, Int.reduceMul, at_in, kcut4, cutAll3]
    exact ⟨rfl, sK2 _ _⟩
  · refine callA_fn (by kernel_rfl) fn45 rfl rfl ?_
    simp only [Tryz.f45]
    simp (maxSteps := 1000000) (disch := omega) only [↓sgg, sww, simprocAttr, zero_78, lit_78, agg_78, size_78, bs_86, len_86, ia_86, fa_78_0, fa_78_1, agg_9, size_9, repeat_succ, repeat_zero, ble_dec, cellsV_str, cellsV_fn, isCell_fn, isCell_nf, isCell_do, Int.reduceSub, Int.reduceAdd, Int.reduceToNat, nat10, Int.reduceMul]
    refine (kinds_ok _).mono ?_
    rintro v H2 ⟨rfl, rfl⟩
    simp (maxSteps := 1000000) (disch := omega) only [↓sgg, sww, simprocAttr, zero_78, lit_78, agg_78, size_78, bs_86, len_86, ia_86, fa_78_0, fa_78_1, agg_9, size_9, repeat_succ, repeat_zero, ble_dec, cellsV_str, cellsV_fn, isCell_fn, isCell_nf, isCell_do, Int.reduceSub, Int.reduceAdd, Int.reduceToNat, nat10, Int.reduceMul, at_in, kcut5, cutAll3]
    exact ⟨rfl, sK2 _ _⟩
  · refine callA_fn (by kernel_rfl) fn45 rfl rfl ?_
    simp only [Tryz.f45]
    simp (maxSteps := 1000000) (disch := omega) only [↓sgg, sww, simprocAttr, zero_78, lit_78, agg_78, size_78, bs_86, len_86, ia_86, fa_78_0, fa_78_1, agg_9, size_9, repeat_succ, repeat_zero, ble_dec, cellsV_str, cellsV_fn, isCell_fn, isCell_nf, isCell_do, Int.reduceSub, Int.reduceAdd, Int.reduceToNat, nat10, Int.reduceMul]
    refine (kinds_ok _).mono ?_
    rintro v H2 ⟨rfl, rfl⟩
    simp (maxSteps := 1000000) (disch := omega) only [↓sgg, sww, simprocAttr, zero_78, lit_78, agg_78, size_78, bs_86, len_86, ia_86, fa_78_0, fa_78_1, agg_9, size_9, repeat_succ, repeat_zero, ble_dec, cellsV_str, cellsV_fn, isCell_fn, isCell_nf, isCell_do, Int.reduceSub, Int.reduceAdd, Int.reduceToNat, nat10, Int.reduceMul, at_in, kcut6, cutAll3]
    exact ⟨rfl, sK2 _ _⟩
  · refine callA_fn (by kernel_rfl) fn45 rfl rfl ?_
    simp only [Tryz.f45]
    simp (maxSteps := 1000000) (disch := omega) only [↓sgg, sww, simprocAttr, zero_78, lit_78, agg_78, size_78, bs_86, len_86, ia_86, fa_78_0, fa_78_1, agg_9, size_9, repeat_succ, repeat_zero, ble_dec, cellsV_str, cellsV_fn, isCell_fn, isCell_nf, isCell_do, Int.reduceSub, Int.reduceAdd, Int.reduceToNat, nat10, Int.reduceMul]
    refine (kinds_ok _).mono ?_
    rintro v H2 ⟨rfl, rfl⟩
    simp (maxSteps := 1000000) (disch := omega) only [↓sgg, sww, simprocAttr, zero_78, lit_78, agg_78, size_78, bs_86, len_86, ia_86, fa_78_0, fa_78_1, agg_9, size_9, repeat_succ, repeat_zero, ble_dec, cellsV_str, cellsV_fn, isCell_fn, isCell_nf, isCell_do, Int.reduceSub, Int.reduceAdd, Int.reduceToNat, nat10, Int.reduceMul, at_in, kcut7, cutAll3]
    exact ⟨rfl, sK2 _ _⟩
  · refine callA_fn (by kernel_rfl) fn45 rfl rfl ?_
    simp only [Tryz.f45]
    simp (maxSteps := 1000000) (disch := omega) only [↓sgg, sww, simprocAttr, zero_78, lit_78, agg_78, size_78, bs_86, len_86, ia_86, fa_78_0, fa_78_1, agg_9, size_9, repeat_succ, repeat_zero, ble_dec, cellsV_str, cellsV_fn, isCell_fn, isCell_nf, isCell_do, Int.reduceSub, Int.reduceAdd, Int.reduceToNat, nat10, Int.reduceMul]
    refine (kinds_ok _).mono ?_
    rintro v H2 ⟨rfl, rfl⟩
    simp (maxSteps := 1000000) (disch := omega) only [↓sgg, sww, simprocAttr, zero_78, lit_78, agg_78, size_78, bs_86, len_86, ia_86, fa_78_0, fa_78_1, agg_9, size_9, repeat_succ, repeat_zero, ble_dec, cellsV_str, cellsV_fn, isCell_fn, isCell_nf, isCell_do, Int.reduceSub, Int.reduceAdd, Int.reduceToNat, nat10, Int.reduceMul, at_in, kcut8, cutAll3]
    exact ⟨rfl, sK2 _ _⟩
  · refine callA_fn (by kernel_rfl) fn45 rfl rfl ?_
    simp only [Tryz.f45]
    simp (maxSteps := 1000000) (disch := omega) only [↓sgg, sww, simprocAttr, zero_78, lit_78, agg_78, size_78, bs_86, len_86, ia_86, fa_78_0, fa_78_1, agg_9, size_9, repeat_succ, repeat_zero, ble_dec, cellsV_str, cellsV_fn, isCell_fn, isCell_nf, isCell_do, Int.reduceSub, Int.reduceAdd, Int.reduceToNat, nat10, Int.reduceMul]
    refine (kinds_ok _).mono ?_
    rintro v H2 ⟨rfl, rfl⟩
    simp (maxSteps := 1000000) (disch := omega) only [↓sgg, sww, simprocAttr, zero_78, lit_78, agg_78, size_78, bs_86, len_86, ia_86, fa_78_0, fa_78_1, agg_9, size_9, repeat_succ, repeat_zero, ble_dec, cellsV_str, cellsV_fn, isCell_fn, isCell_nf, isCell_do, Int.reduceSub, Int.reduceAdd, Int.reduceToNat, nat10, Int.reduceMul, at_in, kcut9, cutAll3]
    exact ⟨rfl, sK2 _ _⟩
  · obtain ⟨o1, o2, o3, o4⟩ := out_name h
    rw [o1, o2, o3, o4]
    refine callA_fn (by kernel_rfl) fn45 rfl rfl ?_
    simp only [Tryz.f45]
    simp (maxSteps := 1000000) (disch := omega) only [↓sgg, sww, simprocAttr, zero_78, lit_78, agg_78, size_78, bs_86, len_86, ia_86, fa_78_0, fa_78_1, agg_9, size_9, repeat_succ, repeat_zero, ble_dec, cellsV_str, cellsV_fn, isCell_fn, isCell_nf, isCell_do, Int.reduceSub, Int.reduceAdd, Int.reduceToNat, nat10, Int.reduceMul]
    refine (kinds_ok _).mono ?_
    rintro v H2 ⟨rfl, rfl⟩
    by_cases h1 : d < 1
    · have d1 : decide (d < 1) = true := by simpa using h1
      simp (maxSteps := 1000000) (disch := omega) only [↓sgg, sww, simprocAttr, zero_78, lit_78, agg_78, size_78, bs_86, len_86, ia_86, fa_78_0, fa_78_1, agg_9, size_9, repeat_succ, repeat_zero, ble_dec, cellsV_str, cellsV_fn, isCell_fn, isCell_nf, isCell_do, Int.reduceSub, Int.reduceAdd, Int.reduceToNat, nat10, Int.reduceMul, d1, cutAll3]
      exact sK2 _ _
    · have d1 : decide (d < 1) = false := by simpa using h1
      have d2 : decide (10 < d) = true := by simp; omega
      simp (maxSteps := 1000000) (disch := omega) only [↓sgg, sww, simprocAttr, zero_78, lit_78, agg_78, size_78, bs_86, len_86, ia_86, fa_78_0, fa_78_1, agg_9, size_9, repeat_succ, repeat_zero, ble_dec, cellsV_str, cellsV_fn, isCell_fn, isCell_nf, isCell_do, Int.reduceSub, Int.reduceAdd, Int.reduceToNat, nat10, Int.reduceMul, d1, d2, cutAll3]
      exact sK2 _ _
theorem name_ok (H : Heap) (hlo : H.lo ≤ H.next) (d : Int) (hd : -9223372036854775808 ≤ d ∧ d ≤ 9223372036854775807) : CallA E (fnv 18) [.int .i64 d] H fun v H' => v = .string (nameB d) ∧ Same H H' := by
  refine callA_fn (by kernel_rfl) fn18 rfl rfl ?_
  simp only [Tryz.f18]
  simp (maxSteps := 1000000) (disch := omega) only [↓sgg, sww, simprocAttr, zero_78, lit_78, agg_78, size_78, bs_86, len_86, ia_86, fa_78_0, fa_78_1, agg_9, size_9, repeat_succ, repeat_zero, ble_dec, cellsV_str, cellsV_fn, isCell_fn, isCell_nf, isCell_do, Int.reduceSub, Int.reduceAdd, Int.reduceToNat, nat10, Int.reduceMul]
  refine (of_ok H hlo d hd).mono ?_
  rintro v H2 ⟨rfl, s2⟩
  have n2 := s2.nxt
  have l2 := s2.lo
  simp (maxSteps := 1000000) (disch := omega) only [↓sgg, sww, simprocAttr, zero_78, lit_78, agg_78, size_78, bs_86, len_86, ia_86, fa_78_0, fa_78_1, agg_9, size_9, repeat_succ, repeat_zero, ble_dec, cellsV_str, cellsV_fn, isCell_fn, isCell_nf, isCell_do, Int.reduceSub, Int.reduceAdd, Int.reduceToNat, nat10, Int.reduceMul, cutAll3]
  exact s2.trans (same_box _ _ _)
theorem uses_ok (H : Heap) (hlo : H.lo ≤ H.next) (d : Int) (hd : -9223372036854775808 ≤ d ∧ d ≤ 9223372036854775807) : CallA E (fnv 20) [.int .i64 d] H fun v H' => v = .string (usesB d) ∧ Same H H' := by
  refine callA_fn (by kernel_rfl) fn20 rfl rfl ?_
  simp only [Tryz.f20]
  simp (maxSteps := 1000000) (disch := omega) only [↓sgg, sww, simprocAttr, zero_78, lit_78, agg_78, size_78, bs_86, len_86, ia_86, fa_78_0, fa_78_1, agg_9, size_9, repeat_succ, repeat_zero, ble_dec, cellsV_str, cellsV_fn, isCell_fn, isCell_nf, isCell_do, Int.reduceSub, Int.reduceAdd, Int.reduceToNat, nat10, Int.reduceMul]
  refine (of_ok H hlo d hd).mono ?_
  rintro v H2 ⟨rfl, s2⟩
  have n2 := s2.nxt
  have l2 := s2.lo
  simp (maxSteps := 1000000) (disch := omega) only [↓sgg, sww, simprocAttr, zero_78, lit_78, agg_78, size_78, bs_86, len_86, ia_86, fa_78_0, fa_78_1, agg_9, size_9, repeat_succ, repeat_zero, ble_dec, cellsV_str, cellsV_fn, isCell_fn, isCell_nf, isCell_do, Int.reduceSub, Int.reduceAdd, Int.reduceToNat, nat10, Int.reduceMul, cutAll3]
  exact s2.trans (same_box _ _ _)
