/-
  Walks over letters of the functions that the law reaches.
-/
import Derived.Test.YtbpneihjlledpaaGreatDoorX1
import Derived.Lib.ItoaLen
set_option linter.unusedVariables false
set_option linter.unusedSectionVars false
namespace Go.AM
variable [Orc13]
attribute [local instance] fnMaps
open Go Go.Proofs
set_option maxRecDepth 100000
set_option maxHeartbeats 4000000
set_option linter.unusedSimpArgs false
theorem dec_small {u : Nat} (h : u < 10) : Lib.decDigits u = [UInt8.ofNat (48 + u)] := Lib.decDigits_one h
theorem dec_big {u : Nat} (h : ¬ u < 10) : Lib.decDigits u = Lib.decDigits (u / 10) ++ [UInt8.ofNat (48 + u % 10)] := by rw [Lib.decDigits, dif_neg h]
theorem itoa_len {x : Int} (h0 : -9223372036854775808 ≤ x) (h1 : x ≤ 9223372036854775807) : (Lib.itoa x).length ≤ 21 := Lib.itoa_length_le x h0 h1
theorem itoa_s {x : Int} (h0 : 0 ≤ x) (h1 : x < 10) : Lib.itoa x = [UInt8.ofNat (48 + x.toNat)] := by
  unfold Lib.itoa; rw [if_neg (by omega), dec_small (by omega)]
theorem itoa_b {x y z : Int} (h0 : 10 ≤ x) (h : x = 10 * y + z) (hz : 0 ≤ z) (hz2 : z < 10) : Lib.itoa x = Lib.itoa y ++ [UInt8.ofNat (48 + z.toNat)] := by
  unfold Lib.itoa
  rw [if_neg (by omega), if_neg (by omega), dec_big (by omega), show x.toNat / 10 = y.toNat by omega, show x.toNat % 10 = z.toNat by omega]
theorem itoa_m {x : Int} (h0 : x < 0) (h1 : -10 < x) : Lib.itoa x = 45 :: Lib.itoa (-x) := by
  rw [itoa_s (x := -x) (by omega) (by omega)]
  unfold Lib.itoa; rw [if_pos h0, dec_small (by omega)]
  congr 3
  omega
theorem itoa_mb {x y z : Int} (h0 : x < -9) (h : x = 10 * y + z) (hz : z ≤ 0) (hz2 : -10 < z) : Lib.itoa x = Lib.itoa y ++ Lib.itoa (-z) := by
  rw [itoa_s (x := -z) (by omega) (by omega)]
  unfold Lib.itoa
  rw [if_pos (by omega), if_pos (by omega), dec_big (by omega), show x.natAbs / 10 = y.natAbs by omega, show x.natAbs % 10 = (-z).toNat by omega]
  rfl
theorem quot {x : Int} : ∃ y z : Int, x.tdiv 10 = y ∧ x.tmod 10 = z ∧ x = 10 * y + z ∧ (0 ≤ x → 0 ≤ z ∧ z < 10) ∧ (x ≤ 0 → z ≤ 0 ∧ -10 < z) := by
  refine ⟨_, _, rfl, rfl, (Int.mul_tdiv_add_tmod x 10).symm, fun h => ⟨Int.tmod_nonneg _ h, Int.tmod_lt_of_pos _ (by decide)⟩, fun h => ?_⟩
  have h1 := Int.mul_tdiv_add_tmod x 10
  have h2 : (-x).tmod 10 = -(x.tmod 10) := Int.neg_tmod x 10
  have h3 := Int.tmod_nonneg (b := 10) (a := -x) (by omega)
  have h4 := Int.tmod_lt_of_pos (b := 10) (-x) (by decide)
  omega
def dec10 : List UInt8 := [48, 49, 50, 51, 52, 53, 54, 55, 56, 57]
theorem dec10_eq : [48, 49, 50, 51, 52, 53, 54, 55, 56, 57] = dec10 := rfl
theorem dec10_len : dec10.length = 10 := rfl
theorem dec_all : ∀ n : _root_.Fin 10, (dec10.drop n.1).take 1 = [UInt8.ofNat (48 + n.1)] := by decide
theorem dec_cut {n : Nat} (h : n < 10) : (dec10.drop n).take 1 = [UInt8.ofNat (48 + n)] := dec_all ⟨n, h⟩
theorem fn27 : E.fn.get 27 = some Tryz.f27 := by kernel_rfl
theorem rdig : ∀ (n : Nat) (H : Heap), H.lo ≤ H.next → ∀ x : Int, -9223372036854775808 ≤ x → x ≤ 9223372036854775807 → 2 * x.natAbs + (if x < 0 then 1 else 0) ≤ n →
    CallA E (fnv 27) [.int .i64 x] H fun r H' => r = .string (B (Lib.itoa x)) ∧ Same H H' := by
  intro n
  induction n with
  | zero =>
    intro H hlo x h0 h1 hn
    have hx : x = 0 := by split at hn <;> omega
    subst hx
    have e := itoa_s (x := 0) (by omega) (by omega)
    refine callA_fn (by kernel_rfl) fn27 rfl rfl ?_
    simp only [Tryz.f27]
    have m0 : (0 : Int).tmod 10 = 0 := rfl
    have m1 : to? (1 : Int) 10 = some 1 := rfl
    have m2 : to? (0 : Int) 1 = some 0 := rfl
    have hc := dec_cut (n := 0) (by omega)
    have hz : (0 : Int).toNat = 0 := rfl
    rw [hz] at e
    repeat' (first | refine boolP_dec (fun _ => ?_) (fun _ => ?_) | apply boolP_not | refine boolP_b (fun _ => ?_) (fun _ => ?_) | simp (maxSteps := 1000000) (disch := first | omega | (simp only [lenS, *]; omega)) only [↓sgg, sww, simprocAttr, sa, sS, sl_str, dec10_eq, dec10_len, Nat.reduceSub, *])
    all_goals first | (first | (with_reducible exact sameW) | ((with_reducible show _ ∧ _); exact ⟨by first | rfl | (simp [*] <;> omega), sameW⟩)) | omega
  | succ n ih =>
    intro H hlo x h0 h1 hn
    obtain ⟨y, z, hy, hz, hxy, hp, hm⟩ := quot (x := x)
    have hil := @itoa_len
    have y0 : -9223372036854775808 ≤ y := by omega
    have y1 : y ≤ 9223372036854775807 := by omega
    have z0 : -9223372036854775808 ≤ -z := by by_cases 0 ≤ x <;> omega
    have z9 : -z ≤ 9223372036854775807 := by by_cases 0 ≤ x <;> omega
    refine callA_fn (by kernel_rfl) fn27 rfl rfl ?_
    simp only [Tryz.f27]
    by_cases hneg : x < 0
    · rw [if_pos hneg] at hn
      obtain ⟨z1, z2⟩ := hm (by omega)
      clear hp hm
      by_cases h9 : x < -9
      · have e := itoa_mb h9 hxy z1 z2
        have l1 := hil (x := y) (by omega) (by omega)
        have l2 := hil (x := -z) (by omega) (by omega)
        have i1 : 2 * y.natAbs + (if y < 0 then 1 else 0) ≤ n := by split <;> omega
        have i2 : 2 * (-z).natAbs + (if -z < 0 then 1 else 0) ≤ n := by split <;> omega
        have ez : 0 - z = -z := by omega
        clear hil hxy hn
        repeat' (first | refine boolP_dec (fun _ => ?_) (fun _ => ?_) | apply boolP_not | refine boolP_b (fun _ => ?_) (fun _ => ?_) | ((with_reducible show CallA _ _ _ _ _); (first | refine call_ko (H0 := H) koW (ih _ loW y y0 y1 i1) ?_ | refine call_ko (H0 := H) koW (ih _ loW (-z) z0 z9 i2) ?_); intro H2 k2 l2 n2 g2 q2; try simp (disch := omega) only [sm, sl] at l2 n2 g2 q2) | simp (maxSteps := 1000000) (disch := first | omega | (simp only [lenS, *]; omega)) only [↓sgg, sww, simprocAttr, sa, sS, sl_str, dec10_eq, dec10_len, *])
        all_goals first | (first | (with_reducible exact sameW) | ((with_reducible show _ ∧ _); exact ⟨by first | rfl | (simp [*] <;> omega), sameW⟩)) | omega
      · have e := itoa_m hneg (by omega)
        have x0 : -9223372036854775808 ≤ -x := by omega
        have x1 : -x ≤ 9223372036854775807 := by omega
        have l2 := hil (x := -x) x0 x1
        have i2 : 2 * (-x).natAbs + (if -x < 0 then 1 else 0) ≤ n := by split <;> omega
        have ez : 0 - x = -x := by omega
        clear hil hxy hn
        repeat' (first | refine boolP_dec (fun _ => ?_) (fun _ => ?_) | apply boolP_not | refine boolP_b (fun _ => ?_) (fun _ => ?_) | ((with_reducible show CallA _ _ _ _ _); refine call_ko (H0 := H) koW (ih _ loW (-x) x0 x1 i2) ?_; intro H2 k2 l2 n2 g2 q2; try simp (disch := omega) only [sm, sl] at l2 n2 g2 q2) | simp (maxSteps := 1000000) (disch := first | omega | (simp only [lenS, *]; omega)) only [↓sgg, sww, simprocAttr, sa, sS, sl_str, dec10_eq, dec10_len, *])
        all_goals first | (first | (with_reducible exact sameW) | ((with_reducible show _ ∧ _); exact ⟨by first | rfl | (simp [*] <;> omega), sameW⟩)) | omega
    · rw [if_neg hneg] at hn
      obtain ⟨z1, z2⟩ := hp (by omega)
      clear hp hm
      have hc := dec_cut (n := z.toNat) (by omega)
      have hc2 : (z + 1).toNat - z.toNat = 1 := by omega
      have t1 : to? (z + 1) 10 = some (z + 1).toNat := to_in (by omega) (by omega)
      have t2 : to? z (z + 1).toNat = some z.toNat := to_in (by omega) (by omega)
      by_cases h9 : x < 10
      · have e := itoa_s (x := x) (by omega) h9
        have ezx : z = x := by omega
        subst ezx
        clear hil hxy hn
        repeat' (first | refine boolP_dec (fun _ => ?_) (fun _ => ?_) | apply boolP_not | refine boolP_b (fun _ => ?_) (fun _ => ?_) | simp (maxSteps := 1000000) (disch := first | omega | (simp only [lenS, *]; omega)) only [↓sgg, sww, simprocAttr, sa, sS, sl_str, dec10_eq, dec10_len, *])
        all_goals first | (first | (with_reducible exact sameW) | ((with_reducible show _ ∧ _); exact ⟨by first | rfl | (simp [*] <;> omega), sameW⟩)) | omega
      · have e := itoa_b (by omega) hxy z1 z2
        have l1 := hil (x := y) (by omega) (by omega)
        have i1 : 2 * y.natAbs + (if y < 0 then 1 else 0) ≤ n := by split <;> omega
        clear hil hxy hn
        repeat' (first | refine boolP_dec (fun _ => ?_) (fun _ => ?_) | apply boolP_not | refine boolP_b (fun _ => ?_) (fun _ => ?_) | ((with_reducible show CallA _ _ _ _ _); refine call_ko (H0 := H) koW (ih _ loW y y0 y1 i1) ?_; intro H2 k2 l2 n2 g2 q2; try simp (disch := omega) only [sm, sl] at l2 n2 g2 q2) | simp (maxSteps := 1000000) (disch := first | omega | (simp only [lenS, *]; omega)) only [↓sgg, sww, simprocAttr, sa, sS, sl_str, dec10_eq, dec10_len, *])
        all_goals first | (first | (with_reducible exact sameW) | ((with_reducible show _ ∧ _); exact ⟨by first | rfl | (simp [*] <;> omega), sameW⟩)) | omega
theorem rdig_ok (H : Heap) (hlo : H.lo ≤ H.next) (x : Int) (h0 : -9223372036854775808 ≤ x) (h1 : x ≤ 9223372036854775807) : CallA E (fnv 27) [.int .i64 x] H fun r H' => r = .string (B (Lib.itoa x)) ∧ Same H H' :=
  rdig _ H hlo x h0 h1 (Nat.le_refl _)
end Go.AM
