/-
  Walks over letters of the functions that the law reaches.
-/
import Derived.Test.YtbpneihjlledpaaGreatDoorX2
import Derived.Lib.AtoiAllMem
import Derived.Lib.AtoiAllCases
set_option linter.unusedVariables false
set_option linter.unusedSectionVars false
namespace Go.AM
variable [Orc13]
attribute [local instance] fnMaps
open Go Go.Proofs
set_option maxRecDepth 100000
set_option maxHeartbeats 4000000
set_option linter.unusedSimpArgs false
theorem callA_told {f : Value} {args : List Value} {H H' : Heap} {v : Value} {K : Value → Heap → Prop} (ho : E.orc f args H = some (v, H')) (hk : K v H') : CallA E f args H K :=
  ⟨0, v, H', by unfold callWith; rw [ho], hk⟩
theorem orc_itoa (args : List Value) (H : Heap) : E.orc (fnv 40) args H = tItoa.f args H := by kernel_rfl
theorem orc_form (args : List Value) (H : Heap) : E.orc (fnv 56) args H = tForm.f args H := by kernel_rfl
theorem orc_atoi (args : List Value) (H : Heap) : E.orc (fnv 82) args H = tAtoi.f args H := by kernel_rfl
theorem orc_cut (args : List Value) (H : Heap) : E.orc (fnv 83) args H = tCut.f args H := by kernel_rfl
theorem orc_join (args : List Value) (H : Heap) : E.orc (fnv 22) args H = tJoin.f args H := by kernel_rfl
theorem orc_split (args : List Value) (H : Heap) : E.orc (fnv 31) args H = tSplit.f args H := by kernel_rfl
theorem okI_in {n : Int} (h0 : -9223372036854775808 ≤ n) (h1 : n ≤ 9223372036854775807) : okI n = true := by
  simp only [okI, leI_eq, Bool.and_eq_true, decide_eq_true_eq]; exact ⟨h0, h1⟩
theorem itoa_ok (H : Heap) (n : Int) (h0 : -9223372036854775808 ≤ n) (h1 : n ≤ 9223372036854775807) : CallA E (fnv 40) [.int .i64 n] H fun r H' => r = .string (B (Lib.itoa n)) ∧ Same H H' :=
  callA_told (H' := H) (v := .string (B (Lib.itoa n))) (by rw [orc_itoa]; simp only [tItoa, okI_in h0 h1, cond_true, strV, itoaC_eq h0 h1]; rfl) ⟨rfl, .refl _⟩
theorem form_ok (H : Heap) (n : Int) (h0 : -9223372036854775808 ≤ n) (h1 : n ≤ 9223372036854775807) : CallA E (fnv 56) [.int .i64 n, .int .i64 10] H fun r H' => r = .string (B (Lib.itoa n)) ∧ Same H H' :=
  callA_told (H' := H) (v := .string (B (Lib.itoa n))) (by rw [orc_form]; simp only [tForm, okI_in h0 h1, cond_true, strV, itoaC_eq h0 h1]; rfl) ⟨rfl, .refl _⟩
def atoiN (l : List UInt8) : Int := match Lib.atoiAll l with
  | .ok v => v
  | Lib.NumEnd.syntax => 0
  | .range => Lib.atoiSat l
def atoiO (l : List UInt8) : Bool := match Lib.atoiAll l with
  | .ok _ => true
  | _ => false
theorem atoiN_in (l : List UInt8) : -9223372036854775808 ≤ atoiN l ∧ atoiN l ≤ 9223372036854775807 := by
  unfold atoiN
  split
  · rename_i h; exact Lib.atoiAll_bounds h
  · omega
  · have := Lib.atoiSat_bounds l; omega
theorem atoi_ok (H : Heap) (l : List UInt8) (hl : l.length ≤ 1000000000) (h : atoiO l = true) : CallA E (fnv 82) [.string (B l)] H fun r H' => r = .tuple #[.int .i64 (atoiN l), .nilIface] ∧ Same H H' := by
  unfold atoiO at h
  split at h
  · rename_i v he
    exact callA_told (H' := H) (v := .tuple #[.int .i64 (atoiN l), .nilIface]) (by rw [orc_atoi]; simp only [tAtoi, B_size, B_list, Nat.ble_eq_true_of_le hl, cond_true, atoiV, he, atoiN]) ⟨rfl, .refl _⟩
  · cases h
theorem atoi_bad (H : Heap) (l : List UInt8) (hl : l.length ≤ 1000000000) (h : atoiO l = false) : CallA E (fnv 82) [.string (B l)] H fun r H' => r = .tuple #[.int .i64 (atoiN l), .iface 198 (ptr H.next 0)] ∧ Same H H' := by
  refine callA_told (H' := H.newRow []) (v := .tuple #[.int .i64 (atoiN l), .iface 198 (ptr H.next 0)]) ?_ ⟨rfl, same_newRow []⟩
  rw [orc_atoi]
  simp only [tAtoi, B_size, B_list, Nat.ble_eq_true_of_le hl, cond_true, atoiV, atoiN]
  unfold atoiO at h
  split at h
  · cases h
  · split <;> simp_all
theorem bin_ifn (t : TypeId) (x y : Operand) (u : TypeId) (v : Value) : binV E .eql t x y (.iface u v) .nilIface = (eqV E (99 + 1) t (.iface u v) .nilIface).bind fun r => some (.bool r) := Eq.trans rfl rfl
theorem eqn72 (x : Operand) : binV E .eql 72 x (.const .nilIface) .nilIface .nilIface = some (.bool true) := eqn_72 x x
theorem ev_nilif (T : Tr Value) : ev T (.const .nilIface) = some .nilIface := Eq.trans rfl rfl
def numP (l : List UInt8) : Bool := atoiO l && decide (Lib.itoa (atoiN l) = l)
theorem fn51 : E.fn.get 51 = some Tryz.f51 := by kernel_rfl
theorem number_ok (H : Heap) (hlo : H.lo ≤ H.next) (l : List UInt8) (hl : l.length ≤ 1000000000) : CallA E (fnv 51) [.string (B l)] H fun r H' => r = .tuple #[.int .i64 (atoiN l), .bool (numP l)] ∧ Same H H' := by
  obtain ⟨n0, n1⟩ := atoiN_in l
  refine callA_fn (by kernel_rfl) fn51 rfl rfl ?_
  simp only [Tryz.f51]
  cases h : atoiO l with
  | true =>
    have e : numP l = decide (Lib.itoa (atoiN l) = l) := by unfold numP; rw [h]; rfl
    repeat' (first | refine boolP_dec (fun _ => ?_) (fun _ => ?_) | apply boolP_not | refine boolP_b (fun _ => ?_) (fun _ => ?_) | ((with_reducible show CallA _ _ _ _ _); (first | refine call_ko (H0 := H) koW (atoi_ok _ l hl h) ?_ | refine call_ko (H0 := H) koW (itoa_ok _ _ n0 n1) ?_); intro H2 k2 l2 n2 g2 q2; try simp (disch := omega) only [sm, sl] at l2 n2 g2 q2) | simp (maxSteps := 1000000) (disch := first | omega | (simp only [lenS, *]; omega)) only [↓sgg, sww, simprocAttr, sa, sS, bin_ifn, ev_nilif, eqn72, *])
    all_goals first | (first | (with_reducible exact sameW) | ((with_reducible show _ ∧ _); exact ⟨by first | rfl | (simp [*] <;> omega), sameW⟩)) | omega
  | false =>
    have e : numP l = false := by unfold numP; rw [h]; rfl
    repeat' (first | refine boolP_dec (fun _ => ?_) (fun _ => ?_) | apply boolP_not | refine boolP_b (fun _ => ?_) (fun _ => ?_) | ((with_reducible show CallA _ _ _ _ _); (first | refine call_ko (H0 := H) koW (atoi_bad _ l hl h) ?_ | refine call_ko (H0 := H) koW (itoa_ok _ _ n0 n1) ?_); intro H2 k2 l2 n2 g2 q2; try simp (disch := omega) only [sm, sl] at l2 n2 g2 q2) | simp (maxSteps := 1000000) (disch := first | omega | (simp only [lenS, *]; omega)) only [↓sgg, sww, simprocAttr, sa, sS, bin_ifn, ev_nilif, eqn72, *])
    all_goals first | (first | (with_reducible exact sameW) | ((with_reducible show _ ∧ _); exact ⟨by first | rfl | (simp [*] <;> omega), sameW⟩)) | omega
end Go.AM
