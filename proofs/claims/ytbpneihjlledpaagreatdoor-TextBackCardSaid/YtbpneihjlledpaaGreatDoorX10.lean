/-
  Walks over letters of the functions that the law reaches.
-/
import Derived.Test.YtbpneihjlledpaaGreatDoorX9
set_option linter.unusedVariables false
set_option linter.unusedSectionVars false
namespace Go.AM
variable [Orc13]
attribute [local instance] fnMaps
open Go Go.Proofs
set_option maxRecDepth 100000
set_option maxHeartbeats 4000000
set_option linter.unusedSimpArgs false
def cutT (l : List UInt8) : List UInt8 := if l.head? = some 64 then l.drop 1 else l
theorem cutT_len (l : List UInt8) : (cutT l).length ≤ l.length := by unfold cutT; split <;> simp
theorem cut_told (H : Heap) (l : List UInt8) : CallA E (fnv 83) [.string (B l), .string (B [64])] H fun r H' => r = .tuple #[.string (B (cutT l)), .bool (decide (l.head? = some 64))] ∧ Same H H' := by
  refine callA_told (H' := H) (v := .tuple #[.string (B (cutT l)), .bool (decide (l.head? = some 64))]) ?_ ⟨rfl, .refl _⟩
  rw [orc_cut]
  simp only [tCut, B_list]
  have h1 : Lib.hasPrefix l [64] = decide (l.head? = some 64) := by
    cases l with
    | nil => rfl
    | cons c l =>
      show ((64 : UInt8) == c && List.isPrefixOf [] l) = _
      rw [show List.isPrefixOf [] l = true by cases l <;> rfl, Bool.and_true, List.head?_cons, Bool.eq_iff_iff, beq_iff_eq, decide_eq_true_iff, Option.some.injEq]
      exact eq_comm
  have h2 : Lib.trimPrefix l [64] = cutT l := by
    unfold Lib.trimPrefix cutT
    rw [h1]
    by_cases h : l.head? = some 64
    · rw [decide_eq_true h, if_pos rfl, if_pos h]; rfl
    · rw [decide_eq_false h, if_neg (by simp), if_neg h]
  rw [h1, h2]
  rfl
def valK (l : List UInt8) : Int := if l = [110, 105, 108] then 0 else if numP (cutT l) = true then (if l.head? = some 64 then 2 else 1) else -1
def valX (l : List UInt8) : Int := if l = [110, 105, 108] then 0 else atoiN (cutT l)
theorem valX_in (l : List UInt8) : i64 (valX l) := by
  unfold valX
  split
  · exact ⟨by decide, by decide⟩
  · exact atoiN_in _
theorem valK_in (l : List UInt8) : i64 (valK l) := by
  unfold valK
  repeat' split
  all_goals exact ⟨by decide, by decide⟩
theorem fn53 : E.fn.get 53 = some Tryz.f53 := by kernel_rfl
theorem tval_ok (H : Heap) (hlo : H.lo ≤ H.next) (l : List UInt8) (hl : l.length ≤ 1000000000) : CallA E (fnv 53) [.string (B l)] H fun r H' => r = .agg #[.int .i64 (valK l), .int .i64 (valX l)] ∧ Same H H' := by
  refine callA_fn (by kernel_rfl) fn53 rfl rfl ?_
  simp only [Tryz.f53]
  have hcl : (cutT l).length ≤ 1000000000 := Nat.le_trans (cutT_len l) hl
  by_cases hn : l = [110, 105, 108]
  · have e1 : valK l = 0 := if_pos hn
    have e2 : valX l = 0 := if_pos hn
    have hd : decide (l = [110, 105, 108]) = true := decide_eq_true hn
    clear hn
    repeat' (first | refine boolP_dec (fun _ => ?_) (fun _ => ?_) | apply boolP_not | refine boolP_b (fun _ => ?_) (fun _ => ?_) | ((with_reducible show CallA _ _ _ _ _); (first | refine call_ko (H0 := H) koW (cut_told _ l) ?_ | refine call_ko (H0 := H) koW (number_ok _ loW _ hcl) ?_); intro H2 k2 l2 n2 g2 q2; try simp (disch := omega) only [sm, sl] at l2 n2 g2 q2) | simp (maxSteps := 1000000) (disch := first | omega | (simp only [lenS, *]; omega)) only [↓sgg, sww, simprocAttr, sa, sS, *])
    all_goals first | exact sameW | (first | (with_reducible exact sameW) | ((with_reducible show _ ∧ _); exact ⟨by first | rfl | (simp [*] <;> omega), sameW⟩)) | omega
  · have hd : decide (l = [110, 105, 108]) = false := decide_eq_false hn
    have e2 : valX l = atoiN (cutT l) := if_neg hn
    have e1 : valK l = if numP (cutT l) = true then (if l.head? = some 64 then 2 else 1) else -1 := if_neg hn
    cases hp : numP (cutT l) with
    | true =>
      rw [hp, if_pos rfl] at e1
      cases hh : decide (l.head? = some 64) with
      | true =>
        rw [if_pos (of_decide_eq_true hh)] at e1
        repeat' (first | refine boolP_dec (fun _ => ?_) (fun _ => ?_) | apply boolP_not | refine boolP_b (fun _ => ?_) (fun _ => ?_) | ((with_reducible show CallA _ _ _ _ _); (first | refine call_ko (H0 := H) koW (cut_told _ l) ?_ | refine call_ko (H0 := H) koW (number_ok _ loW _ hcl) ?_); intro H2 k2 l2 n2 g2 q2; try simp (disch := omega) only [sm, sl] at l2 n2 g2 q2) | simp (maxSteps := 1000000) (disch := first | omega | (simp only [lenS, *]; omega)) only [↓sgg, sww, simprocAttr, sa, sS, *])
        all_goals first | exact sameW | (first | (with_reducible exact sameW) | ((with_reducible show _ ∧ _); exact ⟨by first | rfl | (simp [*] <;> omega), sameW⟩)) | omega
      | false =>
        rw [if_neg (of_decide_eq_false hh)] at e1
        have ec : cutT l = l := if_neg (of_decide_eq_false hh)
        rw [ec] at hp e2
        repeat' (first | refine boolP_dec (fun _ => ?_) (fun _ => ?_) | apply boolP_not | refine boolP_b (fun _ => ?_) (fun _ => ?_) | ((with_reducible show CallA _ _ _ _ _); (first | refine call_ko (H0 := H) koW (cut_told _ l) ?_ | refine call_ko (H0 := H) koW (number_ok _ loW l hl) ?_); intro H2 k2 l2 n2 g2 q2; try simp (disch := omega) only [sm, sl] at l2 n2 g2 q2) | simp (maxSteps := 1000000) (disch := first | omega | (simp only [lenS, *]; omega)) only [↓sgg, sww, simprocAttr, sa, sS, *])
        all_goals first | exact sameW | (first | (with_reducible exact sameW) | ((with_reducible show _ ∧ _); exact ⟨by first | rfl | (simp [*] <;> omega), sameW⟩)) | omega
    | false =>
      rw [hp, if_neg (by decide)] at e1
      cases hh : decide (l.head? = some 64) with
      | true =>
        repeat' (first | refine boolP_dec (fun _ => ?_) (fun _ => ?_) | apply boolP_not | refine boolP_b (fun _ => ?_) (fun _ => ?_) | ((with_reducible show CallA _ _ _ _ _); (first | refine call_ko (H0 := H) koW (cut_told _ l) ?_ | refine call_ko (H0 := H) koW (number_ok _ loW _ hcl) ?_); intro H2 k2 l2 n2 g2 q2; try simp (disch := omega) only [sm, sl] at l2 n2 g2 q2) | simp (maxSteps := 1000000) (disch := first | omega | (simp only [lenS, *]; omega)) only [↓sgg, sww, simprocAttr, sa, sS, *])
        all_goals first | exact sameW | (first | (with_reducible exact sameW) | ((with_reducible show _ ∧ _); exact ⟨by first | rfl | (simp [*] <;> omega), sameW⟩)) | omega
      | false =>
        have ec : cutT l = l := if_neg (of_decide_eq_false hh)
        rw [ec] at hp e2
        repeat' (first | refine boolP_dec (fun _ => ?_) (fun _ => ?_) | apply boolP_not | refine boolP_b (fun _ => ?_) (fun _ => ?_) | ((with_reducible show CallA _ _ _ _ _); (first | refine call_ko (H0 := H) koW (cut_told _ l) ?_ | refine call_ko (H0 := H) koW (number_ok _ loW l hl) ?_); intro H2 k2 l2 n2 g2 q2; try simp (disch := omega) only [sm, sl] at l2 n2 g2 q2) | simp (maxSteps := 1000000) (disch := first | omega | (simp only [lenS, *]; omega)) only [↓sgg, sww, simprocAttr, sa, sS, *])
        all_goals first | exact sameW | (first | (with_reducible exact sameW) | ((with_reducible show _ ∧ _); exact ⟨by first | rfl | (simp [*] <;> omega), sameW⟩)) | omega
section
variable {E : Env} {sz : Nat} {T : Tr Value} {H : Heap} {all : List Oper}
end
theorem head_get {l : List UInt8} {c : UInt8} (h : l.head? = some c) : l[0]? = some c := by rw [← List.head?_eq_getElem?]; exact h
end Go.AM
