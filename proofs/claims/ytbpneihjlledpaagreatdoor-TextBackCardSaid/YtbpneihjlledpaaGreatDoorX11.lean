/-
  Walks over letters of the functions that the law reaches.
-/
import Derived.Test.YtbpneihjlledpaaGreatDoorX10
set_option linter.unusedVariables false
set_option linter.unusedSectionVars false
namespace Go.AM
variable [Orc13]
attribute [local instance] fnMaps
open Go Go.Proofs
set_option maxRecDepth 100000
set_option maxHeartbeats 4000000
set_option linter.unusedSimpArgs false
def pvalB (l : List UInt8) : Bool := !decide (l = [63]) && decide (textV (valK l) (valX l) = l)
def setF (o : TOp) (c n : Int) : TOp := if c = 107 then { o with k := n } else if c = 102 then { o with f := n } else if c = 114 then { o with r := n } else if c = 104 then { o with h := n } else if c = 103 then { o with g := n } else { o with i := n }
def readO (o : TOp) (c : Int) (l : List UInt8) : TOp :=
  if c = 112 then (if numP l = true ∧ 0 ≤ atoiN l ∧ atoiN l ≤ 255 then { o with p := atoiN l } else o) else if c = 119 then { o with w := (readW l).1 } else if c = 118 then { o with vk := valK l, vx := valX l } else if numP l = true then setF o c (atoiN l) else o
def readB (c : Int) (l : List UInt8) : Bool :=
  if c = 112 then decide (numP l = true ∧ 0 ≤ atoiN l ∧ atoiN l ≤ 255) else if c = 119 then decide ((readW l).2 = 0) else if c = 118 then pvalB l else numP l
theorem set_off (o : TOp) (c n : Int) : (opL o).set (offF c) (.int .i64 n) = opL (setF o c n) := by
  unfold offF setF
  repeat' split
  all_goals rfl
theorem ov_set (x : Value) (k : Nat) (l : List Value) (h : k < l.length) : over [x] k l = l.set k x := over_one x k l h
theorem off_lt (c : Int) : offF c < 11 := by
  unfold offF
  repeat' split
  all_goals omega
  all_goals omega
theorem opL_len (o : TOp) : (opL o).length = 11 := rfl
theorem fn33 : E.fn.get 33 = some Tryz.f33 := by kernel_rfl
theorem tread_ok (H : Heap) (hlo : H.lo ≤ H.next) (r : Nat) (o : TOp) (hr : H.objs.get r = some (.row (opL o) none true)) (hro : H.lo ≤ r) (hrn : r < H.next) (c : Int) (l : List UInt8) (hl : l.length ≤ 1000000000) :
    CallA E (fnv 33) [ptr r 0, .int .i32 c, .string (B l)] H fun v H' => v = .bool (readB c l) ∧ H'.objs.get r = some (.row (opL (readO o c l)) none true) ∧ SameBut r H H' := by
  refine callA_fn (by kernel_rfl) fn33 rfl rfl ?_
  simp only [Tryz.f33]
  by_cases h1 : c = 112
  · subst h1
    unfold opL inO at hr
    by_cases hp : numP l = true ∧ 0 ≤ atoiN l ∧ atoiN l ≤ 255
    · have e : readB 112 l = true := decide_eq_true hp
      have e2 : readO o 112 l = { o with p := atoiN l } := if_pos hp
      obtain ⟨hp1, hp2, hp3⟩ := hp
      repeat' (first | refine boolP_dec (fun _ => ?_) (fun _ => ?_) | apply boolP_not | refine boolP_b (fun _ => ?_) (fun _ => ?_) | ((with_reducible show CallA _ _ _ _ _); refine call_ko (H0 := H) koW (number_ok _ loW l hl) ?_; intro H2 k2 l2 n2 g2 q2; try simp (disch := omega) only [sm, sl] at l2 n2 g2 q2) | simp (maxSteps := 1000000) (disch := first | omega | (simp only [lenS, *]; omega)) only [↓sgg, sww, simprocAttr, sa, sS, nilV_ptr, wrap_u8, *])
      all_goals first | omega | (first | exact ⟨rfl, rfl, (Same.but sameW r).setRow _⟩ | exact ⟨rfl, (Same.but sameW r).setRow _⟩ | exact (Same.but sameW r).setRow _ | trace_state)
    · have e : readB 112 l = false := decide_eq_false hp
      have e2 : readO o 112 l = o := if_neg hp
      cases hp1 : numP l with
      | true =>
        have hp3 : ¬ (0 ≤ atoiN l ∧ atoiN l ≤ 255) := fun h => hp ⟨hp1, h⟩
        clear hp
        repeat' (first | refine boolP_dec (fun _ => ?_) (fun _ => ?_) | apply boolP_not | refine boolP_b (fun _ => ?_) (fun _ => ?_) | ((with_reducible show CallA _ _ _ _ _); refine call_ko (H0 := H) koW (number_ok _ loW l hl) ?_; intro H2 k2 l2 n2 g2 q2; try simp (disch := omega) only [sm, sl] at l2 n2 g2 q2) | simp (maxSteps := 1000000) (disch := first | omega | (simp only [lenS, *]; omega)) only [↓sgg, sww, simprocAttr, sa, sS, nilV_ptr, wrap_u8, *])
        all_goals first | omega | (first | exact ⟨rfl, rfl, Same.but sameW r⟩ | exact ⟨rfl, Same.but sameW r⟩ | exact Same.but sameW r | trace_state)
      | false =>
        clear hp
        repeat' (first | refine boolP_dec (fun _ => ?_) (fun _ => ?_) | apply boolP_not | refine boolP_b (fun _ => ?_) (fun _ => ?_) | ((with_reducible show CallA _ _ _ _ _); refine call_ko (H0 := H) koW (number_ok _ loW l hl) ?_; intro H2 k2 l2 n2 g2 q2; try simp (disch := omega) only [sm, sl] at l2 n2 g2 q2) | simp (maxSteps := 1000000) (disch := first | omega | (simp only [lenS, *]; omega)) only [↓sgg, sww, simprocAttr, sa, sS, nilV_ptr, wrap_u8, *])
        all_goals first | omega | (first | exact ⟨rfl, rfl, Same.but sameW r⟩ | exact ⟨rfl, Same.but sameW r⟩ | exact Same.but sameW r | trace_state)
  · by_cases h2 : c = 119
    · subst h2
      unfold opL inO at hr
      have e : readB 119 l = decide ((readW l).2 = 0) := rfl
      have e2 : readO o 119 l = { o with w := (readW l).1 } := rfl
      repeat' (first | refine boolP_dec (fun _ => ?_) (fun _ => ?_) | apply boolP_not | refine boolP_b (fun _ => ?_) (fun _ => ?_) | ((with_reducible show CallA _ _ _ _ _); (first | refine call_ko (H0 := H) koW (number_ok _ loW l hl) ?_ | refine call_ko (H0 := H) koW (wread_ok _ loW l hl) ?_); intro H2 k2 l2 n2 g2 q2; try simp (disch := omega) only [sm, sl] at l2 n2 g2 q2) | simp (maxSteps := 1000000) (disch := first | omega | (simp only [lenS, *]; omega)) only [↓sgg, sww, simprocAttr, sa, sS, nilV_ptr, *])
      all_goals first | omega | (first | exact ⟨rfl, rfl, (Same.but sameW r).setRow _⟩ | exact ⟨rfl, (Same.but sameW r).setRow _⟩ | exact (Same.but sameW r).setRow _ | trace_state)
    · by_cases h3 : c = 118
      · subst h3
        unfold opL inO at hr
        obtain ⟨v0, v1⟩ := valX_in l
        have e : readB 118 l = (!decide (l = [63]) && decide (textV (valK l) (valX l) = l)) := rfl
        have e2 : readO o 118 l = { o with vk := valK l, vx := valX l } := rfl
        by_cases h63 : l = [63]
        · have hd : decide (l = [63]) = true := decide_eq_true h63
          rw [hd] at e
          clear h63
          repeat' (first | refine boolP_dec (fun _ => ?_) (fun _ => ?_) | apply boolP_not | refine boolP_b (fun _ => ?_) (fun _ => ?_) | ((with_reducible show CallA _ _ _ _ _); (first | refine call_ko (H0 := H) koW (number_ok _ loW l hl) ?_ | refine call_ko (H0 := H) koW (tval_ok _ loW l hl) ?_ | refine call_ko (H0 := _) (Ko.refl _) (vtext_ok _ loW _ _ v0 v1) ?_); intro H2 k2 l2 n2 g2 q2; try simp (disch := omega) only [sm, sl] at l2 n2 g2 q2) | simp (maxSteps := 1000000) (disch := first | omega | (simp only [lenS, *]; omega)) only [↓sgg, sww, simprocAttr, sa, sS, nilV_ptr, *])
          all_goals first | omega | (first | exact ⟨rfl, rfl, (Same.but sameW r).setRow _⟩ | exact ⟨rfl, (Same.but sameW r).setRow _⟩ | exact (Same.but sameW r).setRow _ | (refine ⟨rfl, by omega, by omega, fun x hx hne => ?_, fun x hx => ?_⟩ <;> simp (disch := omega) only [nbeq_ne, cond_false, *]))
        · have hd : decide (l = [63]) = false := decide_eq_false h63
          rw [hd] at e
          clear h63
          repeat' (first | refine boolP_dec (fun _ => ?_) (fun _ => ?_) | apply boolP_not | refine boolP_b (fun _ => ?_) (fun _ => ?_) | ((with_reducible show CallA _ _ _ _ _); (first | refine call_ko (H0 := H) koW (number_ok _ loW l hl) ?_ | refine call_ko (H0 := H) koW (tval_ok _ loW l hl) ?_ | refine call_ko (H0 := _) (Ko.refl _) (vtext_ok _ loW _ _ v0 v1) ?_); intro H2 k2 l2 n2 g2 q2; try simp (disch := omega) only [sm, sl] at l2 n2 g2 q2) | simp (maxSteps := 1000000) (disch := first | omega | (simp only [lenS, *]; omega)) only [↓sgg, sww, simprocAttr, sa, sS, nilV_ptr, *])
          all_goals first | omega | (first | exact ⟨rfl, rfl, (Same.but sameW r).setRow _⟩ | exact ⟨rfl, (Same.but sameW r).setRow _⟩ | exact (Same.but sameW r).setRow _ | (refine ⟨rfl, by omega, by omega, fun x hx hne => ?_, fun x hx => ?_⟩ <;> simp (disch := omega) only [nbeq_ne, cond_false, *]))
      · have e : readB c l = numP l := (if_neg h1).trans ((if_neg h2).trans (if_neg h3))
        have e2 : readO o c l = if numP l = true then setF o c (atoiN l) else o := (if_neg h1).trans ((if_neg h2).trans (if_neg h3))
        have ho := set_off o c (atoiN l)
        have hlt := off_lt c
        have hln := opL_len o
        cases hp1 : numP l with
        | true =>
          rw [hp1, if_pos rfl] at e2
          repeat' (first | refine boolP_dec (fun _ => ?_) (fun _ => ?_) | apply boolP_not | refine boolP_b (fun _ => ?_) (fun _ => ?_) | ((with_reducible show CallA _ _ _ _ _); (first | refine call_ko (H0 := H) koW (number_ok _ loW l hl) ?_ | refine call_ko (H0 := H) koW (spot_ok _ loW r 0 c) ?_); intro H2 k2 l2 n2 g2 q2; try simp (disch := omega) only [sm, sl] at l2 n2 g2 q2) | simp (maxSteps := 1000000) (disch := first | omega | (simp only [lenS, *]; omega)) only [↓sgg, sww, simprocAttr, sa, sS, nilV_ptr, ov_set, *])
          all_goals first | omega | (first | exact ⟨rfl, rfl, (Same.but sameW r).setRow _⟩ | exact ⟨rfl, (Same.but sameW r).setRow _⟩ | exact (Same.but sameW r).setRow _ | trace_state)
        | false =>
          rw [hp1, if_neg (by decide)] at e2
          repeat' (first | refine boolP_dec (fun _ => ?_) (fun _ => ?_) | apply boolP_not | refine boolP_b (fun _ => ?_) (fun _ => ?_) | ((with_reducible show CallA _ _ _ _ _); (first | refine call_ko (H0 := H) koW (number_ok _ loW l hl) ?_ | refine call_ko (H0 := H) koW (spot_ok _ loW r 0 c) ?_); intro H2 k2 l2 n2 g2 q2; try simp (disch := omega) only [sm, sl] at l2 n2 g2 q2) | simp (maxSteps := 1000000) (disch := first | omega | (simp only [lenS, *]; omega)) only [↓sgg, sww, simprocAttr, sa, sS, nilV_ptr, ov_set, *])
          all_goals first | omega | (first | exact ⟨rfl, rfl, Same.but sameW r⟩ | exact ⟨rfl, Same.but sameW r⟩ | exact Same.but sameW r | trace_state)
end Go.AM
