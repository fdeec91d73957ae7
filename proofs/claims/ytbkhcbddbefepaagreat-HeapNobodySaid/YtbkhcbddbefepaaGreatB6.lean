/-
  Walks over letters of the functions that the law reaches.
-/
import Derived.Test.YtbkhcbddbefepaaGreatB5
namespace Go.AM
attribute [local instance] fnMaps
open Go Go.Proofs
set_option maxRecDepth 100000
set_option maxHeartbeats 1000000
set_option linter.unusedSimpArgs false
def wAt (ws : List Nat) (i : Int) : Nat := ws.getD i.toNat 0
def headE (ws : List Nat) (i : Int) : Int := if placeE ws.length i = 0 then (if isHd (wAt ws i) then (if ws.length - i < sizeH (decHd (wAt ws i)) then 2 else 0) else 3) else 2
def headAt (ws : List Nat) (i : Int) : Hd := if headE ws i = 0 then decHd (wAt ws i) else zeroHd
theorem Ar.lt {H : Heap} {a rw g : Nat} {ws : List Nat} (h : Ar H a rw g ws) (i : Int) : wAt ws i < 2 ^ 64 := by
  unfold wAt
  rw [List.getD_eq_getElem?_getD]
  cases hc : ws[i.toNat]? with
  | none => simp
  | some w => exact h.u64 w (List.mem_of_getElem? hc)
theorem sizeH_in {h : Hd} : 0 ≤ sizeH h ∧ sizeH h ≤ 8193 := by
  unfold sizeH
  split
  · rename_i hk
    have := okH_in hk
    omega
  · omega
theorem fn97 : E.fn.get 97 = some Tryz.f97 := by kernel_rfl
theorem ohead_ok (H : Heap) (hlo : H.lo ≤ H.next) {a rw g : Nat} {ws : List Nat} (h : Ar H a rw g ws) (i : Int) (hi : -9223372036854775808 ≤ i ∧ i ≤ 9223372036854775807) : CallA E (fnv 97) [ptr a 0, .int .i64 i] H fun r H' => r = .tuple #[hdV (headAt ws i), .int .i64 (headE ws i)] ∧ Same H H' := by
  have hw := h.lt i
  have hl := h.len
  have hs := sizeH_in (h := decHd (wAt ws i))
  refine callA_fn (by kernel_rfl) fn97 rfl rfl ?_
  simp only [Tryz.f97]
  by_cases hp : placeE ws.length i = 0
  · have hq : 0 ≤ i ∧ i < ws.length := by unfold placeE at hp; split at hp <;> omega
    have hg : ws.getD i.toNat 0 = wAt ws i := rfl
    cases hd : isHd (wAt ws i) with
    | false =>
      have e : headE ws i = 3 := by unfold headE; rw [if_pos hp, if_neg (by rw [hd]; simp)]
      have e2 : headAt ws i = zeroHd := by unfold headAt; rw [if_neg (by omega)]
      repeat' (first | refine boolP_dec (fun _ => ?_) (fun _ => ?_) | apply boolP_not | refine boolP_b (fun _ => ?_) (fun _ => ?_) | ((with_reducible show CallA _ _ _ _ _); (first | refine call_ko (H0 := H) koW (aread_ok _ loW (by first | exact h | exact h.same koW) i) ?_ | refine call_ko (H0 := H) koW (hdec_ok _ loW (wAt ws i) hw) ?_); intro H2 k2 l2 n2 g2 q2; try simp (disch := omega) only [sm, sl] at l2 n2 g2 q2) | simp (config := { maxSteps := 1000000 }) (disch := omega) only [↓sh, ↓sh2, ↓reduceIte, sx, sl, sb, st, nbeq_ne, dle, relo_eq, wrap_i64, Nat.reduceBEq, Nat.reduceLT, Nat.reduceLeDiff, Nat.reduceAdd, Nat.reduceMul, Nat.reduceEqDiff, Int.reduceEq, Int.reduceLT, Int.reduceLE, Int.reduceNeg, Int.reduceToNat, Bool.false_eq_true, eq_self, sa, hdV, zeroHd, *])
      exact sameW
    | true =>
      repeat' (first | refine boolP_dec (fun _ => ?_) (fun _ => ?_) | apply boolP_not | refine boolP_b (fun _ => ?_) (fun _ => ?_) | ((with_reducible show CallA _ _ _ _ _); (first | refine call_ko (H0 := H) koW (aread_ok _ loW (by first | exact h | exact h.same koW) i) ?_ | refine call_ko (H0 := H) koW (hdec_ok _ loW (wAt ws i) hw) ?_ | refine call_ko (H0 := H) koW (hsize_ok _ loW (decHd (wAt ws i))) ?_ | refine call_ko (H0 := H) koW (alen_ok _ loW (by first | exact h | exact h.same koW)) ?_); intro H2 k2 l2 n2 g2 q2; try simp (disch := omega) only [sm, sl] at l2 n2 g2 q2) | simp (config := { maxSteps := 1000000 }) (disch := omega) only [↓sh, ↓sh2, ↓reduceIte, sx, sl, sb, st, nbeq_ne, dle, relo_eq, wrap_i64, Nat.reduceBEq, Nat.reduceLT, Nat.reduceLeDiff, Nat.reduceAdd, Nat.reduceMul, Nat.reduceEqDiff, Int.reduceEq, Int.reduceLT, Int.reduceLE, Int.reduceNeg, Int.reduceToNat, Bool.false_eq_true, eq_self, sa, hdV, *])
      all_goals (with_reducible show _ ∧ _)
      all_goals first
        | (have e : headE ws i = 2 := by unfold headE; rw [if_pos hp, if_pos hd, if_pos (by omega)]
           have e2 : headAt ws i = zeroHd := by unfold headAt; rw [if_neg (by omega)]
           exact ⟨by rw [e, e2]; rfl, by exact sameW⟩)
        | (have e : headE ws i = 0 := by unfold headE; rw [if_pos hp, if_pos hd, if_neg (by omega)]
           have e2 : headAt ws i = decHd (wAt ws i) := by unfold headAt; rw [if_pos e]
           exact ⟨by rw [e, e2], by exact sameW⟩)
  · have hp2 : placeE ws.length i = 2 := by unfold placeE at hp ⊢; split at hp <;> simp_all
    have e : headE ws i = 2 := by unfold headE; rw [if_neg hp]
    have e2 : headAt ws i = zeroHd := by unfold headAt; rw [if_neg (by omega)]
    repeat' (first | refine boolP_dec (fun _ => ?_) (fun _ => ?_) | apply boolP_not | refine boolP_b (fun _ => ?_) (fun _ => ?_) | ((with_reducible show CallA _ _ _ _ _); refine call_ko (H0 := H) koW (aread_ok _ loW (by first | exact h | exact h.same koW) i) ?_; intro H2 k2 l2 n2 g2 q2; try simp (disch := omega) only [sm, sl] at l2 n2 g2 q2) | simp (config := { maxSteps := 1000000 }) (disch := omega) only [↓sh, ↓sh2, ↓reduceIte, sx, sl, sb, st, nbeq_ne, dle, relo_eq, wrap_i64, Nat.reduceBEq, Nat.reduceLT, Nat.reduceLeDiff, Nat.reduceAdd, Nat.reduceMul, Nat.reduceEqDiff, Int.reduceEq, Int.reduceLT, Int.reduceLE, Int.reduceNeg, Int.reduceToNat, Bool.false_eq_true, eq_self, sa, hdV, zeroHd, *])
    exact sameW
end Go.AM
