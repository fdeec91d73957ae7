/-
  Walks over letters of the functions that the law reaches.
-/
import Derived.Test.YtbpneihjlledpaaGreatDoorX21
set_option linter.unusedVariables false
set_option linter.unusedSectionVars false
namespace Go.AM
variable [Orc13]
attribute [local instance] fnMaps
open Go Go.Proofs
set_option maxRecDepth 100000
set_option maxHeartbeats 4000000
set_option linter.unusedSimpArgs false
def scriptL : List TOp → List UInt8 × Int
  | [] => ([], 0)
  | o :: l => if (lineR o).2 ≠ 0 then ([], (lineR o).2) else if (scriptL l).2 ≠ 0 then ([], (scriptL l).2) else ((lineR o).1 ++ 10 :: (scriptL l).1, 0)
def wrote : List TOp → List UInt8
  | [] => []
  | o :: l => (lineR o).1 ++ 10 :: wrote l
theorem wrote_snoc : ∀ (l : List TOp) (o : TOp), wrote (l ++ [o]) = (wrote l ++ (lineR o).1) ++ [10]
  | [], o => by simp [wrote]
  | x :: l, o => by simp [wrote, wrote_snoc l o]
theorem script_all : ∀ (l : List TOp), (∀ o ∈ l, (lineR o).2 = 0) → scriptL l = (wrote l, 0)
  | [], _ => rfl
  | o :: l, h => by
    have h1 := h o (List.mem_cons_self ..)
    have h2 := script_all l fun x hx => h x (List.mem_cons_of_mem _ hx)
    unfold scriptL wrote
    rw [h2, if_neg (fun h => h h1), if_neg (fun h => h rfl)]
theorem script_bad : ∀ (l : List TOp) (o : TOp) (m : List TOp), (∀ x ∈ l, (lineR x).2 = 0) → (lineR o).2 ≠ 0 → scriptL (l ++ o :: m) = ([], (lineR o).2)
  | [], o, m, _, h => by
    show scriptL (o :: m) = _
    unfold scriptL
    rw [if_pos h]
  | x :: l, o, m, h, h2 => by
    have h1 := h x (List.mem_cons_self ..)
    have h3 := script_bad l o m (fun y hy => h y (List.mem_cons_of_mem _ hy)) h2
    show scriptL (x :: (l ++ o :: m)) = _
    unfold scriptL
    rw [h3, if_neg (fun h => h h1), if_pos h2]
theorem lineS_len (o : TOp) (ho : OpOk o) : (lineR o).1.length ≤ 110 := by
  unfold lineR
  have h1 := nameL_len o.d
  have h2 := usesL_len o.d
  have h3 := join_len o ho (nameL o.d) (usesL o.d)
  split
  · exact Nat.zero_le _
  split
  · dsimp only; omega
  · exact Nat.zero_le _
theorem wrote_len : ∀ (l : List TOp), (∀ o ∈ l, OpOk o) → (wrote l).length ≤ 111 * l.length
  | [], _ => Nat.le_refl _
  | o :: l, h => by
    have h1 := lineS_len o (h o (List.mem_cons_self ..))
    have h2 := wrote_len l fun x hx => h x (List.mem_cons_of_mem _ hx)
    simp only [wrote, List.length_append, List.length_cons]
    omega
theorem line_err (o : TOp) : (lineR o).2 = 0 ∨ (lineR o).2 = 1 := by
  unfold lineR
  split
  · exact .inr rfl
  split
  · exact .inl rfl
  · exact .inr rfl
end Go.AM
