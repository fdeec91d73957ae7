/-
  Walks over letters of the functions that the law reaches.
-/
import Derived.Test.YtbpneihjlledpaaGreatDoorX17
set_option linter.unusedVariables false
set_option linter.unusedSectionVars false
namespace Go.AM
variable [Orc13]
attribute [local instance] fnMaps
open Go Go.Proofs
set_option maxRecDepth 100000
set_option maxHeartbeats 4000000
set_option linter.unusedSimpArgs false
theorem splitC_len (c : UInt8) : ∀ l : List UInt8, (splitC c l).length ≤ l.length + 1
  | [] => Nat.le_refl _
  | x :: l => by
    have ih := splitC_len c l
    unfold splitC
    cases x == c with
    | true => rw [cond_true]; exact Nat.succ_le_succ ih
    | false =>
      rw [cond_false]
      cases hs : splitC c l with
      | nil => exact Nat.succ_le_succ (Nat.zero_le _)
      | cons a r => rw [hs] at ih; exact Nat.le_succ_of_le ih
end Go.AM
