/-
  Walks over letters of the functions that the law reaches.
-/
import Derived.Test.YtbpneihjlledpaaGreatDoorX15
set_option linter.unusedVariables false
set_option linter.unusedSectionVars false
namespace Go.AM
variable [Orc13]
attribute [local instance] fnMaps
open Go Go.Proofs
set_option maxRecDepth 100000
set_option maxHeartbeats 4000000
set_option linter.unusedSimpArgs false
def StrS (H : Heap) (v : Value) (l : List (List UInt8)) : Prop := ∃ r g t, v = .slice (some ⟨r, 0, none⟩) l.length l.length ∧ r < H.next ∧ H.objs.get r = some (.row (l.map sV) g t)
theorem StrS.same {H H' : Heap} {v : Value} {l : List (List UInt8)} (h : StrS H v l) (s : Same H H') : StrS H' v l := by
  obtain ⟨r, g, t, h1, h2, h3⟩ := h
  exact ⟨r, g, t, h1, Nat.lt_of_lt_of_le h2 s.nxt, s.keeps h2 h3⟩
theorem splitC_no (c : UInt8) : ∀ (p : List UInt8), c ∉ p → splitC c p = [p]
  | [], _ => rfl
  | x :: p, h => by
    have hx : (x == c) = false := by
      rw [beq_eq_false_iff_ne]; intro e; exact h (by rw [e]; exact List.mem_cons_self ..)
    unfold splitC
    rw [hx, cond_false, splitC_no c p (fun hh => h (List.mem_cons_of_mem _ hh))]
theorem splitC_at (c : UInt8) (q : List UInt8) : ∀ (p : List UInt8), c ∉ p → splitC c (p ++ c :: q) = p :: splitC c q
  | [], _ => by
    show (bif c == c then [] :: splitC c q else _) = _
    rw [beq_self_eq_true, cond_true]
  | x :: p, h => by
    have hx : (x == c) = false := by
      rw [beq_eq_false_iff_ne]; intro e; exact h (by rw [e]; exact List.mem_cons_self ..)
    show splitC c (x :: (p ++ c :: q)) = _
    rw [splitC, hx, cond_false, splitC_at c q p (fun hh => h (List.mem_cons_of_mem _ hh))]
theorem splitC_pos (c : UInt8) (l : List UInt8) : 0 < (splitC c l).length := by
  cases l with
  | nil => exact Nat.one_pos
  | cons x l =>
    unfold splitC
    cases x == c
    · rw [cond_false]; cases splitC c l <;> exact Nat.succ_pos _
    · exact Nat.succ_pos _
end Go.AM
