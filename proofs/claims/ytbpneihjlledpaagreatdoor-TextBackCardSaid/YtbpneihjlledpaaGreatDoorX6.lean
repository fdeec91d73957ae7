/-
  Walks over letters of the functions that the law reaches.
-/
import Derived.Test.YtbpneihjlledpaaGreatDoorX5
set_option linter.unusedVariables false
set_option linter.unusedSectionVars false
namespace Go.AM
variable [Orc13]
attribute [local instance] fnMaps
open Go Go.Proofs
set_option maxRecDepth 100000
set_option maxHeartbeats 4000000
set_option linter.unusedSimpArgs false
def hv (c : UInt8) : Nat := if 48 ≤ c.toNat ∧ c.toNat ≤ 57 then c.toNat - 48 else if 97 ≤ c.toNat ∧ c.toNat ≤ 102 then c.toNat - 87 else 16
def hok (c : UInt8) : Bool := decide (hv c < 16)
def hexG : Nat → List UInt8 → Nat
  | a, [] => a
  | a, c :: l => hexG (16 * a + hv c) l
theorem hexG_app : ∀ (a : Nat) (l m : List UInt8), hexG a (l ++ m) = hexG (hexG a l) m
  | _, [], _ => rfl
  | a, c :: l, m => hexG_app (16 * a + hv c) l m
theorem hexG_snoc (a : Nat) (l : List UInt8) (c : UInt8) : hexG a (l ++ [c]) = 16 * hexG a l + hv c := by rw [hexG_app]; rfl
theorem hexG_lt : ∀ (l : List UInt8) (a k : Nat), l.all hok = true → a < 16 ^ k → hexG a l < 16 ^ (k + l.length)
  | [], a, k, _, h => h
  | c :: l, a, k, hd, h => by
    rw [List.all_cons, Bool.and_eq_true] at hd
    have h0 := of_decide_eq_true hd.1
    have h2 := hexG_lt l (16 * a + hv c) (k + 1) hd.2 (by rw [Nat.pow_succ]; omega)
    rw [show k + (c :: l).length = k + 1 + l.length by rw [List.length_cons]; omega]
    exact h2
def readW (l : List UInt8) : Nat × Int := if l.length = 16 ∧ l.all hok = true then (hexG 0 l, 0) else (0, 4)
theorem readW_lt (l : List UInt8) : (readW l).1 < 2 ^ 64 := by
  unfold readW
  split
  · rename_i h
    have := hexG_lt l 0 0 h.2 (by decide)
    rw [h.1, Nat.zero_add] at this
    exact this
  · decide
theorem hv_D : ∀ k : _root_.Fin 16, hv (hexD k.1) = k.1 := by decide
theorem hexD_iff {k : Nat} (h : k < 16) (c : UInt8) : hexD k = c ↔ hv c = k := by
  constructor
  · intro e; rw [← e]; exact hv_D ⟨k, h⟩
  · intro e
    unfold hv at e
    apply UInt8.toNat_inj.1
    unfold hexD
    split at e
    · rw [if_pos (by omega), u8_add k (by omega)]; omega
    · split at e
      · rw [if_neg (by omega)]
        have : ∀ k : _root_.Fin 16, (UInt8.ofNat (87 + k.1)).toNat = 87 + k.1 := by decide
        rw [this ⟨k, h⟩]
        show 87 + k = _
        omega
      · omega
end Go.AM
