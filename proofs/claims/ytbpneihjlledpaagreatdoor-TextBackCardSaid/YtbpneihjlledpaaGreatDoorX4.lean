/-
  Walks over letters of the functions that the law reaches.
-/
import Derived.Test.YtbpneihjlledpaaGreatDoorX3
set_option linter.unusedSimpArgs false
set_option linter.unusedVariables false
set_option linter.unusedSectionVars false
namespace Go.AM
variable [Orc13]
open Go Go.Proofs
def dig (c : UInt8) : Bool := decide (48 ≤ c.toNat) && decide (c.toNat ≤ 57)
theorem dig_iff {c : UInt8} : dig c = true ↔ 48 ≤ c.toNat ∧ c.toNat ≤ 57 := by simp [dig]
def valG : Nat → List UInt8 → Nat
  | a, [] => a
  | a, c :: l => valG (10 * a + (c.toNat - 48)) l
theorem valG_app : ∀ (a : Nat) (l m : List UInt8), valG a (l ++ m) = valG (valG a l) m
  | _, [], _ => rfl
  | a, c :: l, m => valG_app (10 * a + (c.toNat - 48)) l m
theorem valG_snoc (a : Nat) (l : List UInt8) (c : UInt8) : valG a (l ++ [c]) = 10 * valG a l + (c.toNat - 48) := by rw [valG_app]; rfl
theorem valG_mono : ∀ (l : List UInt8) (a : Nat), a ≤ valG a l
  | [], a => Nat.le_refl _
  | c :: l, a => Nat.le_trans (by omega) (valG_mono l (10 * a + (c.toNat - 48)))
theorem u8_add (n : Nat) (h : n < 10) : (UInt8.ofNat (48 + n)).toNat = 48 + n := by
  have : ∀ k : _root_.Fin 10, (UInt8.ofNat (48 + k.1)).toNat = 48 + k.1 := by decide
  exact this ⟨n, h⟩
theorem dec_digs : ∀ (n u : Nat), u ≤ n → (Lib.decDigits u).all dig = true ∧ valG 0 (Lib.decDigits u) = u ∧ Lib.decDigits u ≠ [] := by
  intro n
  induction n with
  | zero =>
    intro u hu
    have : u = 0 := by omega
    subst this
    rw [dec_small (by omega)]
    exact ⟨by decide, by decide, by simp⟩
  | succ n ih =>
    intro u hu
    by_cases h : u < 10
    · rw [dec_small h]
      have e := u8_add u h
      refine ⟨?_, ?_, by simp⟩
      · rw [List.all_cons, List.all_nil, Bool.and_true, dig_iff, e]; omega
      · show 10 * 0 + ((UInt8.ofNat (48 + u)).toNat - 48) = u
        rw [e]; omega
    · obtain ⟨h1, h2, h3⟩ := ih (u / 10) (by omega)
      rw [dec_big h]
      have e := u8_add (u % 10) (by omega)
      refine ⟨?_, ?_, by simp⟩
      · rw [List.all_append, h1, Bool.true_and, List.all_cons, List.all_nil, Bool.and_true, dig_iff, e]; omega
      · rw [valG_snoc, h2, e]; omega
theorem parse_ok : ∀ (l : List UInt8) (a : Nat), l.all dig = true → valG a l < 18446744073709551616 → Lib.parseUint10 a l = .ok (valG a l)
  | [], _, _, _ => rfl
  | c :: l, a, hd, h => by
    rw [List.all_cons, Bool.and_eq_true] at hd
    have hc := dig_iff.1 hd.1
    have hm := valG_mono l (10 * a + (c.toNat - 48))
    have h' : valG (10 * a + (c.toNat - 48)) l < 18446744073709551616 := h
    unfold Lib.parseUint10
    rw [if_pos hc, if_neg (by omega), if_neg (by omega), Nat.mul_comm a 10]
    exact parse_ok l _ hd.2 h'
theorem atoi_itoa {v : Int} (h0 : -9223372036854775808 ≤ v) (h1 : v ≤ 9223372036854775807) : Lib.atoiAll (Lib.itoa v) = .ok v := by
  by_cases hv : v < 0
  · obtain ⟨d1, d2, d3⟩ := dec_digs _ v.natAbs (Nat.le_refl _)
    have e : Lib.itoa v = 45 :: Lib.decDigits v.natAbs := by unfold Lib.itoa; rw [if_pos hv]
    rw [e]
    unfold Lib.atoiAll
    have h45 : (45 : UInt8).toNat = 45 := rfl
    have hp : Lib.parseMag (Lib.decDigits v.natAbs) = .ok v.natAbs := by
      unfold Lib.parseMag
      rw [if_neg d3, parse_ok _ _ d1 (by rw [d2]; omega), d2]
    simp only [h45, or_true, if_true, hp]
    have hle : ¬ 9223372036854775808 < v.natAbs := by omega
    simp only [not_true_eq_false, false_and, true_and, if_false, if_true, hle]
    congr 1
    omega
  · obtain ⟨d1, d2, d3⟩ := dec_digs _ v.toNat (Nat.le_refl _)
    have e : Lib.itoa v = Lib.decDigits v.toNat := by unfold Lib.itoa; rw [if_neg hv]
    rw [e]
    have hp : Lib.parseMag (Lib.decDigits v.toNat) = .ok v.toNat := by
      unfold Lib.parseMag
      rw [if_neg d3, parse_ok _ _ d1 (by rw [d2]; omega), d2]
    cases hd : Lib.decDigits v.toNat with
    | nil => exact absurd hd d3
    | cons c r =>
      rw [hd] at d1 hp
      rw [List.all_cons, Bool.and_eq_true] at d1
      have hc := dig_iff.1 d1.1
      unfold Lib.atoiAll
      have n1 : ¬ c.toNat = 45 := by omega
      have n2 : ¬ c.toNat = 43 := by omega
      have hle : ¬ 9223372036854775808 ≤ v.toNat := by omega
      simp only [n1, n2, or_self, if_false, hp, not_false_eq_true, true_and, false_and, hle]
      have hvv : ((v.toNat : Nat) : Int) = v := by omega
      simp [hvv]
def nrest (l : List UInt8) : List UInt8 := if l.head? = some 45 then l.drop 1 else l
def nbad (l : List UInt8) : Prop := nrest l = [] ∨ 19 < (nrest l).length ∨ (nrest l).head? = some 48 ∧ l ≠ [48]
instance (l : List UInt8) : Decidable (nbad l) := by unfold nbad; infer_instance
theorem itoaV {v : Int} (h0 : -9223372036854775808 ≤ v) (h1 : v ≤ 9223372036854775807) : numP (Lib.itoa v) = true ∧ atoiN (Lib.itoa v) = v := by
  have := atoi_itoa h0 h1
  simp [numP, atoiO, atoiN, this]
end Go.AM
