/-
  Walks over letters of the functions that the law reaches.
-/
import Derived.Test.YtbpneihjlledpaaGreatDoorX3
set_option linter.unusedSimpArgs false
set_option linter.unusedVariables false
set_option linter.unusedSectionVars false
namespace Go.AM
variable [Orc13]
open Go Go.Proofs
def dig (c : UInt8) : Bool := decide (48 ≤ c.toNat) && decide (c.toNat ≤ 57)
theorem dig_iff {c : UInt8} : dig c = true ↔ 48 ≤ c.toNat ∧ c.toNat ≤ 57 := by simp [dig]
def valG : Nat → List UInt8 → Nat
  | a, [] => a
  | a, c :: l => valG (10 * a + (c.toNat - 48)) l
theorem valG_app : ∀ (a : Nat) (l m : List UInt8), valG a (l ++ m) = valG (valG a l) m
  | _, [], _ => rfl
  | a, c :: l, m => valG_app (10 * a + (c.toNat - 48)) l m
theorem valG_snoc (a : Nat) (l : List UInt8) (c : UInt8) : valG a (l ++ [c]) = 10 * valG a l + (c.toNat - 48) := by rw [valG_app]; rfl
theorem valG_le : ∀ (l : List UInt8) (a k : Nat), l.all dig = true → a < 10 ^ k → valG a l < 10 ^ (k + l.length)
  | [], a, k, _, h => h
  | c :: l, a, k, hd, h => by
    rw [List.all_cons, Bool.and_eq_true] at hd
    have := dig_iff.1 hd.1
    have h2 := valG_le l (10 * a + (c.toNat - 48)) (k + 1) hd.2 (by rw [Nat.pow_succ]; omega)
    rw [show k + (c :: l).length = k + 1 + l.length by rw [List.length_cons]; omega]
    exact h2
theorem valG_mono : ∀ (l : List UInt8) (a : Nat), a ≤ valG a l
  | [], a => Nat.le_refl _
  | c :: l, a => Nat.le_trans (by omega) (valG_mono l (10 * a + (c.toNat - 48)))
theorem u8_add (n : Nat) (h : n < 10) : (UInt8.ofNat (48 + n)).toNat = 48 + n := by
  have : ∀ k : _root_.Fin 10, (UInt8.ofNat (48 + k.1)).toNat = 48 + k.1 := by decide
  exact this ⟨n, h⟩
theorem u8_back {c : UInt8} (h : dig c = true) : UInt8.ofNat (48 + (c.toNat - 48)) = c := by
  have := dig_iff.1 h
  apply UInt8.toNat_inj.1
  rw [u8_add _ (by omega)]; omega
theorem dec_digs : ∀ (n u : Nat), u ≤ n → (Lib.decDigits u).all dig = true ∧ valG 0 (Lib.decDigits u) = u ∧ Lib.decDigits u ≠ [] := by
  intro n
  induction n with
  | zero =>
    intro u hu
    have : u = 0 := by omega
    subst this
    rw [dec_small (by omega)]
    exact ⟨by decide, by decide, by simp⟩
  | succ n ih =>
    intro u hu
    by_cases h : u < 10
    · rw [dec_small h]
      have e := u8_add u h
      refine ⟨?_, ?_, by simp⟩
      · rw [List.all_cons, List.all_nil, Bool.and_true, dig_iff, e]; omega
      · show 10 * 0 + ((UInt8.ofNat (48 + u)).toNat - 48) = u
        rw [e]; omega
    · obtain ⟨h1, h2, h3⟩ := ih (u / 10) (by omega)
      rw [dec_big h]
      have e := u8_add (u % 10) (by omega)
      refine ⟨?_, ?_, by simp⟩
      · rw [List.all_append, h1, Bool.true_and, List.all_cons, List.all_nil, Bool.and_true, dig_iff, e]; omega
      · rw [valG_snoc, h2, e]; omega
def lead (d : List UInt8) : Prop := d.head? = some 48 → d = [48]
theorem dec_lead (u : Nat) : lead (Lib.decDigits u) := by
  have key : ∀ n u : Nat, u ≤ n → 0 < u → (Lib.decDigits u).head? ≠ some 48 := by
    intro n
    induction n with
    | zero => intro u h h'; omega
    | succ n ih =>
      intro u h h'
      by_cases hu : u < 10
      · rw [dec_small hu]
        intro e
        simp only [List.head?_cons, Option.some.injEq] at e
        have := congrArg UInt8.toNat e
        rw [u8_add u hu] at this
        have h48 : (48 : UInt8).toNat = 48 := rfl
        omega
      · rw [dec_big hu]
        have h3 := (dec_digs _ (u / 10) (Nat.le_refl _)).2.2
        have := ih (u / 10) (by omega) (by omega)
        cases hd : Lib.decDigits (u / 10) with
        | nil => exact absurd hd h3
        | cons x l => rw [hd] at this; simpa using this
  intro h
  by_cases hu : u = 0
  · subst hu; rw [dec_small (by omega)]; rfl
  · exact absurd h (key u u (Nat.le_refl _) (by omega))
theorem dec_back : ∀ (n : Nat) (d : List UInt8), d.length ≤ n → d ≠ [] → d.all dig = true → lead d → Lib.decDigits (valG 0 d) = d := by
  intro n
  induction n with
  | zero => intro d h h'; exact absurd (List.eq_nil_of_length_eq_zero (by omega)) h'
  | succ n ih =>
    intro d hn hne hd hl
    obtain ⟨d', c, rfl⟩ : ∃ d' c, d = d' ++ [c] := ⟨d.dropLast, d.getLast hne, (List.dropLast_concat_getLast hne).symm⟩
    rw [List.all_append, Bool.and_eq_true, List.all_cons, List.all_nil, Bool.and_true] at hd
    have hc := dig_iff.1 hd.2
    rw [valG_snoc]
    cases d' with
    | nil =>
      rw [show valG 0 [] = 0 from rfl, dec_small (by omega)]
      have := u8_back hd.2
      simpa using this
    | cons x l =>
      have hl' : lead (x :: l) := fun e => by
        have := hl (by simpa using e)
        have h2 := congrArg List.length this
        simp at h2
      have hx : x ≠ 48 := fun e => by
        have := hl (by simp [e])
        have h2 := congrArg List.length this
        simp at h2
      have hxd := hd.1
      rw [List.all_cons, Bool.and_eq_true] at hxd
      have hx1 := dig_iff.1 hxd.1
      have hx2 : x.toNat ≠ 48 := fun e => hx (UInt8.toNat_inj.1 e)
      have hpos : 1 ≤ valG 0 (x :: l) := Nat.le_trans (by omega) (valG_mono l (10 * 0 + (x.toNat - 48)))
      have hb := ih (x :: l) (by simp at hn ⊢; omega) (by simp) hd.1 hl'
      rw [dec_big (by omega), show (10 * valG 0 (x :: l) + (c.toNat - 48)) / 10 = valG 0 (x :: l) by omega, show (10 * valG 0 (x :: l) + (c.toNat - 48)) % 10 = c.toNat - 48 by omega, hb, u8_back hd.2]
theorem parse_ok : ∀ (l : List UInt8) (a : Nat), l.all dig = true → valG a l < 18446744073709551616 → Lib.parseUint10 a l = .ok (valG a l)
  | [], _, _, _ => rfl
  | c :: l, a, hd, h => by
    rw [List.all_cons, Bool.and_eq_true] at hd
    have hc := dig_iff.1 hd.1
    have hm := valG_mono l (10 * a + (c.toNat - 48))
    have h' : valG (10 * a + (c.toNat - 48)) l < 18446744073709551616 := h
    unfold Lib.parseUint10
    rw [if_pos hc, if_neg (by omega), if_neg (by omega), Nat.mul_comm a 10]
    exact parse_ok l _ hd.2 h'
theorem dec_len {u : Nat} (h : u < 10 ^ 19) : (Lib.decDigits u).length ≤ 19 := by
  have key : ∀ k u : Nat, 0 < k → u < 10 ^ k → (Lib.decDigits u).length ≤ k := by
    intro k
    induction k with
    | zero => intro u h; omega
    | succ k ih =>
      intro u _ h
      by_cases hu : u < 10
      · rw [dec_small hu]; simp
      · rw [dec_big hu, List.length_append]
        rw [Nat.pow_succ] at h
        have := ih (u / 10) (by apply Nat.pos_of_ne_zero; intro e; subst e; omega) (by omega)
        simp; omega
  exact key 19 u (by omega) h
theorem atoi_itoa {v : Int} (h0 : -9223372036854775808 ≤ v) (h1 : v ≤ 9223372036854775807) : Lib.atoiAll (Lib.itoa v) = .ok v := by
  by_cases hv : v < 0
  · obtain ⟨d1, d2, d3⟩ := dec_digs _ v.natAbs (Nat.le_refl _)
    have e : Lib.itoa v = 45 :: Lib.decDigits v.natAbs := by unfold Lib.itoa; rw [if_pos hv]
    rw [e]
    unfold Lib.atoiAll
    have h45 : (45 : UInt8).toNat = 45 := rfl
    have hp : Lib.parseMag (Lib.decDigits v.natAbs) = .ok v.natAbs := by
      unfold Lib.parseMag
      rw [if_neg d3, parse_ok _ _ d1 (by rw [d2]; omega), d2]
    simp only [h45, or_true, if_true, hp]
    have hle : ¬ 9223372036854775808 < v.natAbs := by omega
    simp only [not_true_eq_false, false_and, true_and, if_false, if_true, hle]
    congr 1
    omega
  · obtain ⟨d1, d2, d3⟩ := dec_digs _ v.toNat (Nat.le_refl _)
    have e : Lib.itoa v = Lib.decDigits v.toNat := by unfold Lib.itoa; rw [if_neg hv]
    rw [e]
    have hp : Lib.parseMag (Lib.decDigits v.toNat) = .ok v.toNat := by
      unfold Lib.parseMag
      rw [if_neg d3, parse_ok _ _ d1 (by rw [d2]; omega), d2]
    cases hd : Lib.decDigits v.toNat with
    | nil => exact absurd hd d3
    | cons c r =>
      rw [hd] at d1 hp
      rw [List.all_cons, Bool.and_eq_true] at d1
      have hc := dig_iff.1 d1.1
      unfold Lib.atoiAll
      have n1 : ¬ c.toNat = 45 := by omega
      have n2 : ¬ c.toNat = 43 := by omega
      have hle : ¬ 9223372036854775808 ≤ v.toNat := by omega
      simp only [n1, n2, or_self, if_false, hp, not_false_eq_true, true_and, false_and, hle]
      have hvv : ((v.toNat : Nat) : Int) = v := by omega
      simp [hvv]
def nrest (l : List UInt8) : List UInt8 := if l.head? = some 45 then l.drop 1 else l
def nbad (l : List UInt8) : Prop := nrest l = [] ∨ 19 < (nrest l).length ∨ (nrest l).head? = some 48 ∧ l ≠ [48]
instance (l : List UInt8) : Decidable (nbad l) := by unfold nbad; infer_instance
def numR (l : List UInt8) : Int × Bool :=
  if nbad l ∨ (nrest l).all dig = false then (0, false)
  else if l.head? = some 45 ∧ valG 0 (nrest l) ≤ 9223372036854775808 then (-(valG 0 (nrest l) : Int), true)
  else (IntKind.i64.wrap (valG 0 (nrest l)), decide (l.head? ≠ some 45) && decide (valG 0 (nrest l) ≤ 9223372036854775807))
theorem numP_iff (l : List UInt8) : numP l = true ↔ ∃ v : Int, -9223372036854775808 ≤ v ∧ v ≤ 9223372036854775807 ∧ l = Lib.itoa v ∧ atoiN l = v := by
  constructor
  · intro h
    simp only [numP, Bool.and_eq_true, decide_eq_true_eq] at h
    have := atoiN_in l
    exact ⟨atoiN l, this.1, this.2, h.2.symm, rfl⟩
  · rintro ⟨v, h0, h1, rfl, h2⟩
    have := atoi_itoa h0 h1
    simp [numP, atoiO, atoiN, this]
theorem itoaV {v : Int} (h0 : -9223372036854775808 ≤ v) (h1 : v ≤ 9223372036854775807) : numP (Lib.itoa v) = true ∧ atoiN (Lib.itoa v) = v := by
  have := atoi_itoa h0 h1
  simp [numP, atoiO, atoiN, this]
theorem numR_itoa {v : Int} (h0 : -9223372036854775808 ≤ v) (h1 : v ≤ 9223372036854775807) : numR (Lib.itoa v) = (v, true) := by
  by_cases hv : v < 0
  · obtain ⟨d1, d2, d3⟩ := dec_digs _ v.natAbs (Nat.le_refl _)
    have dl := dec_len (u := v.natAbs) (by omega)
    have dh := dec_lead v.natAbs
    have e : Lib.itoa v = 45 :: Lib.decDigits v.natAbs := by unfold Lib.itoa; rw [if_pos hv]
    have er : nrest (Lib.itoa v) = Lib.decDigits v.natAbs := by rw [e]; rfl
    have hn : ¬ nbad (Lib.itoa v) := by
      unfold nbad
      rw [er]
      rintro (h | h | ⟨h, _⟩)
      · exact d3 h
      · omega
      · have h2 := dh h
        have : v.natAbs = 0 := by rw [← d2, h2]; rfl
        omega
    unfold numR
    rw [er, d1, d2, if_neg (by intro h; rcases h with h | h; exact hn h; cases h), if_pos ⟨by rw [e]; rfl, by omega⟩]
    congr 1
    omega
  · obtain ⟨d1, d2, d3⟩ := dec_digs _ v.toNat (Nat.le_refl _)
    have dl := dec_len (u := v.toNat) (by omega)
    have dh := dec_lead v.toNat
    have e : Lib.itoa v = Lib.decDigits v.toNat := by unfold Lib.itoa; rw [if_neg hv]
    have hh : (Lib.decDigits v.toNat).head? ≠ some 45 := by
      cases hd : Lib.decDigits v.toNat with
      | nil => exact absurd hd d3
      | cons c r =>
        rw [hd, List.all_cons, Bool.and_eq_true] at d1
        have hc := dig_iff.1 d1.1
        intro h
        simp only [List.head?_cons, Option.some.injEq] at h
        subst h
        have h45 : (45 : UInt8).toNat = 45 := rfl
        omega
    have er : nrest (Lib.itoa v) = Lib.decDigits v.toNat := by unfold nrest; rw [e, if_neg hh]
    have hn : ¬ nbad (Lib.itoa v) := by
      unfold nbad
      rw [er]
      rintro (h | h | ⟨h, h2⟩)
      · exact d3 h
      · omega
      · exact h2 (by rw [e]; exact dh h)
    unfold numR
    rw [er, d1, d2, if_neg (by intro h; rcases h with h | h; exact hn h; cases h), if_neg (by rw [e]; intro h; exact hh h.1), e, decide_eq_true hh, decide_eq_true (show v.toNat ≤ 9223372036854775807 by omega), wrap_i64 (by omega) (by omega)]
    congr 1
    omega
theorem numR_ok {l : List UInt8} (h : (numR l).2 = true) : ∃ v : Int, -9223372036854775808 ≤ v ∧ v ≤ 9223372036854775807 ∧ l = Lib.itoa v := by
  unfold numR at h
  split at h
  · cases h
  · rename_i hn
    have hnb : ¬ nbad l := fun h => hn (.inl h)
    have hd : (nrest l).all dig = true := by
      cases hc : (nrest l).all dig with
      | true => rfl
      | false => exact absurd (.inr hc) hn
    unfold nbad at hnb
    have hne : nrest l ≠ [] := fun h => hnb (.inl h)
    by_cases hneg : l.head? = some 45
    · obtain ⟨r, rfl⟩ : ∃ r, l = 45 :: r := by
        cases l with
        | nil => cases hneg
        | cons x r => simp only [List.head?_cons, Option.some.injEq] at hneg; exact ⟨r, by rw [hneg]⟩
      have er : nrest (45 :: r) = r := rfl
      rw [er] at hd hne hnb h
      have hlead : lead r := fun e => absurd (.inr (.inr ⟨e, by simp⟩)) hnb
      have hb := dec_back _ r (Nat.le_refl _) hne hd hlead
      split at h
      · rename_i hv
        have h0 : valG 0 r ≠ 0 := fun e => by
          rw [e, dec_small (by omega)] at hb
          exact hnb (.inr (.inr ⟨by rw [← hb]; rfl, by simp⟩))
        refine ⟨-(valG 0 r : Int), by omega, by omega, ?_⟩
        unfold Lib.itoa
        rw [if_pos (by omega), show (-(valG 0 r : Int)).natAbs = valG 0 r by omega, hb]
      · simp at h
    · have er : nrest l = l := by unfold nrest; rw [if_neg hneg]
      rw [er] at hd hne hnb h
      rw [if_neg (fun h => hneg h.1)] at h
      simp only [Bool.and_eq_true, decide_eq_true_eq] at h
      have hlead : lead l := fun e => Classical.byContradiction fun e2 => hnb (.inr (.inr ⟨e, e2⟩))
      have hb := dec_back _ l (Nat.le_refl _) hne hd hlead
      refine ⟨(valG 0 l : Int), by omega, by omega, ?_⟩
      unfold Lib.itoa
      rw [if_neg (by omega), Int.toNat_natCast, hb]
theorem numR_eq (l : List UInt8) : (numR l).2 = numP l ∧ (numP l = true → (numR l).1 = atoiN l) := by
  have h1 : numP l = true → numR l = (atoiN l, true) := fun h => by
    obtain ⟨v, h0, h1, rfl, h2⟩ := (numP_iff l).1 h
    rw [numR_itoa h0 h1, h2]
  constructor
  · cases hp : numP l with
    | true => rw [h1 hp]
    | false =>
      cases hr : (numR l).2 with
      | false => rfl
      | true =>
        obtain ⟨v, h0, h3, rfl⟩ := numR_ok hr
        rw [(itoaV h0 h3).1] at hp; cases hp
  · intro h; rw [h1 h]
end Go.AM
