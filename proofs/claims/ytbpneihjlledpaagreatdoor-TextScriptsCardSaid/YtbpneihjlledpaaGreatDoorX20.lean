/-
  Walks over letters of the functions that the law reaches.
-/
import Derived.Test.YtbpneihjlledpaaGreatDoorX19
set_option linter.unusedVariables false
set_option linter.unusedSectionVars false
namespace Go.AM
variable [Orc13]
attribute [local instance] fnMaps
open Go Go.Proofs
set_option maxRecDepth 100000
set_option maxHeartbeats 4000000
set_option linter.unusedSimpArgs false
theorem dec_ne63 (u : Nat) : Lib.decDigits u ≠ [63] := by
  intro h
  have e : ∃ p m, m < 10 ∧ Lib.decDigits u = p ++ [UInt8.ofNat (48 + m)] := by
    by_cases hu : u < 10
    · exact ⟨[], u, hu, dec_small hu⟩
    · exact ⟨_, u % 10, Nat.mod_lt _ (by decide), dec_big hu⟩
  obtain ⟨p, m, hm, e⟩ := e
  rw [h] at e
  have h1 := congrArg List.getLast? e
  rw [List.getLast?_append] at h1
  simp only [List.getLast?_singleton, Option.some_or, Option.some.injEq] at h1
  have h2 := congrArg UInt8.toNat h1
  rw [show (UInt8.ofNat (48 + m)).toNat = 48 + m from Nat.mod_eq_of_lt (by omega)] at h2
  have h3 : (63 : UInt8).toNat = 63 := rfl
  omega
theorem itoa_ne63 (x : Int) : Lib.itoa x ≠ [63] := by
  cases x with
  | ofNat u => show Lib.itoa (u : Int) ≠ _; rw [Lib.itoa_nonneg]; exact dec_ne63 u
  | negSucc u =>
    show Lib.itoa (-((u + 1 : Nat) : Int)) ≠ _
    rw [Lib.itoa_neg _ (by omega)]
    intro h
    injection h with h1 h2
    revert h1; decide
theorem textV_63 (k x : Int) : (textV k x = [63]) ↔ ¬ mayV k x := by
  unfold textV
  by_cases hm : mayV k x
  · rw [if_pos hm]
    refine ⟨fun h => ?_, fun h => absurd hm h⟩
    split at h
    · exact absurd h (by decide)
    split at h
    · exact absurd h (itoa_ne63 x)
    · injection h with h1 h2
      exact absurd h1 (by decide)
  · rw [if_neg hm]; exact ⟨fun _ => hm, fun _ => rfl⟩
theorem anyC_false : ∀ (l : List UInt8) (c : Int), anyC l c = false → ∀ x ∈ l, (x.toNat : Int) ≠ c
  | [], _, _, x, hx => by cases hx
  | y :: l, c, h, x, hx => by
    simp only [anyC] at h
    by_cases hy : (y.toNat : Int) = c
    · simp [hy] at h
    · have h2 : anyC l c = false := by simpa [hy] using h
      rcases List.mem_cons.1 hx with rfl | hx
      · exact hy
      · exact anyC_false l c h2 x hx
theorem anyC_true : ∀ (l : List UInt8) (c : Int), anyC l c = true → ∃ x ∈ l, (x.toNat : Int) = c
  | [], _, h => by cases h
  | y :: l, c, h => by
    simp only [anyC] at h
    by_cases hy : (y.toNat : Int) = c
    · exact ⟨y, List.mem_cons_self .., hy⟩
    · have h2 : anyC l c = true := by simpa [hy] using h
      obtain ⟨x, hx, e⟩ := anyC_true l c h2
      exact ⟨x, List.mem_cons_of_mem _ hx, e⟩
theorem field_ok (o : TOp) (c : Int) : (fieldT o c).2 = true ↔ (c = 118 → mayV o.vk o.vx) := by
  unfold fieldT
  split
  · rename_i h; subst h; exact ⟨fun _ h => absurd h (by decide), fun _ => rfl⟩
  split
  · rename_i h; subst h; exact ⟨fun _ h => absurd h (by decide), fun _ => rfl⟩
  split
  · rename_i h; subst h
    have := textV_63 o.vk o.vx
    simp only [Bool.not_eq_true', decide_eq_false_iff_not, forall_const, this]
    exact ⟨fun h => Classical.byContradiction h, fun h h2 => h2 h⟩
  · rename_i h
    exact ⟨fun _ hc => absurd hc h, fun _ => rfl⟩
theorem line_may (o : TOp) (hp : plainO o = o) : lineOk o (usesL o.d) = true ↔ mayV o.vk o.vx := by
  unfold lineOk
  rw [List.all_eq_true]
  cases hu : usesC o.d 118 with
  | true =>
    obtain ⟨x, hx, e⟩ := anyC_true _ _ hu
    refine ⟨fun h => (field_ok o _).1 (h x hx) e, fun h y hy => (field_ok o _).2 fun _ => h⟩
  | false =>
    have hno := anyC_false _ _ hu
    have hk : o.vk = 0 := by
      have := congrArg TOp.vk hp
      simp only [plainO, P, hu] at this
      exact this.symm
    have hx : o.vx = 0 := by
      have := congrArg TOp.vx hp
      simp only [plainO, P, hu] at this
      exact this.symm
    refine ⟨fun _ => .inl ⟨hk, hx⟩, fun _ y hy => (field_ok o _).2 fun h => absurd h (hno y hy)⟩
theorem line_eq (o : TOp) : lineR o = rlineR o := by
  unfold lineR rlineR
  by_cases h1 : nameL o.d = []
  · rw [if_pos (.inl h1), if_pos (.inl h1)]
  by_cases h2 : plainO o = o
  · rw [if_neg (fun h => h.elim h1 (fun h => h h2))]
    by_cases h3 : mayV o.vk o.vx
    · rw [if_pos ((line_may o h2).2 h3), if_neg (fun h => h.elim h1 (fun h => h.elim (fun h => h h2) (fun h => h h3)))]; rfl
    · rw [if_neg (fun h => h3 ((line_may o h2).1 h)), if_pos (.inr (.inr h3))]
  · rw [if_pos (.inr h2), if_pos (.inr (.inl h2))]
theorem orc_awake (H : Heap) : E.orc (fnv 6) [] H = some (.bool true, H) := by kernel_rfl
theorem awake_ok (H : Heap) : CallA E (fnv 6) [] H fun v H' => v = .bool true ∧ Same H H' := callA_told (orc_awake H) ⟨rfl, Same.refl H⟩
end Go.AM
