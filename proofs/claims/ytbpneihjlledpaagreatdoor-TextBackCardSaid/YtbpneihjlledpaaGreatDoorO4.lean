/-
  Walks over letters of the functions that the law reaches.
-/
import Derived.Test.YtbpneihjlledpaaGreatDoorO3
set_option linter.unusedVariables false
set_option linter.unusedSectionVars false
namespace Go.AM
variable [Orc13]
attribute [local instance] fnMaps
open Go Go.Proofs
set_option maxRecDepth 100000
set_option maxHeartbeats 4000000
set_option linter.unusedSimpArgs false
theorem usesC_kfr (d : Int) : usesC d 102 = usesC d 107 ∧ usesC d 114 = usesC d 107 := by
  rcases in10 d with rfl | rfl | rfl | rfl | rfl | rfl | rfl | rfl | rfl | rfl | h
  · exact ⟨rfl, rfl⟩
  · exact ⟨rfl, rfl⟩
  · exact ⟨rfl, rfl⟩
  · exact ⟨rfl, rfl⟩
  · exact ⟨rfl, rfl⟩
  · exact ⟨rfl, rfl⟩
  · exact ⟨rfl, rfl⟩
  · exact ⟨rfl, rfl⟩
  · exact ⟨rfl, rfl⟩
  · exact ⟨rfl, rfl⟩
  · have hc : ∀ c, usesC d c = false := fun c => by unfold usesC; rw [(out_name h).2.1]; rfl
    exact ⟨by rw [hc, hc], by rw [hc, hc]⟩
def P (d c x : Int) : Int := if usesC d c then x else 0
def plainR (d h g i vk vx w k f r p : Int) : List Value := [.int .i64 d, .int .i64 (P d 104 h), .int .i64 (P d 103 g), .int .i64 (P d 105 i), .int .i64 (P d 118 vk), .int .i64 (P d 118 vx), .int .u64 (P d 119 w), .int .i64 (P d 107 k), .int .i64 (P d 107 f), .int .i64 (P d 107 r), .int .u8 (P d 112 p)]
theorem outR_plainR (d h g i vk vx w k f r p : Int) : outR d h g i vk vx w k f r p (usesB d).data.toList = plainR d h g i vk vx w k f r p := by
  obtain ⟨h1, h2⟩ := usesC_kfr d
  have hq : ∀ c x, Q (usesB d).data.toList c x = P d c x := fun c x => rfl
  have hf : ∀ x, P d 102 x = P d 107 x := fun x => by unfold P; rw [h1]
  have hr : ∀ x, P d 114 x = P d 107 x := fun x => by unfold P; rw [h2]
  simp only [outR, plainR, hq, hf, hr]
