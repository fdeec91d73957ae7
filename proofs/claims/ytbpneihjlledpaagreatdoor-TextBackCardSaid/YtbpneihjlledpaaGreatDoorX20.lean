/-
  Walks over letters of the functions that the law reaches.
-/
import Derived.Test.YtbpneihjlledpaaGreatDoorX19
set_option linter.unusedVariables false
set_option linter.unusedSectionVars false
namespace Go.AM
variable [Orc13]
attribute [local instance] fnMaps
open Go Go.Proofs
set_option maxRecDepth 100000
set_option maxHeartbeats 4000000
set_option linter.unusedSimpArgs false
theorem orc_awake (H : Heap) : E.orc (fnv 6) [] H = some (.bool true, H) := by kernel_rfl
theorem awake_ok (H : Heap) : CallA E (fnv 6) [] H fun v H' => v = .bool true ∧ Same H H' := callA_told (orc_awake H) ⟨rfl, Same.refl H⟩
end Go.AM
