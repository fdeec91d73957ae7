/-
  Walks over letters of the functions that the law reaches.
-/
import Derived.Test.YtbpneihjlledpaaGreatDoorX24
set_option linter.unusedVariables false
set_option linter.unusedSectionVars false
namespace Go.AM
variable [Orc13]
attribute [local instance] fnMaps
open Go Go.Proofs
set_option maxRecDepth 100000
set_option maxHeartbeats 4000000
set_option linter.unusedSimpArgs false
theorem orc_script (args : List Value) (H : Heap) : E.orc (fnv 13) args H = Orc13.ans args H := by kernel_rfl
def ScriptAns : Prop := ∀ (H : Heap) (v : Value) (l : List TOp), OpsR H v l → l.length ≤ 100 → Orc13.ans [v] H = some (.tuple #[.string (B (scriptL l).1), .int .i64 (scriptL l).2], H)
theorem script_ok (hX : ScriptAns) (H : Heap) (v : Value) (l : List TOp) (hv : OpsR H v l) (hl : l.length ≤ 100) : CallA E (fnv 13) [v] H fun r H' => r = .tuple #[.string (B (scriptL l).1), .int .i64 (scriptL l).2] ∧ Same H H' :=
  callA_told ((orc_script _ _).trans (hX H v l hv hl)) ⟨rfl, Same.refl H⟩
theorem OpsR.sl {H : Heap} {v : Value} {l : List TOp} (h : OpsR H v l) : ∃ a c, v = .slice a l.length c ∧ l.length ≤ c := by
  obtain ⟨⟨a, c, h1, h2, _⟩, _⟩ := h
  exact ⟨a, c, h1, h2.1⟩
end Go.AM
