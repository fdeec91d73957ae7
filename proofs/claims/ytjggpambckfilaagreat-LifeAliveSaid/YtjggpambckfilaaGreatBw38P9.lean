/-
  Calls within a closed run (triforium/triforiumlaw38.awake), run: printed by a program of mine (Cutter).
-/
import Derived.KernelRfl
import Derived.Test.YtjggpambckfilaaGreatBw38St
namespace Go.Proofs.YtjggpambckfilaaGreat.Bw38
open Go Go.AM
theorem t9 : knownRun (E.with (orcK [])) 1000000 k9 r9 s9 = some (k9.v, k9.H) := by kernel_rfl
end Go.Proofs.YtjggpambckfilaaGreat.Bw38
