/-
  Calls within a closed run (triforium/triforiumlaw38.awake), run: printed by a program of mine (Cutter).
-/
import Derived.KernelRfl
import Derived.Test.YtjggpambckfilaaGreatBw38St
namespace Go.Proofs.YtjggpambckfilaaGreat.Bw38
open Go Go.AM
theorem t5 : knownRun (E.with (orcK [])) 1000000 k5 r5 s5 = some (k5.v, k5.H) := by kernel_rfl
end Go.Proofs.YtjggpambckfilaaGreat.Bw38
