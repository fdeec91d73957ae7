/-
  Calls within a closed run (triforium/triforiumlaw38.awake), run: printed by a program of mine (Cutter).
-/
import Derived.KernelRfl
import Derived.Test.YtjggpambckfilaaGreatBw38St
namespace Go.Proofs.YtjggpambckfilaaGreat.Bw38
open Go Go.AM
theorem t8 : knownRun (E.with (orcK [k2, k4, k7])) 1000000 k8 r8 s8 = some (k8.v, k8.H) := by kernel_rfl
end Go.Proofs.YtjggpambckfilaaGreat.Bw38
