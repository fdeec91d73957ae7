/-
  Calls within a closed run (triforium/triforiumlaw38.awake), run: printed by a program of mine (Cutter).
-/
import Derived.KernelRfl
import Derived.Test.YtjggpambckfilaaGreatBw38St
namespace Go.Proofs.YtjggpambckfilaaGreat.Bw38
open Go Go.AM
theorem t12 : knownRun (E.with (orcK [k11])) 1000000 k12 r12 s12 = some (k12.v, k12.H) := by kernel_rfl
end Go.Proofs.YtjggpambckfilaaGreat.Bw38
