/-
  Calls within a closed run (triforium/triforiumlaw38.awake), run: printed by a program of mine (Cutter).
-/
import Derived.KernelRfl
import Derived.Test.YtjggpambckfilaaGreatBw38St
namespace Go.Proofs.YtjggpambckfilaaGreat.Bw38
open Go Go.AM
theorem t7 : knownRun (E.with (orcK [k6])) 1000000 k7 r7 s7 = some (k7.v, k7.H) := by kernel_rfl
end Go.Proofs.YtjggpambckfilaaGreat.Bw38
