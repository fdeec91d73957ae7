/-
  Calls within a closed run (triforium/triforiumlaw38.awake), run: printed by a program of mine (Cutter).
-/
import Derived.KernelRfl
import Derived.Test.YtjggpambckfilaaGreatBw38St
namespace Go.Proofs.YtjggpambckfilaaGreat.Bw38
open Go Go.AM
theorem t6 : knownRun (E.with (orcK [k5])) 1000000 k6 r6 s6 = some (k6.v, k6.H) := by kernel_rfl
end Go.Proofs.YtjggpambckfilaaGreat.Bw38
