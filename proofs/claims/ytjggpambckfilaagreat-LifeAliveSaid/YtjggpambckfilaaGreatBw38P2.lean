/-
  Calls within a closed run (triforium/triforiumlaw38.awake), run: printed by a program of mine (Cutter).
-/
import Derived.KernelRfl
import Derived.Test.YtjggpambckfilaaGreatBw38St
namespace Go.Proofs.YtjggpambckfilaaGreat.Bw38
open Go Go.AM
theorem t2 : knownRun (E.with (orcK [k1])) 1000000 k2 r2 s2 = some (k2.v, k2.H) := by kernel_rfl
end Go.Proofs.YtjggpambckfilaaGreat.Bw38
