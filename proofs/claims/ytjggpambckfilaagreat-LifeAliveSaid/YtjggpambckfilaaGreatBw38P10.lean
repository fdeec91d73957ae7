/-
  Calls within a closed run (triforium/triforiumlaw38.awake), run: printed by a program of mine (Cutter).
-/
import Derived.KernelRfl
import Derived.Test.YtjggpambckfilaaGreatBw38St
namespace Go.Proofs.YtjggpambckfilaaGreat.Bw38
open Go Go.AM
theorem t10 : knownRun (E.with (orcK [])) 1000000 k10 r10 s10 = some (k10.v, k10.H) := by kernel_rfl
end Go.Proofs.YtjggpambckfilaaGreat.Bw38
