/-
  Calls within a closed run (triforium/triforiumlaw38.awake), run: printed by a program of mine (Cutter).
-/
import Derived.KernelRfl
import Derived.Test.YtjggpambckfilaaGreatBw38St
namespace Go.Proofs.YtjggpambckfilaaGreat.Bw38
open Go Go.AM
theorem t14 : knownRun (E.with (orcK [k13])) 1000000 k14 r14 s14 = some (k14.v, k14.H) := by kernel_rfl
end Go.Proofs.YtjggpambckfilaaGreat.Bw38
