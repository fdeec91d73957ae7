/-
  Calls within a closed run (triforium/triforiumlaw44.awake), run: printed by a program of mine (Cutter).
-/
import Derived.KernelRfl
import Derived.Test.YtoemfmnjebbljaaGreatBw44St
namespace Go.Proofs.YtoemfmnjebbljaaGreat.Bw44
open Go Go.AM
theorem t10 : knownRun (E.with (orcK [k8, k9])) 1000000 k10 r10 s10 = some (k10.v, k10.H) := by kernel_rfl
end Go.Proofs.YtoemfmnjebbljaaGreat.Bw44
