/-
  Calls within a closed run (triforium/triforiumlaw44.awake), run: printed by a program of mine (Cutter).
-/
import Derived.KernelRfl
import Derived.Test.YtoemfmnjebbljaaGreatBw44St
namespace Go.Proofs.YtoemfmnjebbljaaGreat.Bw44
open Go Go.AM
theorem t7 : knownRun (E.with (orcK [])) 1000000 k7 r7 s7 = some (k7.v, k7.H) := by kernel_rfl
end Go.Proofs.YtoemfmnjebbljaaGreat.Bw44
