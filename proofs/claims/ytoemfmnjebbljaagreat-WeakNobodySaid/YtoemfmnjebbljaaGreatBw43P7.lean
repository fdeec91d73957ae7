/-
  Calls within a closed run (triforium/triforiumlaw43.awake), run: printed by a program of mine (Cutter).
-/
import Derived.KernelRfl
import Derived.Test.YtoemfmnjebbljaaGreatBw43St
namespace Go.Proofs.YtoemfmnjebbljaaGreat.Bw43
open Go Go.AM
theorem t7 : knownRun (E.with (orcK [k6])) 1000000 k7 r7 s7 = some (k7.v, k7.H) := by kernel_rfl
end Go.Proofs.YtoemfmnjebbljaaGreat.Bw43
