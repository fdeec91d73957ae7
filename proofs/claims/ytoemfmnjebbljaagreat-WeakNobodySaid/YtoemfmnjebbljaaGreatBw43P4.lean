/-
  Calls within a closed run (triforium/triforiumlaw43.awake), run: printed by a program of mine (Cutter).
-/
import Derived.KernelRfl
import Derived.Test.YtoemfmnjebbljaaGreatBw43St
namespace Go.Proofs.YtoemfmnjebbljaaGreat.Bw43
open Go Go.AM
theorem t4 : knownRun (E.with (orcK [k3])) 1000000 k4 r4 s4 = some (k4.v, k4.H) := by kernel_rfl
end Go.Proofs.YtoemfmnjebbljaaGreat.Bw43
