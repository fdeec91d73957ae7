/-
  Calls within a closed run (triforium/triforiumlaw43.awake), run: printed by a program of mine (Cutter).
-/
import Derived.KernelRfl
import Derived.Test.YtoemfmnjebbljaaGreatBw43St
namespace Go.Proofs.YtoemfmnjebbljaaGreat.Bw43
open Go Go.AM
theorem t5 : knownRun (E.with (orcK [k4])) 1000000 k5 r5 s5 = some (k5.v, k5.H) := by kernel_rfl
end Go.Proofs.YtoemfmnjebbljaaGreat.Bw43
