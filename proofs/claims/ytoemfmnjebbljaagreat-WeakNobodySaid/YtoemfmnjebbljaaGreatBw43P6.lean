/-
  Calls within a closed run (triforium/triforiumlaw43.awake), run: printed by a program of mine (Cutter).
-/
import Derived.KernelRfl
import Derived.Test.YtoemfmnjebbljaaGreatBw43St
namespace Go.Proofs.YtoemfmnjebbljaaGreat.Bw43
open Go Go.AM
theorem t6 : knownRun (E.with (orcK [])) 1000000 k6 r6 s6 = some (k6.v, k6.H) := by kernel_rfl
end Go.Proofs.YtoemfmnjebbljaaGreat.Bw43
