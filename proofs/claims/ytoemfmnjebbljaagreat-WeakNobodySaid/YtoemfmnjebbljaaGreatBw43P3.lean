/-
  Calls within a closed run (triforium/triforiumlaw43.awake), run: printed by a program of mine (Cutter).
-/
import Derived.KernelRfl
import Derived.Test.YtoemfmnjebbljaaGreatBw43St
namespace Go.Proofs.YtoemfmnjebbljaaGreat.Bw43
open Go Go.AM
theorem t3 : knownRun (E.with (orcK [])) 1000000 k3 r3 s3 = some (k3.v, k3.H) := by kernel_rfl
end Go.Proofs.YtoemfmnjebbljaaGreat.Bw43
