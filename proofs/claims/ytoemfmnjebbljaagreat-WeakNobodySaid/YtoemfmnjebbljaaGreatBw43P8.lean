/-
  Calls within a closed run (triforium/triforiumlaw43.awake), run: printed by a program of mine (Cutter).
-/
import Derived.KernelRfl
import Derived.Test.YtoemfmnjebbljaaGreatBw43St
namespace Go.Proofs.YtoemfmnjebbljaaGreat.Bw43
open Go Go.AM
theorem t8 : knownRun (E.with (orcK [])) 1000000 k8 r8 s8 = some (k8.v, k8.H) := by kernel_rfl
end Go.Proofs.YtoemfmnjebbljaaGreat.Bw43
