/-
  Calls within a closed run (triforium/triforiumlaw43.awake), run: printed by a program of mine (Cutter).
-/
import Derived.KernelRfl
import Derived.Test.YtoemfmnjebbljaaGreatBw43St
namespace Go.Proofs.YtoemfmnjebbljaaGreat.Bw43
open Go Go.AM
theorem t2 : knownRun (E.with (orcK [k1])) 1000000 k2 r2 s2 = some (k2.v, k2.H) := by kernel_rfl
end Go.Proofs.YtoemfmnjebbljaaGreat.Bw43
