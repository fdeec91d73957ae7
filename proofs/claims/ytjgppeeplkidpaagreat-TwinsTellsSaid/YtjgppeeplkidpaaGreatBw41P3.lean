/-
  Calls within a closed run (triforium/triforiumlaw41.awake), run: printed by a program of mine (Cutter).
-/
import Derived.KernelRfl
import Derived.Test.YtjgppeeplkidpaaGreatBw41St
namespace Go.Proofs.YtjgppeeplkidpaaGreat.Bw41
open Go Go.AM
theorem t3 : knownRun (E.with (orcK [k1, k2])) 1000000 k3 r3 s3 = some (k3.v, k3.H) := by kernel_rfl
end Go.Proofs.YtjgppeeplkidpaaGreat.Bw41
