/-
  Calls within a closed run (triforium/triforiumlaw41.awake), run: printed by a program of mine (Cutter).
-/
import Derived.KernelRfl
import Derived.Test.YtjgppeeplkidpaaGreatBw41St
namespace Go.Proofs.YtjgppeeplkidpaaGreat.Bw41
open Go Go.AM
theorem t8 : knownRun (E.with (orcK [])) 1000000 k8 r8 s8 = some (k8.v, k8.H) := by kernel_rfl
end Go.Proofs.YtjgppeeplkidpaaGreat.Bw41
