/-
  Calls within a closed run (triforium/triforiumlaw41.awake), run: printed by a program of mine (Cutter).
-/
import Derived.KernelRfl
import Derived.Test.YtjgppeeplkidpaaGreatBw41St
namespace Go.Proofs.YtjgppeeplkidpaaGreat.Bw41
open Go Go.AM
theorem t6 : knownRun (E.with (orcK [])) 1000000 k6 r6 s6 = some (k6.v, k6.H) := by kernel_rfl
end Go.Proofs.YtjgppeeplkidpaaGreat.Bw41
