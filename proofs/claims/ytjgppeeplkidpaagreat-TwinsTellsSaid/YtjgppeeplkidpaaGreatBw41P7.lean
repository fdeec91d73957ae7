/-
  Calls within a closed run (triforium/triforiumlaw41.awake), run: printed by a program of mine (Cutter).
-/
import Derived.KernelRfl
import Derived.Test.YtjgppeeplkidpaaGreatBw41St
namespace Go.Proofs.YtjgppeeplkidpaaGreat.Bw41
open Go Go.AM
theorem t7 : knownRun (E.with (orcK [k6])) 1000000 k7 r7 s7 = some (k7.v, k7.H) := by kernel_rfl
end Go.Proofs.YtjgppeeplkidpaaGreat.Bw41
