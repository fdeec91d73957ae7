/-
  Calls within a closed run (triforium/triforiumlaw41.awake), run: printed by a program of mine (Cutter).
-/
import Derived.KernelRfl
import Derived.Test.YtjgppeeplkidpaaGreatBw41St
namespace Go.Proofs.YtjgppeeplkidpaaGreat.Bw41
open Go Go.AM
theorem t5 : knownRun (E.with (orcK [k4])) 1000000 k5 r5 s5 = some (k5.v, k5.H) := by kernel_rfl
end Go.Proofs.YtjgppeeplkidpaaGreat.Bw41
