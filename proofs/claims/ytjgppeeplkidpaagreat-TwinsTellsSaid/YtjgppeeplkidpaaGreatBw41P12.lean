/-
  Calls within a closed run (triforium/triforiumlaw41.awake), run: printed by a program of mine (Cutter).
-/
import Derived.KernelRfl
import Derived.Test.YtjgppeeplkidpaaGreatBw41St
namespace Go.Proofs.YtjgppeeplkidpaaGreat.Bw41
open Go Go.AM
theorem t12 : knownRun (E.with (orcK [])) 1000000 k12 r12 s12 = some (k12.v, k12.H) := by kernel_rfl
end Go.Proofs.YtjgppeeplkidpaaGreat.Bw41
