/-
  Calls within a closed run (triforium/triforiumlaw41.awake), run: printed by a program of mine (Cutter).
-/
import Derived.KernelRfl
import Derived.Test.YtjgppeeplkidpaaGreatBw41St
namespace Go.Proofs.YtjgppeeplkidpaaGreat.Bw41
open Go Go.AM
theorem t9 : knownRun (E.with (orcK [k8])) 1000000 k9 r9 s9 = some (k9.v, k9.H) := by kernel_rfl
end Go.Proofs.YtjgppeeplkidpaaGreat.Bw41
