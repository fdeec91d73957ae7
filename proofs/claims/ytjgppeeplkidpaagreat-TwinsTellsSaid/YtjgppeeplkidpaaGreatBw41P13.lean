/-
  Calls within a closed run (triforium/triforiumlaw41.awake), run: printed by a program of mine (Cutter).
-/
import Derived.KernelRfl
import Derived.Test.YtjgppeeplkidpaaGreatBw41St
namespace Go.Proofs.YtjgppeeplkidpaaGreat.Bw41
open Go Go.AM
theorem t13 : knownRun (E.with (orcK [k12])) 1000000 k13 r13 s13 = some (k13.v, k13.H) := by kernel_rfl
end Go.Proofs.YtjgppeeplkidpaaGreat.Bw41
