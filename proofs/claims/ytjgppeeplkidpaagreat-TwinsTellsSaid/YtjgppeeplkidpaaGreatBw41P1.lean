/-
  Calls within a closed run (triforium/triforiumlaw41.awake), run: printed by a program of mine (Cutter).
-/
import Derived.KernelRfl
import Derived.Test.YtjgppeeplkidpaaGreatBw41St
namespace Go.Proofs.YtjgppeeplkidpaaGreat.Bw41
open Go Go.AM
theorem t1 : knownRun (E.with (orcK [k0])) 1000000 k1 r1 s1 = some (k1.v, k1.H) := by kernel_rfl
end Go.Proofs.YtjgppeeplkidpaaGreat.Bw41
