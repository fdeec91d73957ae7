/-
  Calls within a closed run (triforium/triforiumlaw41.awake), run: printed by a program of mine (Cutter).
-/
import Derived.KernelRfl
import Derived.Test.YtjgppeeplkidpaaGreatBw41St
namespace Go.Proofs.YtjgppeeplkidpaaGreat.Bw41
open Go Go.AM
theorem t11 : knownRun (E.with (orcK [k9, k10])) 1000000 k11 r11 s11 = some (k11.v, k11.H) := by kernel_rfl
end Go.Proofs.YtjgppeeplkidpaaGreat.Bw41
