/-
  Calls within a closed run (triforium/triforiumlaw24.awake), run: printed by a program of mine (Cutter).
-/
import Derived.KernelRfl
import Derived.Test.YtfaplhodeekjnaaGreatBw24St
namespace Go.Proofs.YtfaplhodeekjnaaGreat.Bw24
open Go Go.AM
theorem t9 : knownRun (E.with (orcK [k3, k4, k5, k6, k7, k8])) 1000000 k9 r9 s9 = some (k9.v, k9.H) := by kernel_rfl
end Go.Proofs.YtfaplhodeekjnaaGreat.Bw24
