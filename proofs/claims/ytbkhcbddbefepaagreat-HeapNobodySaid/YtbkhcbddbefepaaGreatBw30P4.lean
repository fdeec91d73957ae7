/-
  Calls within a closed run (triforium/triforiumlaw30.awake), run: printed by a program of mine (Cutter).
-/
import Derived.KernelRfl
import Derived.Test.YtbkhcbddbefepaaGreatBw30St
namespace Go.Proofs.YtbkhcbddbefepaaGreat.Bw30
open Go Go.AM
theorem t4 : knownRun (E.with (orcK [k0, k3])) 1000000 k4 r4 s4 = some (k4.v, k4.H) := by kernel_rfl
end Go.Proofs.YtbkhcbddbefepaaGreat.Bw30
