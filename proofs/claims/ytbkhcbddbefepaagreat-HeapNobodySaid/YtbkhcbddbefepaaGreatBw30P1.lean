/-
  Calls within a closed run (triforium/triforiumlaw30.awake), run: printed by a program of mine (Cutter).
-/
import Derived.KernelRfl
import Derived.Test.YtbkhcbddbefepaaGreatBw30St
namespace Go.Proofs.YtbkhcbddbefepaaGreat.Bw30
open Go Go.AM
theorem t1 : knownRun (E.with (orcK [])) 1000000 k1 r1 s1 = some (k1.v, k1.H) := by kernel_rfl
end Go.Proofs.YtbkhcbddbefepaaGreat.Bw30
