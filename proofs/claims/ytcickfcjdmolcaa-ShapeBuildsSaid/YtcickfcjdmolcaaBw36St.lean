/-
  Calls within a closed run (triforium/triforiumlaw36.awake), told: printed by a program of mine (Cutter).
-/
import Derived.KernelRfl
import Derived.Test.YtcickfcjdmolcaaAMb
import Derived.Test.YtcickfcjdmolcaaProg
namespace Go.Proofs.Ytcickfcjdmolcaa.Bw36
open Go Go.AM
instance : Maps := trieMaps

noncomputable def E : Env := Env.of Try.prog
theorem hE : EnvOk E := EnvOk.of _ (by kernel_rfl)
end Go.Proofs.Ytcickfcjdmolcaa.Bw36
