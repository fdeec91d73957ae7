/-
  Calls within a closed run (triforium/triforiumlaw40.awake), told: printed by a program of mine (Cutter).
-/
import Derived.KernelRfl
import Derived.Test.YtejdijcokjiobaaGreatAMb
import Derived.Test.YtejdijcokjiobaaGreatProg
namespace Go.Proofs.YtejdijcokjiobaaGreat.Bw40
open Go Go.AM
instance : Maps := trieMaps

noncomputable def E : Env := Env.of Tryz.prog
theorem hE : EnvOk E := EnvOk.of _ (by kernel_rfl)
end Go.Proofs.YtejdijcokjiobaaGreat.Bw40
