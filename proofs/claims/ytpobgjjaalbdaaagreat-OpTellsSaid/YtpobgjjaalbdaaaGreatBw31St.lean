/-
  Calls within a closed run (triforium/triforiumlaw31.awake), told: printed by a program of mine (Cutter).
-/
import Derived.KernelRfl
import Derived.Test.YtpobgjjaalbdaaaGreatAMb
import Derived.Test.YtpobgjjaalbdaaaGreatProg
namespace Go.Proofs.YtpobgjjaalbdaaaGreat.Bw31
open Go Go.AM
instance : Maps := trieMaps

noncomputable def E : Env := Env.of Tryz.prog
theorem hE : EnvOk E := EnvOk.of _ (by kernel_rfl)
end Go.Proofs.YtpobgjjaalbdaaaGreat.Bw31
