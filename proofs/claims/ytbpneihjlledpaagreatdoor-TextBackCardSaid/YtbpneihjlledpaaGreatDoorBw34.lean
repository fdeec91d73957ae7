/-
  A closed run, whole (triforium/triforiumlaw34.awake): the call comes to true, and leaves what was there as it was; calls of the library in it are told.
-/
import Derived.KernelRfl
import Derived.Test.YtbpneihjlledpaaGreatDoorAMk
import Derived.Test.YtbpneihjlledpaaGreatDoorTT1
import Derived.Test.YtbpneihjlledpaaGreatDoorProg
set_option linter.unusedSimpArgs false
set_option linter.unusedVariables false
set_option linter.unusedSectionVars false
namespace Go.Proofs.YtbpneihjlledpaaGreatDoor.Bw34
open Go Go.AM
set_option maxRecDepth 100000
instance : Maps := trieMaps
noncomputable def E : Env := Env.of Tryz.prog
theorem hE : EnvOk E := EnvOk.of _ (by kernel_rfl)
noncomputable def EK : Env := E.with (orcT tolds)
theorem some_of {α : Type} {o : Option α} (h : o.isSome = true) : ∃ x, o = some x := Option.isSome_iff_exists.1 h
theorem hO : OrcOk EK := orcT_ok hE (tolds_ok rfl (fun g hg => by
  simp only [List.mem_cons, List.not_mem_nil, or_false] at hg
  rcases hg with rfl | rfl | rfl | rfl | rfl | rfl <;> exact ⟨_, _, rfl, rfl⟩))
noncomputable def fn : Func := (E.fn.get 6).getD default
noncomputable def body : Code := fn.body.getD .skip
theorem run : endN EK 1000000 fn (flat body) { T := Tr.of [], size := fn.ntmps, marks := [], round := none } Heap.empty = some (.bool true) := by kernel_rfl
theorem hfn : E.fn.get 6 = some fn := by kernel_rfl
theorem hbody : fn.body = some body := by kernel_rfl
theorem known (w : World) (hg : GN ≤ w.heap.size ∧ GL w) : Calls Tryz.prog 6 #[] w fun e w' => e = .returned (.bool true) ∧ AM.Old w.heap.size w w' :=
  calls_of_ends (E := EK) (args := []) (EnvOk.with hE _) hfn hbody (Nat.zero_le _) (AM.Ends.last (EnvOk.with hE _) hO run) (plain_eq rfl) (rel_empty w hg) (.nil _)
end Go.Proofs.YtbpneihjlledpaaGreatDoor.Bw34
