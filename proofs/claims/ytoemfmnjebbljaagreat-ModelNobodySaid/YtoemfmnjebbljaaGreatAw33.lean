/-
  The last part of a closed run (triforium/triforiumlaw33.awake); and the whole: the call comes to true, and leaves what was there as it was. Printed by a program of mine (Chunker).
-/
import Derived.KernelRfl
import Derived.Test.YtoemfmnjebbljaaGreatAw33St
import Derived.Test.YtoemfmnjebbljaaGreatAw33P0
namespace Go.Proofs.YtoemfmnjebbljaaGreat.Aw33
open Go Go.AM
set_option maxRecDepth 100000
theorem partLast : endN E 1000000 fn (L.drop 10) fr1 H1 = some (.bool true) := by kernel_rfl
theorem hE : EnvOk E := EnvOk.of _ (by kernel_rfl)
theorem hfn : E.fn.get 26 = some fn := by kernel_rfl
theorem hbody : fn.body = some body := by kernel_rfl
theorem ends : AM.Ends E fn (L.drop 0) fr0 Heap.empty (.bool true) := AM.Ends.part (L := L) (b := 10) hE OrcOk.none part1 rfl (AM.Ends.last hE OrcOk.none partLast)
theorem known (w : World) : Calls Tryz.prog 26 #[] w fun e w' => e = .returned (.bool true) ∧ AM.Old w.heap.size w w' :=
  calls_of_ends hE hfn hbody (Nat.zero_le _) ends (plain_eq rfl) (rel_empty w) (.nil _)
theorem knows : AM.Knows E (26, .bool true) := ⟨rfl, ⟨fn, body, hfn, hbody⟩, known⟩
end Go.Proofs.YtoemfmnjebbljaaGreat.Aw33
