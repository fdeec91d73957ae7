/-
  A closed run, whole (triforium/triforiumlaw30.awake): the call comes to true, and leaves what was there as it was. Printed by a program of mine (Cutter).
-/
import Derived.KernelRfl
import Derived.Test.YtbkhcbddbefepaaGreatBw30St
import Derived.Test.YtbkhcbddbefepaaGreatBw30P0
import Derived.Test.YtbkhcbddbefepaaGreatBw30P1
import Derived.Test.YtbkhcbddbefepaaGreatBw30P2
import Derived.Test.YtbkhcbddbefepaaGreatBw30P3
import Derived.Test.YtbkhcbddbefepaaGreatBw30P4
namespace Go.Proofs.YtbkhcbddbefepaaGreat.Bw30
open Go Go.AM
set_option maxRecDepth 100000
theorem o0 : KOk Tryz.prog k0 := known_ok (E := E.with (orcK [])) (EnvOk.with hE _) (orcK_ok (fun k hk => by cases hk)) t0
theorem o1 : KOk Tryz.prog k1 := known_ok (E := E.with (orcK [])) (EnvOk.with hE _) (orcK_ok (fun k hk => by cases hk)) t1
theorem o2 : KOk Tryz.prog k2 := known_ok (E := E.with (orcK [])) (EnvOk.with hE _) (orcK_ok (fun k hk => by cases hk)) t2
theorem o3 : KOk Tryz.prog k3 := known_ok (E := E.with (orcK [k1, k2])) (EnvOk.with hE _) (orcK_ok (fun k hk => by
  simp only [List.mem_cons, List.not_mem_nil, or_false] at hk
  rcases hk with rfl | rfl
  · exact o1
  · exact o2
  )) t3
theorem o4 : KOk Tryz.prog k4 := known_ok (E := E.with (orcK [k0, k3])) (EnvOk.with hE _) (orcK_ok (fun k hk => by
  simp only [List.mem_cons, List.not_mem_nil, or_false] at hk
  rcases hk with rfl | rfl
  · exact o0
  · exact o3
  )) t4
noncomputable def EK : Env := E.with (orcK [k4])
noncomputable def fn : Func := (E.fn.get 5).getD default
noncomputable def body : Code := fn.body.getD .skip
theorem hO : OrcOk EK := orcK_ok (fun k hk => by
  simp only [List.mem_cons, List.not_mem_nil, or_false] at hk
  rcases hk with rfl
  · exact o4
  )
theorem run : endN EK 1000000 fn (flat body) { T := Tr.of [], size := fn.ntmps, marks := [], round := none } Heap.empty = some (.bool true) := by kernel_rfl
theorem hfn : E.fn.get 5 = some fn := by kernel_rfl
theorem hbody : fn.body = some body := by kernel_rfl
theorem known (w : World) : Calls Tryz.prog 5 #[] w fun e w' => e = .returned (.bool true) ∧ AM.Old w.heap.size w w' :=
  calls_of_ends (E := EK) (args := []) (EnvOk.with hE _) hfn hbody (Nat.zero_le _) (AM.Ends.last (EnvOk.with hE _) hO run) (plain_eq rfl) (rel_empty w) (.nil _)
theorem knows : AM.Knows E (5, .bool true) := ⟨rfl, ⟨fn, body, hfn, hbody⟩, known⟩
end Go.Proofs.YtbkhcbddbefepaaGreat.Bw30
