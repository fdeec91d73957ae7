/-
  A closed run, whole (triforium/triforiumlaw41.awake): the call comes to true, and leaves what was there as it was. Printed by a program of mine (Cutter).
-/
import Derived.KernelRfl
import Derived.Test.YtjgppeeplkidpaaGreatBw41St
import Derived.Test.YtjgppeeplkidpaaGreatBw41P0
import Derived.Test.YtjgppeeplkidpaaGreatBw41P1
import Derived.Test.YtjgppeeplkidpaaGreatBw41P2
import Derived.Test.YtjgppeeplkidpaaGreatBw41P3
import Derived.Test.YtjgppeeplkidpaaGreatBw41P4
import Derived.Test.YtjgppeeplkidpaaGreatBw41P5
import Derived.Test.YtjgppeeplkidpaaGreatBw41P6
import Derived.Test.YtjgppeeplkidpaaGreatBw41P7
import Derived.Test.YtjgppeeplkidpaaGreatBw41P8
import Derived.Test.YtjgppeeplkidpaaGreatBw41P9
import Derived.Test.YtjgppeeplkidpaaGreatBw41P10
import Derived.Test.YtjgppeeplkidpaaGreatBw41P11
import Derived.Test.YtjgppeeplkidpaaGreatBw41P12
import Derived.Test.YtjgppeeplkidpaaGreatBw41P13
namespace Go.Proofs.YtjgppeeplkidpaaGreat.Bw41
open Go Go.AM
set_option maxRecDepth 100000
theorem o0 : KOk Tryz.prog k0 := known_ok (E := E.with (orcK [])) (EnvOk.with hE _) (orcK_ok (fun k hk => by cases hk)) t0
theorem o1 : KOk Tryz.prog k1 := known_ok (E := E.with (orcK [k0])) (EnvOk.with hE _) (orcK_ok (fun k hk => by
  simp only [List.mem_cons, List.not_mem_nil, or_false] at hk
  rcases hk with rfl
  · exact o0
  )) t1
theorem o2 : KOk Tryz.prog k2 := known_ok (E := E.with (orcK [])) (EnvOk.with hE _) (orcK_ok (fun k hk => by cases hk)) t2
theorem o3 : KOk Tryz.prog k3 := known_ok (E := E.with (orcK [k1, k2])) (EnvOk.with hE _) (orcK_ok (fun k hk => by
  simp only [List.mem_cons, List.not_mem_nil, or_false] at hk
  rcases hk with rfl | rfl
  · exact o1
  · exact o2
  )) t3
theorem o4 : KOk Tryz.prog k4 := known_ok (E := E.with (orcK [])) (EnvOk.with hE _) (orcK_ok (fun k hk => by cases hk)) t4
theorem o5 : KOk Tryz.prog k5 := known_ok (E := E.with (orcK [k4])) (EnvOk.with hE _) (orcK_ok (fun k hk => by
  simp only [List.mem_cons, List.not_mem_nil, or_false] at hk
  rcases hk with rfl
  · exact o4
  )) t5
theorem o6 : KOk Tryz.prog k6 := known_ok (E := E.with (orcK [])) (EnvOk.with hE _) (orcK_ok (fun k hk => by cases hk)) t6
theorem o7 : KOk Tryz.prog k7 := known_ok (E := E.with (orcK [k6])) (EnvOk.with hE _) (orcK_ok (fun k hk => by
  simp only [List.mem_cons, List.not_mem_nil, or_false] at hk
  rcases hk with rfl
  · exact o6
  )) t7
theorem o8 : KOk Tryz.prog k8 := known_ok (E := E.with (orcK [])) (EnvOk.with hE _) (orcK_ok (fun k hk => by cases hk)) t8
theorem o9 : KOk Tryz.prog k9 := known_ok (E := E.with (orcK [k8])) (EnvOk.with hE _) (orcK_ok (fun k hk => by
  simp only [List.mem_cons, List.not_mem_nil, or_false] at hk
  rcases hk with rfl
  · exact o8
  )) t9
theorem o10 : KOk Tryz.prog k10 := known_ok (E := E.with (orcK [])) (EnvOk.with hE _) (orcK_ok (fun k hk => by cases hk)) t10
theorem o11 : KOk Tryz.prog k11 := known_ok (E := E.with (orcK [k9, k10])) (EnvOk.with hE _) (orcK_ok (fun k hk => by
  simp only [List.mem_cons, List.not_mem_nil, or_false] at hk
  rcases hk with rfl | rfl
  · exact o9
  · exact o10
  )) t11
theorem o12 : KOk Tryz.prog k12 := known_ok (E := E.with (orcK [])) (EnvOk.with hE _) (orcK_ok (fun k hk => by cases hk)) t12
theorem o13 : KOk Tryz.prog k13 := known_ok (E := E.with (orcK [k12])) (EnvOk.with hE _) (orcK_ok (fun k hk => by
  simp only [List.mem_cons, List.not_mem_nil, or_false] at hk
  rcases hk with rfl
  · exact o12
  )) t13
noncomputable def EK : Env := E.with (orcK [k3, k5, k7, k11, k13])
noncomputable def fn : Func := (E.fn.get 21).getD default
noncomputable def body : Code := fn.body.getD .skip
theorem hO : OrcOk EK := orcK_ok (fun k hk => by
  simp only [List.mem_cons, List.not_mem_nil, or_false] at hk
  rcases hk with rfl | rfl | rfl | rfl | rfl
  · exact o3
  · exact o5
  · exact o7
  · exact o11
  · exact o13
  )
theorem run : endN EK 1000000 fn (flat body) { T := Tr.of [], size := fn.ntmps, marks := [], round := none } Heap.empty = some (.bool true) := by kernel_rfl
theorem hfn : E.fn.get 21 = some fn := by kernel_rfl
theorem hbody : fn.body = some body := by kernel_rfl
theorem known (w : World) : Calls Tryz.prog 21 #[] w fun e w' => e = .returned (.bool true) ∧ AM.Old w.heap.size w w' :=
  calls_of_ends (E := EK) (args := []) (EnvOk.with hE _) hfn hbody (Nat.zero_le _) (AM.Ends.last (EnvOk.with hE _) hO run) (plain_eq rfl) (rel_empty w ⟨Nat.zero_le _, trivial⟩) (.nil _)
theorem knows : AM.Knows E (21, .bool true) := ⟨rfl, ⟨fn, body, hfn, hbody⟩, fun w _ _ => known w⟩
end Go.Proofs.YtjgppeeplkidpaaGreat.Bw41
