/-
  A closed run, whole (triforium/triforiumlaw38.awake): the call comes to true, and leaves what was there as it was. Printed by a program of mine (Cutter).
-/
import Derived.KernelRfl
import Derived.Test.YtjggpambckfilaaGreatBw38St
import Derived.Test.YtjggpambckfilaaGreatBw38P0
import Derived.Test.YtjggpambckfilaaGreatBw38P1
import Derived.Test.YtjggpambckfilaaGreatBw38P2
import Derived.Test.YtjggpambckfilaaGreatBw38P3
import Derived.Test.YtjggpambckfilaaGreatBw38P4
import Derived.Test.YtjggpambckfilaaGreatBw38P5
import Derived.Test.YtjggpambckfilaaGreatBw38P6
import Derived.Test.YtjggpambckfilaaGreatBw38P7
import Derived.Test.YtjggpambckfilaaGreatBw38P8
import Derived.Test.YtjggpambckfilaaGreatBw38P9
import Derived.Test.YtjggpambckfilaaGreatBw38P10
import Derived.Test.YtjggpambckfilaaGreatBw38P11
import Derived.Test.YtjggpambckfilaaGreatBw38P12
import Derived.Test.YtjggpambckfilaaGreatBw38P13
import Derived.Test.YtjggpambckfilaaGreatBw38P14
import Derived.Test.YtjggpambckfilaaGreatBw38P15
namespace Go.Proofs.YtjggpambckfilaaGreat.Bw38
open Go Go.AM
set_option maxRecDepth 100000
theorem o0 : KOk Tryz.prog k0 := known_ok (E := E.with (orcK [])) (EnvOk.with hE _) (orcK_ok (fun k hk => by cases hk)) t0
theorem o1 : KOk Tryz.prog k1 := known_ok (E := E.with (orcK [k0])) (EnvOk.with hE _) (orcK_ok (fun k hk => by
  simp only [List.mem_cons, List.not_mem_nil, or_false] at hk
  rcases hk with rfl
  · exact o0
  )) t1
theorem o2 : KOk Tryz.prog k2 := known_ok (E := E.with (orcK [k1])) (EnvOk.with hE _) (orcK_ok (fun k hk => by
  simp only [List.mem_cons, List.not_mem_nil, or_false] at hk
  rcases hk with rfl
  · exact o1
  )) t2
theorem o3 : KOk Tryz.prog k3 := known_ok (E := E.with (orcK [])) (EnvOk.with hE _) (orcK_ok (fun k hk => by cases hk)) t3
theorem o4 : KOk Tryz.prog k4 := known_ok (E := E.with (orcK [k3])) (EnvOk.with hE _) (orcK_ok (fun k hk => by
  simp only [List.mem_cons, List.not_mem_nil, or_false] at hk
  rcases hk with rfl
  · exact o3
  )) t4
theorem o5 : KOk Tryz.prog k5 := known_ok (E := E.with (orcK [])) (EnvOk.with hE _) (orcK_ok (fun k hk => by cases hk)) t5
theorem o6 : KOk Tryz.prog k6 := known_ok (E := E.with (orcK [k5])) (EnvOk.with hE _) (orcK_ok (fun k hk => by
  simp only [List.mem_cons, List.not_mem_nil, or_false] at hk
  rcases hk with rfl
  · exact o5
  )) t6
theorem o7 : KOk Tryz.prog k7 := known_ok (E := E.with (orcK [k6])) (EnvOk.with hE _) (orcK_ok (fun k hk => by
  simp only [List.mem_cons, List.not_mem_nil, or_false] at hk
  rcases hk with rfl
  · exact o6
  )) t7
theorem o8 : KOk Tryz.prog k8 := known_ok (E := E.with (orcK [k2, k4, k7])) (EnvOk.with hE _) (orcK_ok (fun k hk => by
  simp only [List.mem_cons, List.not_mem_nil, or_false] at hk
  rcases hk with rfl | rfl | rfl
  · exact o2
  · exact o4
  · exact o7
  )) t8
theorem o9 : KOk Tryz.prog k9 := known_ok (E := E.with (orcK [])) (EnvOk.with hE _) (orcK_ok (fun k hk => by cases hk)) t9
theorem o10 : KOk Tryz.prog k10 := known_ok (E := E.with (orcK [])) (EnvOk.with hE _) (orcK_ok (fun k hk => by cases hk)) t10
theorem o11 : KOk Tryz.prog k11 := known_ok (E := E.with (orcK [])) (EnvOk.with hE _) (orcK_ok (fun k hk => by cases hk)) t11
theorem o12 : KOk Tryz.prog k12 := known_ok (E := E.with (orcK [k11])) (EnvOk.with hE _) (orcK_ok (fun k hk => by
  simp only [List.mem_cons, List.not_mem_nil, or_false] at hk
  rcases hk with rfl
  · exact o11
  )) t12
theorem o13 : KOk Tryz.prog k13 := known_ok (E := E.with (orcK [])) (EnvOk.with hE _) (orcK_ok (fun k hk => by cases hk)) t13
theorem o14 : KOk Tryz.prog k14 := known_ok (E := E.with (orcK [k13])) (EnvOk.with hE _) (orcK_ok (fun k hk => by
  simp only [List.mem_cons, List.not_mem_nil, or_false] at hk
  rcases hk with rfl
  · exact o13
  )) t14
theorem o15 : KOk Tryz.prog k15 := known_ok (E := E.with (orcK [])) (EnvOk.with hE _) (orcK_ok (fun k hk => by cases hk)) t15
noncomputable def EK : Env := E.with (orcK [k8, k9, k10, k12, k14, k15])
noncomputable def fn : Func := (E.fn.get 4).getD default
noncomputable def body : Code := fn.body.getD .skip
theorem hO : OrcOk EK := orcK_ok (fun k hk => by
  simp only [List.mem_cons, List.not_mem_nil, or_false] at hk
  rcases hk with rfl | rfl | rfl | rfl | rfl | rfl
  · exact o8
  · exact o9
  · exact o10
  · exact o12
  · exact o14
  · exact o15
  )
theorem run : endN EK 1000000 fn (flat body) { T := Tr.of [], size := fn.ntmps, marks := [], round := none } Heap.empty = some (.bool true) := by kernel_rfl
theorem hfn : E.fn.get 4 = some fn := by kernel_rfl
theorem hbody : fn.body = some body := by kernel_rfl
theorem known (w : World) : Calls Tryz.prog 4 #[] w fun e w' => e = .returned (.bool true) ∧ AM.Old w.heap.size w w' :=
  calls_of_ends (E := EK) (args := []) (EnvOk.with hE _) hfn hbody (Nat.zero_le _) (AM.Ends.last (EnvOk.with hE _) hO run) (plain_eq rfl) (rel_empty w) (.nil _)
theorem knows : AM.Knows E (4, .bool true) := ⟨rfl, ⟨fn, body, hfn, hbody⟩, known⟩
end Go.Proofs.YtjggpambckfilaaGreat.Bw38
