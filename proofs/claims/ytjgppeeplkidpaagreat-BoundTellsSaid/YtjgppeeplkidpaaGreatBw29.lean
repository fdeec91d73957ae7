/-
  A closed run, whole (triforium/triforiumlaw29.awake): the call comes to true, and leaves what was there as it was. Printed by a program of mine (Cutter).
-/
import Derived.KernelRfl
import Derived.Test.YtjgppeeplkidpaaGreatBw29St
import Derived.Test.YtjgppeeplkidpaaGreatBw29P0
import Derived.Test.YtjgppeeplkidpaaGreatBw29P1
import Derived.Test.YtjgppeeplkidpaaGreatBw29P2
import Derived.Test.YtjgppeeplkidpaaGreatBw29P3
import Derived.Test.YtjgppeeplkidpaaGreatBw29P4
import Derived.Test.YtjgppeeplkidpaaGreatBw29P5
import Derived.Test.YtjgppeeplkidpaaGreatBw29P6
import Derived.Test.YtjgppeeplkidpaaGreatBw29P7
namespace Go.Proofs.YtjgppeeplkidpaaGreat.Bw29
open Go Go.AM
set_option maxRecDepth 100000
theorem o0 : KOk Tryz.prog k0 := known_ok (E := E.with (orcK [])) (EnvOk.with hE _) (orcK_ok (fun k hk => by cases hk)) t0
theorem o1 : KOk Tryz.prog k1 := known_ok (E := E.with (orcK [])) (EnvOk.with hE _) (orcK_ok (fun k hk => by cases hk)) t1
theorem o2 : KOk Tryz.prog k2 := known_ok (E := E.with (orcK [])) (EnvOk.with hE _) (orcK_ok (fun k hk => by cases hk)) t2
theorem o3 : KOk Tryz.prog k3 := known_ok (E := E.with (orcK [])) (EnvOk.with hE _) (orcK_ok (fun k hk => by cases hk)) t3
theorem o4 : KOk Tryz.prog k4 := known_ok (E := E.with (orcK [])) (EnvOk.with hE _) (orcK_ok (fun k hk => by cases hk)) t4
theorem o5 : KOk Tryz.prog k5 := known_ok (E := E.with (orcK [])) (EnvOk.with hE _) (orcK_ok (fun k hk => by cases hk)) t5
theorem o6 : KOk Tryz.prog k6 := known_ok (E := E.with (orcK [])) (EnvOk.with hE _) (orcK_ok (fun k hk => by cases hk)) t6
theorem o7 : KOk Tryz.prog k7 := known_ok (E := E.with (orcK [])) (EnvOk.with hE _) (orcK_ok (fun k hk => by cases hk)) t7
theorem o8 : KOk Tryz.prog k8 := known_ok (E := E.with (orcK [])) (EnvOk.with hE _) (orcK_ok (fun k hk => by cases hk)) t8
theorem o9 : KOk Tryz.prog k9 := known_ok (E := E.with (orcK [])) (EnvOk.with hE _) (orcK_ok (fun k hk => by cases hk)) t9
theorem o10 : KOk Tryz.prog k10 := known_ok (E := E.with (orcK [])) (EnvOk.with hE _) (orcK_ok (fun k hk => by cases hk)) t10
theorem o11 : KOk Tryz.prog k11 := known_ok (E := E.with (orcK [])) (EnvOk.with hE _) (orcK_ok (fun k hk => by cases hk)) t11
theorem o12 : KOk Tryz.prog k12 := known_ok (E := E.with (orcK [])) (EnvOk.with hE _) (orcK_ok (fun k hk => by cases hk)) t12
theorem o13 : KOk Tryz.prog k13 := known_ok (E := E.with (orcK [])) (EnvOk.with hE _) (orcK_ok (fun k hk => by cases hk)) t13
theorem o14 : KOk Tryz.prog k14 := known_ok (E := E.with (orcK [])) (EnvOk.with hE _) (orcK_ok (fun k hk => by cases hk)) t14
theorem o15 : KOk Tryz.prog k15 := known_ok (E := E.with (orcK [])) (EnvOk.with hE _) (orcK_ok (fun k hk => by cases hk)) t15
theorem o16 : KOk Tryz.prog k16 := known_ok (E := E.with (orcK [])) (EnvOk.with hE _) (orcK_ok (fun k hk => by cases hk)) t16
theorem o17 : KOk Tryz.prog k17 := known_ok (E := E.with (orcK [])) (EnvOk.with hE _) (orcK_ok (fun k hk => by cases hk)) t17
theorem o18 : KOk Tryz.prog k18 := known_ok (E := E.with (orcK [])) (EnvOk.with hE _) (orcK_ok (fun k hk => by cases hk)) t18
theorem o19 : KOk Tryz.prog k19 := known_ok (E := E.with (orcK [])) (EnvOk.with hE _) (orcK_ok (fun k hk => by cases hk)) t19
theorem o20 : KOk Tryz.prog k20 := known_ok (E := E.with (orcK [])) (EnvOk.with hE _) (orcK_ok (fun k hk => by cases hk)) t20
theorem o21 : KOk Tryz.prog k21 := known_ok (E := E.with (orcK [])) (EnvOk.with hE _) (orcK_ok (fun k hk => by cases hk)) t21
theorem o22 : KOk Tryz.prog k22 := known_ok (E := E.with (orcK [])) (EnvOk.with hE _) (orcK_ok (fun k hk => by cases hk)) t22
theorem o23 : KOk Tryz.prog k23 := known_ok (E := E.with (orcK [])) (EnvOk.with hE _) (orcK_ok (fun k hk => by cases hk)) t23
theorem o24 : KOk Tryz.prog k24 := known_ok (E := E.with (orcK [])) (EnvOk.with hE _) (orcK_ok (fun k hk => by cases hk)) t24
theorem o25 : KOk Tryz.prog k25 := known_ok (E := E.with (orcK [])) (EnvOk.with hE _) (orcK_ok (fun k hk => by cases hk)) t25
theorem o26 : KOk Tryz.prog k26 := known_ok (E := E.with (orcK [])) (EnvOk.with hE _) (orcK_ok (fun k hk => by cases hk)) t26
theorem o27 : KOk Tryz.prog k27 := known_ok (E := E.with (orcK [])) (EnvOk.with hE _) (orcK_ok (fun k hk => by cases hk)) t27
theorem o28 : KOk Tryz.prog k28 := known_ok (E := E.with (orcK [])) (EnvOk.with hE _) (orcK_ok (fun k hk => by cases hk)) t28
theorem o29 : KOk Tryz.prog k29 := known_ok (E := E.with (orcK [])) (EnvOk.with hE _) (orcK_ok (fun k hk => by cases hk)) t29
theorem o30 : KOk Tryz.prog k30 := known_ok (E := E.with (orcK [])) (EnvOk.with hE _) (orcK_ok (fun k hk => by cases hk)) t30
theorem o31 : KOk Tryz.prog k31 := known_ok (E := E.with (orcK [])) (EnvOk.with hE _) (orcK_ok (fun k hk => by cases hk)) t31
theorem o32 : KOk Tryz.prog k32 := known_ok (E := E.with (orcK [k0, k1, k2, k3, k4, k5, k6, k7, k8, k9, k10, k11, k12, k13, k14, k15, k16, k17, k18, k19, k20, k21, k22, k23, k24, k25, k26, k27, k28, k29, k30, k31])) (EnvOk.with hE _) (orcK_ok (fun k hk => by
  simp only [List.mem_cons, List.not_mem_nil, or_false] at hk
  rcases hk with rfl | rfl | rfl | rfl | rfl | rfl | rfl | rfl | rfl | rfl | rfl | rfl | rfl | rfl | rfl | rfl | rfl | rfl | rfl | rfl | rfl | rfl | rfl | rfl | rfl | rfl | rfl | rfl | rfl | rfl | rfl | rfl
  · exact o0
  · exact o1
  · exact o2
  · exact o3
  · exact o4
  · exact o5
  · exact o6
  · exact o7
  · exact o8
  · exact o9
  · exact o10
  · exact o11
  · exact o12
  · exact o13
  · exact o14
  · exact o15
  · exact o16
  · exact o17
  · exact o18
  · exact o19
  · exact o20
  · exact o21
  · exact o22
  · exact o23
  · exact o24
  · exact o25
  · exact o26
  · exact o27
  · exact o28
  · exact o29
  · exact o30
  · exact o31
  )) t32
theorem o33 : KOk Tryz.prog k33 := known_ok (E := E.with (orcK [])) (EnvOk.with hE _) (orcK_ok (fun k hk => by cases hk)) t33
theorem o34 : KOk Tryz.prog k34 := known_ok (E := E.with (orcK [])) (EnvOk.with hE _) (orcK_ok (fun k hk => by cases hk)) t34
theorem o35 : KOk Tryz.prog k35 := known_ok (E := E.with (orcK [])) (EnvOk.with hE _) (orcK_ok (fun k hk => by cases hk)) t35
noncomputable def EK : Env := E.with (orcK [k32, k33, k34, k35])
noncomputable def fn : Func := (E.fn.get 7).getD default
noncomputable def body : Code := fn.body.getD .skip
theorem hO : OrcOk EK := orcK_ok (fun k hk => by
  simp only [List.mem_cons, List.not_mem_nil, or_false] at hk
  rcases hk with rfl | rfl | rfl | rfl
  · exact o32
  · exact o33
  · exact o34
  · exact o35
  )
theorem run : endN EK 1000000 fn (flat body) { T := Tr.of [], size := fn.ntmps, marks := [], round := none } Heap.empty = some (.bool true) := by kernel_rfl
theorem hfn : E.fn.get 7 = some fn := by kernel_rfl
theorem hbody : fn.body = some body := by kernel_rfl
theorem known (w : World) : Calls Tryz.prog 7 #[] w fun e w' => e = .returned (.bool true) ∧ AM.Old w.heap.size w w' :=
  calls_of_ends (E := EK) (args := []) (EnvOk.with hE _) hfn hbody (Nat.zero_le _) (AM.Ends.last (EnvOk.with hE _) hO run) (plain_eq rfl) (rel_empty w ⟨Nat.zero_le _, trivial⟩) (.nil _)
theorem knows : AM.Knows E (7, .bool true) := ⟨rfl, ⟨fn, body, hfn, hbody⟩, fun w _ _ => known w⟩
end Go.Proofs.YtjgppeeplkidpaaGreat.Bw29
