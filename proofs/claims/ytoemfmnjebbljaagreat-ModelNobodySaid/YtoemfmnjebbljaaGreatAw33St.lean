/-
  The states between the parts of a closed run (triforium/triforiumlaw33.awake): printed by a program of mine (Chunker).
-/
import Derived.Test.YtoemfmnjebbljaaGreatAMb
import Derived.Test.YtoemfmnjebbljaaGreatProg
namespace Go.Proofs.YtoemfmnjebbljaaGreat.Aw33
open Go Go.AM
set_option maxRecDepth 100000

noncomputable def E : Env := Env.of Tryz.prog
noncomputable def fn : Func := (E.fn.get 26).getD default
noncomputable def body : Code := fn.body.getD .skip
noncomputable def L : List Code := flat body
def fr0 : Fr := { T := Tr.of [], size := 122, marks := [], round := none }
def fr1 : Fr := { T := Tr.pairs [(0, (.bool false)), (1, (.pointer (some ⟨2, 0, none⟩))), (3, (.pointer (some ⟨62, 0, none⟩))), (4, (.pointer (some ⟨78, 0, none⟩))), (5, (.pointer (some ⟨99, 0, none⟩))), (6, (.pointer (some ⟨107, 0, none⟩))), (7, (.pointer (some ⟨213, 0, none⟩)))], size := 122, marks := [], round := none }
def H1 : Heap := { objs := Tr.pairs [(2, (.row [(.bool true), (.int .i64 (.ofNat 6)), (.int .i64 (.ofNat 4)), (.int .i64 (.ofNat 3)), (.int .i64 (.ofNat 3)), (.slice (some ⟨56, 0, none⟩) 1 1), (.slice (some ⟨94, 0, none⟩) 3 3), (.int .i64 (.ofNat 2)), (.int .i64 (.ofNat 1)), (.slice none 0 0), (.slice (some ⟨13, 0, none⟩) 1 1)] none true)), (13, (.row [(.int .i64 (.ofNat 12)), (.int .i64 (.ofNat 4))] none true)), (53, (.row [(.int .i64 (.ofNat 2)), (.int .i64 (.ofNat 0))] none true)), (54, (.row [] none true)), (56, (.row [(.int .i64 (.ofNat 1)), (.slice (some ⟨53, 0, none⟩) 1 1), (.slice (some ⟨54, 0, none⟩) 0 0), (.bool false), (.int .i64 (.ofNat 0))] (some (56, 5)) true)), (62, (.row [(.int .i64 (.ofNat 0)), (.int .i64 (.ofNat 0)), (.int .i64 (.ofNat 0)), (.int .i64 (.ofNat 0)), (.int .u64 (.ofNat 0)), (.bool false), (.int .i64 (.ofNat 0)), (.int .i64 (.ofNat 0)), (.int .i64 (.ofNat 0))] none true)), (78, (.row [(.int .i64 (.ofNat 0)), (.int .i64 (.ofNat 0)), (.int .i64 (.ofNat 0)), (.int .i64 (.ofNat 0)), (.int .u64 (.ofNat 0)), (.bool false), (.int .i64 (.ofNat 0)), (.int .i64 (.ofNat 0)), (.int .i64 (.ofNat 0))] none true)), (94, (.row [(.bool true), (.int .i64 (.ofNat 0)), (.int .u64 (.ofNat 2)), (.bool true), (.int .i64 (.ofNat 0)), (.int .u64 (.ofNat 2)), (.bool false), (.int .i64 (.ofNat 0)), (.int .u64 (.ofNat 0))] (some (94, 3)) true)), (99, (.row [(.int .i64 (.ofNat 0)), (.int .i64 (.ofNat 0)), (.int .i64 (.ofNat 2)), (.int .i64 (.ofNat 1)), (.int .u64 (.ofNat 0)), (.bool false), (.int .i64 (.ofNat 0)), (.int .i64 (.ofNat 0)), (.int .i64 (.ofNat 0))] none true)), (107, (.row [(.int .i64 (.ofNat 0)), (.int .i64 (.ofNat 0)), (.int .i64 (.ofNat 0)), (.int .i64 (.ofNat 0)), (.int .u64 (.ofNat 0)), (.bool true), (.int .i64 (.ofNat 0)), (.int .i64 (.ofNat 0)), (.int .i64 (.ofNat 0))] none true)), (197, (.row [(.int .i64 (.ofNat 2)), (.int .i64 (.ofNat 0)), (.int .i64 (.ofNat 2)), (.int .i64 (.ofNat 0))] (some (197, 2)) true)), (201, (.row [(.int .i64 (.ofNat 2)), (.int .i64 (.ofNat 0))] (some (201, 2)) true)), (202, (.row [] none true)), (204, (.row [(.int .i64 (.ofNat 1)), (.slice (some ⟨201, 0, none⟩) 1 1), (.slice (some ⟨202, 0, none⟩) 0 0)] (some (204, 3)) true)), (213, (.row [(.slice (some ⟨204, 0, none⟩) 1 1), (.slice (some ⟨197, 0, none⟩) 2 2)] none true))], grps := Tr.pairs [(56, []), (94, []), (197, []), (201, []), (204, [])], next := 352, lo := 0 }
end Go.Proofs.YtoemfmnjebbljaaGreat.Aw33
