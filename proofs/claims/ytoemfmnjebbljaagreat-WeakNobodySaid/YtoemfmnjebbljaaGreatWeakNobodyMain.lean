/-
  WeakNobody's own text run by the abstract machine, whatever the numbers are that it is given (its 'awake' is known): it comes to true.
-/
import Derived.Test.YtoemfmnjebbljaaGreatBw43
namespace Go.Proofs.YtoemfmnjebbljaaGreat.WeakNobodyMain
open Go Go.AM
set_option maxRecDepth 100000
noncomputable def E : Env := Bw43.E.with (orcOf [(21, .bool true)])
noncomputable def fn : Func := (E.fn.get 4).getD default
noncomputable def body : Code := fn.body.getD .skip
theorem hE : EnvOk E := EnvOk.with Bw43.hE _
theorem hO : OrcOk E := orcOf_ok Bw43.hE fun x hx => by
  simp only [List.mem_singleton] at hx
  subst hx
  exact Bw43.knows
theorem hfn : E.fn.get 4 = some fn := by kernel_rfl
theorem hbody : fn.body = some body := by kernel_rfl
def arg (a0 a1 a2 a3 a4 a5 a6 a7 a8 a9 a10 : Int) : Value := .agg #[.int .i64 a0, .int .i64 a1, .int .i64 a2, .int .i64 a3, .int .i64 a4, .int .i64 a5, .int .u64 a6, .int .i64 a7, .int .i64 a8, .int .i64 a9, .int .u8 a10]
def args (a0 a1 a2 a3 a4 a5 a6 a7 a8 a9 a10 a11 : Int) : List Value := [arg a0 a1 a2 a3 a4 a5 a6 a7 a8 a9 a10, .int .i64 a11]
theorem main (a0 a1 a2 a3 a4 a5 a6 a7 a8 a9 a10 a11 : Int) : endN E 1000000 fn (flat body) { T := Tr.of (args a0 a1 a2 a3 a4 a5 a6 a7 a8 a9 a10 a11), size := fn.ntmps, marks := [], round := none } Heap.empty = some (.bool true) := by kernel_rfl
theorem hlen : Nat.ble 2 fn.ntmps = true := by kernel_rfl
theorem walk (W : World) (a0 a1 a2 a3 a4 a5 a6 a7 a8 a9 a10 a11 : Int) : Calls E.P 4 #[arg a0 a1 a2 a3 a4 a5 a6 a7 a8 a9 a10, .int .i64 a11] W fun e W' => e = .returned (.bool true) ∧ AM.Old W.heap.size W W' :=
  calls_of_ends (args := args a0 a1 a2 a3 a4 a5 a6 a7 a8 a9 a10 a11) hE hfn hbody (Nat.le_of_ble_eq_true hlen) (AM.Ends.last hE hO (main a0 a1 a2 a3 a4 a5 a6 a7 a8 a9 a10 a11)) (plain_eq rfl) (rel_empty W) (plain_refl rfl _)
theorem hP : E.P = Tryz.prog := by kernel_rfl
end Go.Proofs.YtoemfmnjebbljaaGreat.WeakNobodyMain
