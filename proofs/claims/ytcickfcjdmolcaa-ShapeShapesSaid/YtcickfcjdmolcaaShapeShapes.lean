/-
  ShapeShapes is true of every input. No conditions.
-/
import Derived.Test.YtcickfcjdmolcaaRows
import Derived.Test.YtcickfcjdmolcaaS7
import Derived.Test.YtcickfcjdmolcaaBw36
import Derived.WalkKit
namespace Go.Proofs.Ytcickfcjdmolcaa.ShapeShapes
open Go Go.AM Go.ChangeShapes Go.WideShapes Go.ChangeAt Go.RowKit
attribute [local instance] fnMaps
set_option maxRecDepth 100000

theorem own : ownKnob Try.prog.godebug = none := by kernel_rfl
theorem laid : laidOutB Try.prog = true := by kernel_rfl
theorem named : Try.prog.funcs.toList.all (fun f => !(f.name == "runtime.NumGoroutine")) = true := by kernel_rfl

/-- the machine's tables are the program's -/
theorem hE : EnvOk AM.E where
  ty t i h := @EnvOk.ty trieMaps _ (@EnvOk.of trieMaps Try.prog named) t i (by
    have h1 : Trie.get tyT t = some i := h
    unfold tyT at h1
    exact h1)
  fn _ _ h := h
  num f g h := by
    have h1 : Try.prog.funcs[f]? = some g := h
    have h2 := List.all_eq_true.1 named g (List.mem_of_getElem? (by simpa using h1))
    simpa using h2
theorem hO : OrcOk AM.E :=
  orcOf_ok (E := ⟨Try.prog, fun k => Trie.get tyT k, fun k => Try.prog.funcs[k]?, fun _ _ _ => none⟩) { hE with } fun x hx => by
    simp only [List.mem_singleton] at hx
    subst hx
    exact ⟨rfl, ⟨Try.f5, _, by kernel_rfl, rfl⟩, Bw36.known⟩
theorem walk (W : World) (a0 a1 a2 : Int) : Calls Try.prog 3 #[.int .i64 a0, .int .i64 a1, .int .i64 a2] W fun e W' => e = .returned (.bool true) ∧ AM.Old W.heap.size W W' :=
  calls_of_callA hE hO (H := Heap.empty) (args := [.int .i64 a0, .int .i64 a1, .int .i64 a2]) (by kernel_rfl) fn3 rfl (shapes_law Heap.empty (Nat.le_refl _) a0 a1 a2) (plain_eq rfl) (rel_empty W) (plain_refl rfl _)

theorem lifted (os : Os) (started : os.Started) (H : Type) (enc : TypeId × Value → H) :
    ReturnsInHanded {} Try.checked os 3 .any (Rows.shapeShapesSpec.pre6 enc Try.prog Try.f3 Rows.shapeShapesRow.domain false) (Rows.shapeShapesSpec.post enc Try.prog Try.f3 false true false false) := by
  refine law_lifted (C := Try.checked) own started (by kernel_rfl) Try.func3
    (ChangeSpec.witness6 (enc := enc) (C := Try.checked) false ⟨#[], #[.int .i64 0, .int .i64 0, .int .i64 0], []⟩ 8 (by kernel_rfl) (by kernel_rfl) (by kernel_rfl) (by kernel_rfl))
    rfl ?_ (tb := 4) (by kernel_rfl) Try.underlying4 laid (by kernel_rfl) ?_
  · intro ds hds
    match ds, hds with
    | [d0, d1, d2], _ => rfl
  · intro W base args ds before hval hA hlt hfz
    rw [Try.params3] at hA hval
    obtain ⟨v0, vs0, d0, ds0, p0, q0, hargs, rfl, rfl, h0, r0⟩ := trodAll_cons hA
    obtain ⟨v1, vs1, d1, ds1, p1, q1, rfl, rfl, rfl, h1, r1⟩ := trodAll_cons r0
    obtain ⟨v2, vs2, d2, ds2, p2, q2, rfl, rfl, rfl, h2, r2⟩ := trodAll_cons r1
    obtain ⟨rfl, rfl, rfl⟩ := trodAll_nil r2
    obtain rfl : args = #[v0, v1, v2] := by cases args; simp_all
    obtain ⟨a0, rfl, rfl, rfl, _⟩ := open_int Try.underlying3 (hval 0 3 v0 rfl rfl) h0
    obtain ⟨a1, rfl, rfl, rfl, _⟩ := open_int Try.underlying3 (hval 1 3 v1 rfl rfl) h1
    obtain ⟨a2, rfl, rfl, rfl, _⟩ := open_int Try.underlying3 (hval 2 3 v2 rfl rfl) h2
    exact walk W a0 a1 a2

theorem over : Rows.shapeShapesRow.holds Try.pinned (OpenSpec.ofChange Rows.shapeShapesSpec) :=
  OpenClaim.holds_of_wide 3 Try.f3 rfl rfl rfl rfl rfl rfl rfl ⟨rfl, rfl, rfl, rfl, rfl⟩ rfl rfl rfl rfl rfl (by kernel_rfl) Try.func3 (by kernel_rfl)
    (of_decide_eq_true (by kernel_rfl)) (by unfold Func.isWrapper; first | (rw [if_pos (by decide +kernel)]; kernel_rfl) | (rw [if_neg (by decide +kernel)]; exact ⟨rfl, rfl⟩))
    (fun os started H enc _ => lifted os started H enc)

theorem proved : Rows.ShapeShapesSaid := over
#print axioms proved
end Go.Proofs.Ytcickfcjdmolcaa.ShapeShapes
