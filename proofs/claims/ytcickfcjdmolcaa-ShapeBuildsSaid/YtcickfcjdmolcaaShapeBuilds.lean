/-
  ShapeBuilds is true of every input. No conditions.
-/
import Derived.Test.YtcickfcjdmolcaaRows
import Derived.Test.YtcickfcjdmolcaaT14
import Derived.Test.YtcickfcjdmolcaaBw36
import Derived.WalkKit
namespace Go.Proofs.Ytcickfcjdmolcaa.ShapeBuilds
open Go Go.AM Go.ChangeShapes Go.WideShapes Go.ChangeAt Go.RowKit
attribute [local instance] fnMaps
set_option maxRecDepth 100000

theorem own : ownKnob Try.prog.godebug = none := by kernel_rfl
theorem laid : laidOutB Try.prog = true := by kernel_rfl
theorem named : Try.prog.funcs.toList.all (fun f => !(f.name == "runtime.NumGoroutine")) = true := by kernel_rfl

/-- the machine's tables are the program's -/
theorem hE : EnvOk AM.E where
  ty t i h := @EnvOk.ty trieMaps _ (@EnvOk.of trieMaps Try.prog named) t i (by
    have h1 : Trie.get tyT t = some i := h
    unfold tyT at h1
    exact h1)
  fn _ _ h := h
  num f g h := by
    have h1 : Try.prog.funcs[f]? = some g := h
    have h2 := List.all_eq_true.1 named g (List.mem_of_getElem? (by simpa using h1))
    simpa using h2
theorem hO : OrcOk AM.E :=
  orcOf_ok (E := ⟨Try.prog, fun k => Trie.get tyT k, fun k => Try.prog.funcs[k]?, fun _ _ _ => none⟩) { hE with } fun x hx => by
    simp only [List.mem_singleton] at hx
    subst hx
    exact ⟨rfl, ⟨Try.f5, _, by kernel_rfl, rfl⟩, Bw36.known⟩
theorem agg2 {m : Match} {a b a' b' : Value} (h : VRel m a a') (h' : VRel m b b') : VRel m (.agg #[a, b]) (.agg #[a', b']) := .agg rfl (LRel.cons h (LRel.one h')).2
theorem walk (W : World) (x0 y0 : Value) (g0 : AM.Graph) (kx0 : okV W x0 = true) (ky0 : okV W y0 = true) (hg0 : GraphV (wh W) (.agg #[trV W x0, trV W y0]) g0) (hr0 : Rowed (wh W) (trV W y0)) (a1 : Int) : Calls Try.prog 4 #[.agg #[x0, y0], .int .i64 a1] W fun e W' => e = .returned (.bool true) ∧ AM.Old W.heap.size W W' :=
  calls_of_callA hE hO (H := (wh W)) (args := [.agg #[trV W x0, trV W y0], .int .i64 a1]) (by kernel_rfl) fn4 rfl (builds_law (wh W) (Nat.le_refl _) _ g0 hg0 (fun x y e => by simp only [Value.agg.injEq, Array.mk.injEq, List.cons.injEq, and_true] at e; rw [← e.2]; exact hr0) a1) (plain_eq rfl) (world_rel W) (.cons (agg2 (okV_rel W kx0) (okV_rel W ky0)) (.cons (.int _ _) (.nil _)))

theorem lifted (os : Os) (started : os.Started) (H : Type) (enc : TypeId × Value → H) :
    ReturnsInHanded {} Try.checked os 4 .any (Rows.shapeBuildsSpec.pre6 enc Try.prog Try.f4 Rows.shapeBuildsRow.domain false) (Rows.shapeBuildsSpec.post enc Try.prog Try.f4 false true false false) := by
  refine law_lifted (C := Try.checked) own started (by kernel_rfl) Try.func4
    (ChangeSpec.witness6 (enc := enc) (C := Try.checked) false ⟨#[], #[.agg #[.slice none 0 0, .slice none 0 0], .int .i64 0], []⟩ 8 (by kernel_rfl) (by kernel_rfl) (by kernel_rfl) (by kernel_rfl))
    rfl ?_ (tb := 4) (by kernel_rfl) Try.underlying4 laid (by kernel_rfl) ?_
  · intro ds hds
    match ds, hds with
    | [d0, d1], _ => rfl
  · intro W base args ds before hval hA hlt hfz
    rw [Try.params4] at hA hval
    obtain ⟨v0, vs0, d0, ds0, p0, q0, hargs, rfl, rfl, h0, r0⟩ := trodAll_cons hA
    obtain ⟨v1, vs1, d1, ds1, p1, q1, rfl, rfl, rfl, h1, r1⟩ := trodAll_cons r0
    obtain ⟨rfl, rfl, rfl⟩ := trodAll_nil r1
    obtain rfl : args = #[v0, v1] := by cases args; simp_all
    obtain ⟨x0, y0, g0, rfl, kx0, ky0, hg0, hr0⟩ := opens_graph (hval 0 27 v0 rfl rfl) h0
    obtain ⟨a1, rfl, rfl, rfl, _⟩ := open_int Try.underlying3 (hval 1 3 v1 rfl rfl) h1
    exact walk W x0 y0 g0 kx0 ky0 hg0 hr0 a1

theorem over : Rows.shapeBuildsRow.holds Try.pinned (OpenSpec.ofChange Rows.shapeBuildsSpec) :=
  OpenClaim.holds_of_wide 4 Try.f4 rfl rfl rfl rfl rfl rfl rfl ⟨rfl, rfl, rfl, rfl, rfl⟩ rfl rfl rfl rfl rfl (by kernel_rfl) Try.func4 (by kernel_rfl)
    (of_decide_eq_true (by kernel_rfl)) (by unfold Func.isWrapper; first | (rw [if_pos (by decide +kernel)]; kernel_rfl) | (rw [if_neg (by decide +kernel)]; exact ⟨rfl, rfl⟩))
    (fun os started H enc _ => lifted os started H enc)

theorem proved : Rows.ShapeBuildsSaid := over
#print axioms proved
end Go.Proofs.Ytcickfcjdmolcaa.ShapeBuilds
