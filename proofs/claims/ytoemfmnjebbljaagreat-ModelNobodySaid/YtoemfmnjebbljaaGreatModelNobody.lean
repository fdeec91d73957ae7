/-
  ModelNobody is true of every input: nobody's model has nothing. No conditions.
-/
import Derived.Test.YtoemfmnjebbljaaGreatRows
import Derived.Test.YtoemfmnjebbljaaGreatAMc
import Derived.Test.YtoemfmnjebbljaaGreatModelMain
import Derived.WalkKit
namespace Go.Proofs.YtoemfmnjebbljaaGreat.ModelNobody
open Go Go.AM Go.ChangeShapes Go.WideShapes Go.ChangeAt Go.RowKit

theorem own : ownKnob Tryz.prog.godebug = none := by kernel_rfl
theorem laid : laidOutB Tryz.prog = true := by kernel_rfl

set_option maxRecDepth 100000 in
theorem lifted (os : Os) (started : os.Started) (H : Type) (enc : TypeId × Value → H) :
    ReturnsInHanded {} Tryz.checked os 5 .any (Rows.modelNobodySpec.pre6 enc Tryz.prog Tryz.f5 Rows.modelNobodyRow.domain false) (Rows.modelNobodySpec.post enc Tryz.prog Tryz.f5 false true false false) := by
  refine law_lifted (C := Tryz.checked) own started (by kernel_rfl) Tryz.func5
    (ChangeSpec.witness6 (enc := enc) (C := Tryz.checked) false ⟨#[], #[ModelMain.arg 0 0 0 0 0 0 0 0 0 0 0], []⟩ 8 (by kernel_rfl) (by kernel_rfl) (by kernel_rfl) (by kernel_rfl))
    rfl ?_ (tb := 4) (by kernel_rfl) Tryz.underlying4 laid (by kernel_rfl) ?_
  · intro ds hds
    match ds, hds with
    | [d], _ => rfl
  · intro W base args ds before hval hA hlt hfz
    rw [Tryz.params5] at hA hval
    obtain ⟨v0, vs0, d0, ds0, p0, q0, hargs, rfl, rfl, h0, r0⟩ := trodAll_cons hA
    obtain ⟨rfl, rfl, rfl⟩ := trodAll_nil r0
    obtain rfl : args = #[v0] := by cases args; simp_all
    obtain ⟨ns, hns, rfl⟩ := okWide_ints (ts := [3, 3, 3, 3, 3, 2, 24, 3, 3, 3, 5]) (ks := [.i64, .i64, .i64, .i64, .i64, .i64, .u64, .i64, .i64, .i64, .u8]) Tryz.underlying26 (by kernel_rfl) (by kernel_rfl) (by kernel_rfl) (hval 0 26 v0 rfl rfl)
    match ns, hns with
    | [a0, a1, a2, a3, a4, a5, a6, a7, a8, a9, a10], _ =>
      have := ModelMain.walk W a0 a1 a2 a3 a4 a5 a6 a7 a8 a9 a10
      rw [ModelMain.hP] at this
      exact this

theorem over : Rows.modelNobodyRow.holds Tryz.pinned (OpenSpec.ofChange Rows.modelNobodySpec) :=
  OpenClaim.holds_of_wide 5 Tryz.f5 rfl rfl rfl rfl rfl rfl rfl ⟨rfl, rfl, rfl, rfl, rfl⟩ rfl rfl rfl rfl rfl (by kernel_rfl) Tryz.func5 (by kernel_rfl)
    (of_decide_eq_true (by kernel_rfl)) (by unfold Func.isWrapper; first | (rw [if_pos (by decide +kernel)]; kernel_rfl) | (rw [if_neg (by decide +kernel)]; exact ⟨rfl, rfl⟩))
    (fun os started H enc _ => lifted os started H enc)

theorem proved : Rows.ModelNobodySaid := over
#print axioms proved
end Go.Proofs.YtoemfmnjebbljaaGreat.ModelNobody
