/-
  WeakNobody is true of every input. No conditions.
-/
import Derived.Test.YtoemfmnjebbljaaGreatRows
import Derived.Test.YtoemfmnjebbljaaGreatWeakNobodyMain
import Derived.WalkKit
namespace Go.Proofs.YtoemfmnjebbljaaGreat.WeakNobody
open Go Go.AM Go.ChangeShapes Go.WideShapes Go.ChangeAt Go.RowKit

theorem own : ownKnob Tryz.prog.godebug = none := by kernel_rfl
theorem laid : laidOutB Tryz.prog = true := by kernel_rfl

set_option maxRecDepth 100000 in
theorem lifted (os : Os) (started : os.Started) (H : Type) (enc : TypeId × Value → H) :
    ReturnsInHanded {} Tryz.checked os 4 .any (Rows.weakNobodySpec.pre6 enc Tryz.prog Tryz.f4 Rows.weakNobodyRow.domain false) (Rows.weakNobodySpec.post enc Tryz.prog Tryz.f4 false true false false) := by
  refine law_lifted (C := Tryz.checked) own started (by kernel_rfl) Tryz.func4
    (ChangeSpec.witness6 (enc := enc) (C := Tryz.checked) false ⟨#[], #[WeakNobodyMain.arg 0 0 0 0 0 0 0 0 0 0 0, .int .i64 0], []⟩ 8 (by kernel_rfl) (by kernel_rfl) (by kernel_rfl) (by kernel_rfl))
    rfl ?_ (tb := 4) (by kernel_rfl) Tryz.underlying4 laid (by kernel_rfl) ?_
  · intro ds hds
    match ds, hds with
    | [d0, d1], _ => rfl
  · intro W base args ds before hval hA hlt hfz
    rw [Tryz.params4] at hA hval
    obtain ⟨v0, vs0, d0, ds0, p0, q0, hargs, rfl, rfl, h0, r0⟩ := trodAll_cons hA
    obtain ⟨v1, vs1, d1, ds1, p1, q1, rfl, rfl, rfl, h1, r1⟩ := trodAll_cons r0
    obtain ⟨rfl, rfl, rfl⟩ := trodAll_nil r1
    obtain rfl : args = #[v0, v1] := by cases args; simp_all
    obtain ⟨a11, rfl, rfl, rfl, _⟩ := open_int Tryz.underlying3 (hval 1 3 v1 rfl rfl) h1
    obtain ⟨ns, hns, rfl⟩ := okWide_ints (ts := [3, 3, 3, 3, 3, 2, 24, 3, 3, 3, 5]) (ks := [.i64, .i64, .i64, .i64, .i64, .i64, .u64, .i64, .i64, .i64, .u8]) Tryz.underlying26 (by kernel_rfl) (by kernel_rfl) (by kernel_rfl) (hval 0 26 v0 rfl rfl)
    match ns, hns with
    | [a0, a1, a2, a3, a4, a5, a6, a7, a8, a9, a10], _ =>
      have := WeakNobodyMain.walk W a0 a1 a2 a3 a4 a5 a6 a7 a8 a9 a10 a11
      rw [WeakNobodyMain.hP] at this
      exact this

theorem over : Rows.weakNobodyRow.holds Tryz.pinned (OpenSpec.ofChange Rows.weakNobodySpec) :=
  OpenClaim.holds_of_wide 4 Tryz.f4 rfl rfl rfl rfl rfl rfl rfl ⟨rfl, rfl, rfl, rfl, rfl⟩ rfl rfl rfl rfl rfl (by kernel_rfl) Tryz.func4 (by kernel_rfl)
    (of_decide_eq_true (by kernel_rfl)) (by unfold Func.isWrapper; first | (rw [if_pos (by decide +kernel)]; kernel_rfl) | (rw [if_neg (by decide +kernel)]; exact ⟨rfl, rfl⟩))
    (fun os started H enc _ => lifted os started H enc)

theorem proved : Rows.WeakNobodySaid := over
#print axioms proved
end Go.Proofs.YtoemfmnjebbljaaGreat.WeakNobody
