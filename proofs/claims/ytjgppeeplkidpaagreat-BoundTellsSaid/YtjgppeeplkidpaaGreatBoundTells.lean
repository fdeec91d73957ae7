/-
  BoundTells is true of every input. No conditions.
-/
import Derived.Test.YtjgppeeplkidpaaGreatRows
import Derived.Test.YtjgppeeplkidpaaGreatGKH
import Derived.Test.YtjgppeeplkidpaaGreatAMc
import Derived.Test.YtjgppeeplkidpaaGreatBw29
import Derived.WalkKit
namespace Go.Proofs.YtjgppeeplkidpaaGreat.BoundTells
open Go Go.AM Go.ChangeShapes Go.WideShapes Go.ChangeAt Go.RowKit
attribute [local instance] fnMaps
set_option maxRecDepth 100000
set_option maxHeartbeats 4000000

theorem own : ownKnob Tryz.prog.godebug = none := by kernel_rfl
theorem laid : laidOutB Tryz.prog = true := by kernel_rfl
theorem named : Tryz.prog.funcs.toList.all (fun f => !(f.name == "runtime.NumGoroutine")) = true := by kernel_rfl

/-- the machine's tables are the program's -/
theorem hE : EnvOk AM.E where
  ty t i h := @EnvOk.ty trieMaps _ (@EnvOk.of trieMaps Tryz.prog named) t i (by
    have h1 : Trie.get tyT t = some i := h
    unfold tyT at h1
    exact h1)
  fn _ _ h := h
  num f g h := by
    have h1 : Tryz.prog.funcs[f]? = some g := h
    have h2 := List.all_eq_true.1 named g (List.mem_of_getElem? (by simpa using h1))
    simpa using h2
theorem hO : OrcOk AM.E :=
  orcOf_ok (E := ⟨Tryz.prog, fun k => Trie.get tyT k, fun k => Tryz.prog.funcs[k]?, fun _ _ _ => none⟩) { hE with } fun x hx => by
    simp only [List.mem_singleton] at hx
    subst hx
    exact ⟨rfl, ⟨Tryz.f7, _, by kernel_rfl, rfl⟩, fun w _ _ => Bw29.known w⟩
theorem agg2 {m : Match} {a b a' b' : Value} (h : VRel m a a') (h' : VRel m b b') : VRel m (.agg #[a, b]) (.agg #[a', b']) := .agg rfl (LRel.cons h (LRel.one h')).2
theorem aggL {m : Match} {l l' : List Value} (h : LRel m l l') : VRel m (.agg l.toArray) (.agg l'.toArray) := .agg (by simpa using h.1) (by simpa using h.2)
theorem walk (W : World) (cs0 : List Value) (s0 : AM.St) (kc0 : ∀ c ∈ cs0, okV W c = true) (hs0 : StP (wh W) (.agg (cs0.map (trV W)).toArray) s0) (k1 : AM.Wk4) (y1 : Int) : Calls Tryz.prog 3 #[.agg cs0.toArray, workV k1 y1] W fun e W' => e = .returned (.bool true) ∧ AM.Old W.heap.size W W' :=
  calls_of_callA hE hO (H := (wh W)) (args := [.agg (cs0.map (trV W)).toArray, workV k1 y1]) (by kernel_rfl) fn3 rfl (bound_law (wh W) (Nat.le_refl _) (wh_alone W) hs0 k1 y1) (plain_eq rfl) (world_rel W ⟨Nat.zero_le _, trivial⟩) (.cons (aggL (okV_rels kc0)) (.cons (plainV_rel rfl) (.nil _)))

theorem lifted (os : Os) (started : os.Started) (H : Type) (enc : TypeId × Value → H) :
    ReturnsInHanded {} Tryz.checked os 3 .any (Rows.boundTellsSpec.pre6 enc Tryz.prog Tryz.f3 Rows.boundTellsRow.domain false) (Rows.boundTellsSpec.post enc Tryz.prog Tryz.f3 false true false false) := by
  refine law_lifted (C := Tryz.checked) own started (by kernel_rfl) Tryz.func3
    (ChangeSpec.witness6 (enc := enc) (C := Tryz.checked) false ⟨#[], #[.agg #[.int .i64 0, .int .i64 0, .int .i64 0, .int .i64 0, .bool false, .slice none 0 0, .int .i64 0, .slice none 0 0, .slice none 0 0, .slice none 0 0], .agg #[.int .i64 0, .int .i64 0, .int .i64 0, .int .i64 0, .int .i64 0]], []⟩ 8 (by kernel_rfl) (by kernel_rfl) (by kernel_rfl) (by kernel_rfl))
    rfl ?_ (tb := 4) (by kernel_rfl) Tryz.underlying4 laid (by kernel_rfl) ?_
  · intro ds hds
    match ds, hds with
    | [d0, d1], _ => rfl
  · intro W base args ds before hval hA hlt hfz
    rw [Tryz.params3] at hA hval
    obtain ⟨v0, vs0, d0, ds0, p0, q0, hargs, rfl, rfl, h0, r0⟩ := trodAll_cons hA
    obtain ⟨v1, vs1, d1, ds1, p1, q1, rfl, rfl, rfl, h1, r1⟩ := trodAll_cons r0
    obtain ⟨rfl, rfl, rfl⟩ := trodAll_nil r1
    obtain rfl : args = #[v0, v1] := by cases args; simp_all
    obtain ⟨cs0, rfl, kc0, s0, hs0⟩ := opens_state (hval 0 28 v0 rfl rfl) h0
    obtain ⟨k1, y1, rfl⟩ := opens_work (hval 1 30 v1 rfl rfl) h1
    exact walk W cs0 s0 kc0 hs0 k1 y1

theorem inst1 : Tryz.f3.targs.toList.map (Tryz.pinned.checked.prog.typeSigns typeSignsDepth) = Rows.boundTellsRow.targs.map (fun s => some s.toList) := rfl
theorem inst2 : Tryz.f3.name.toList.contains '[' = false := by decide +kernel
theorem inst : Tryz.f3.isInstance Tryz.pinned.checked.prog Rows.boundTellsRow.origin Rows.boundTellsRow.targs := ⟨rfl, inst1, by rw [if_pos (show Rows.boundTellsRow.origin = "" from rfl)]; exact ⟨rfl, inst2⟩⟩
theorem an {a b : Bool} (h : a = true) (h' : b = true) : (a && b) = true := by rw [h, h']; rfl
/-- part by part: the whole at once wants too much memory -/
theorem closed : joinedFacts Tryz.pinned.checked.prog 3 Tryz.f3 Rows.boundTellsSpec Rows.boundTellsRow = true := by
  unfold joinedFacts
  repeat' with_reducible refine an ?_ ?_
  all_goals as_aux_lemma => kernel_rfl
theorem over : Rows.boundTellsRow.holds Tryz.pinned (OpenSpec.ofChange Rows.boundTellsSpec) :=
  OpenClaim.holds_of_wide 3 Tryz.f3 rfl rfl rfl rfl rfl rfl rfl ⟨rfl, rfl, rfl, rfl, rfl⟩ rfl rfl rfl rfl rfl (by kernel_rfl) Tryz.func3 closed
    inst (by unfold Func.isWrapper; first | (rw [if_pos (by decide +kernel)]; kernel_rfl) | (rw [if_neg (by decide +kernel)]; exact ⟨rfl, rfl⟩))
    (fun os started H enc _ => lifted os started H enc)

theorem proved : Rows.BoundTellsSaid := over
#print axioms proved
end Go.Proofs.YtjgppeeplkidpaaGreat.BoundTells
