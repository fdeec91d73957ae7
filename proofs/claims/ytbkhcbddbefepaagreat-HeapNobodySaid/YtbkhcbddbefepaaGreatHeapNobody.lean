/-
  HeapNobody is true of every input. No conditions.
-/
import Derived.Test.YtbkhcbddbefepaaGreatRows
import Derived.Test.YtbkhcbddbefepaaGreatG5
import Derived.Test.YtbkhcbddbefepaaGreatBw30
import Derived.WalkKit
namespace Go.Proofs.YtbkhcbddbefepaaGreat.HeapNobody
open Go Go.AM Go.ChangeShapes Go.WideShapes Go.ChangeAt Go.RowKit
attribute [local instance] fnMaps
set_option maxRecDepth 100000

theorem own : ownKnob Tryz.prog.godebug = none := by kernel_rfl
theorem laid : laidOutB Tryz.prog = true := by kernel_rfl
theorem named : Tryz.prog.funcs.toList.all (fun f => !(f.name == "runtime.NumGoroutine")) = true := by kernel_rfl

/-- the machine's tables are the program's -/
theorem hE : EnvOk AM.E where
  ty t i h := @EnvOk.ty trieMaps _ (@EnvOk.of trieMaps Tryz.prog named) t i (by
    have h1 : Trie.get tyT t = some i := h
    unfold tyT at h1
    exact h1)
  fn _ _ h := h
  num f g h := by
    have h1 : Tryz.prog.funcs[f]? = some g := h
    have h2 := List.all_eq_true.1 named g (List.mem_of_getElem? (by simpa using h1))
    simpa using h2
theorem hO : OrcOk AM.E :=
  orcOf_ok (E := ⟨Tryz.prog, fun k => Trie.get tyT k, fun k => Tryz.prog.funcs[k]?, fun _ _ _ => none⟩) { hE with } fun x hx => by
    simp only [List.mem_singleton] at hx
    subst hx
    exact ⟨rfl, ⟨Tryz.f5, _, by kernel_rfl, rfl⟩, Bw30.known⟩
theorem agg2 {m : Match} {a b a' b' : Value} (h : VRel m a a') (h' : VRel m b b') : VRel m (.agg #[a, b]) (.agg #[a', b']) := .agg rfl (LRel.cons h (LRel.one h')).2
theorem aggL {m : Match} {l l' : List Value} (h : LRel m l l') : VRel m (.agg l.toArray) (.agg l'.toArray) := .agg (by simpa using h.1) (by simpa using h.2)
theorem walk (W : World) (o0 : AM.Opn) (cs1 : List Value) (s1 : AM.St) (kc1 : ∀ c ∈ cs1, okV W c = true) (hs1 : StP (wh W) (.agg (cs1.map (trV W)).toArray) s1) : Calls Tryz.prog 3 #[opV o0, .agg cs1.toArray] W fun e W' => e = .returned (.bool true) ∧ AM.Old W.heap.size W W' :=
  calls_of_callA hE hO (H := (wh W)) (args := [opV o0, .agg (cs1.map (trV W)).toArray]) (by kernel_rfl) fn3 rfl (nobody_law2 (wh W) (Nat.le_refl _) o0 hs1) (plain_eq rfl) (world_rel W) (.cons (plainV_rel rfl) (.cons (aggL (okV_rels kc1)) (.nil _)))

theorem lifted (os : Os) (started : os.Started) (H : Type) (enc : TypeId × Value → H) :
    ReturnsInHanded {} Tryz.checked os 3 .any (Rows.heapNobodySpec.pre6 enc Tryz.prog Tryz.f3 Rows.heapNobodyRow.domain false) (Rows.heapNobodySpec.post enc Tryz.prog Tryz.f3 false true false false) := by
  refine law_lifted (C := Tryz.checked) own started (by kernel_rfl) Tryz.func3
    (ChangeSpec.witness6 (enc := enc) (C := Tryz.checked) false ⟨#[], #[.agg #[.int .i64 0, .int .i64 0, .int .i64 0, .int .i64 0, .int .i64 0, .int .i64 0, .int .u64 0, .int .i64 0, .int .i64 0, .int .i64 0, .int .u8 0], .agg #[.int .i64 0, .int .i64 0, .int .i64 0, .int .i64 0, .bool false, .slice none 0 0, .int .i64 0, .slice none 0 0, .slice none 0 0, .slice none 0 0]], []⟩ 8 (by kernel_rfl) (by kernel_rfl) (by kernel_rfl) (by kernel_rfl))
    rfl ?_ (tb := 4) (by kernel_rfl) Tryz.underlying4 laid (by kernel_rfl) ?_
  · intro ds hds
    match ds, hds with
    | [d0, d1], _ => rfl
  · intro W base args ds before hval hA hlt hfz
    rw [Tryz.params3] at hA hval
    obtain ⟨v0, vs0, d0, ds0, p0, q0, hargs, rfl, rfl, h0, r0⟩ := trodAll_cons hA
    obtain ⟨v1, vs1, d1, ds1, p1, q1, rfl, rfl, rfl, h1, r1⟩ := trodAll_cons r0
    obtain ⟨rfl, rfl, rfl⟩ := trodAll_nil r1
    obtain rfl : args = #[v0, v1] := by cases args; simp_all
    obtain ⟨o0, rfl⟩ := opens_opn (hval 0 26 v0 rfl rfl) h0
    obtain ⟨cs1, rfl, kc1, s1, hs1⟩ := opens_state (hval 1 33 v1 rfl rfl) h1
    exact walk W o0 cs1 s1 kc1 hs1

theorem over : Rows.heapNobodyRow.holds Tryz.pinned (OpenSpec.ofChange Rows.heapNobodySpec) :=
  OpenClaim.holds_of_wide 3 Tryz.f3 rfl rfl rfl rfl rfl rfl rfl ⟨rfl, rfl, rfl, rfl, rfl⟩ rfl rfl rfl rfl rfl (by kernel_rfl) Tryz.func3 (by kernel_rfl)
    (of_decide_eq_true (by kernel_rfl)) (by unfold Func.isWrapper; first | (rw [if_pos (by decide +kernel)]; kernel_rfl) | (rw [if_neg (by decide +kernel)]; exact ⟨rfl, rfl⟩))
    (fun os started H enc _ => lifted os started H enc)

theorem proved : Rows.HeapNobodySaid := over
#print axioms proved
end Go.Proofs.YtbkhcbddbefepaaGreat.HeapNobody
