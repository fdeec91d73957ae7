/-
  TurnLists is true of every input. No conditions.
-/
import Derived.Test.YtfaplhodeekjnaaGreatRows
import Derived.Test.YtfaplhodeekjnaaGreatQQ
import Derived.Test.YtfaplhodeekjnaaGreatBw24
import Derived.WalkKit
namespace Go.Proofs.YtfaplhodeekjnaaGreat.TurnLists
open Go Go.AM Go.ChangeShapes Go.WideShapes Go.ChangeAt Go.RowKit
attribute [local instance] fnMaps
set_option maxRecDepth 100000

theorem own : ownKnob Tryz.prog.godebug = none := by kernel_rfl
theorem laid : laidOutB Tryz.prog = true := by kernel_rfl
theorem named : Tryz.prog.funcs.toList.all (fun f => !(f.name == "runtime.NumGoroutine")) = true := by kernel_rfl

/-- the machine's tables are the program's -/
theorem hE : EnvOk AM.E where
  ty t i h := @EnvOk.ty trieMaps _ (@EnvOk.of trieMaps Tryz.prog named) t i (by
    have h1 : Trie.get tyT t = some i := h
    unfold tyT at h1
    exact h1)
  fn _ _ h := h
  num f g h := by
    have h1 : Tryz.prog.funcs[f]? = some g := h
    have h2 := List.all_eq_true.1 named g (List.mem_of_getElem? (by simpa using h1))
    simpa using h2
theorem hO : OrcOk AM.E :=
  orcOf_ok (E := ⟨Tryz.prog, fun k => Trie.get tyT k, fun k => Tryz.prog.funcs[k]?, fun _ _ _ => none⟩) { hE with } fun x hx => by
    simp only [List.mem_singleton] at hx
    subst hx
    exact ⟨rfl, ⟨Tryz.f4, _, by kernel_rfl, rfl⟩, Bw24.known⟩
theorem agg2 {m : Match} {a b a' b' : Value} (h : VRel m a a') (h' : VRel m b b') : VRel m (.agg #[a, b]) (.agg #[a', b']) := .agg rfl (LRel.cons h (LRel.one h')).2
theorem aggL {m : Match} {l l' : List Value} (h : LRel m l l') : VRel m (.agg l.toArray) (.agg l'.toArray) := .agg (by simpa using h.1) (by simpa using h.2)
theorem walk (W : World) (a0 : Int) (a1 : Int) (a2 : Int) : Calls Tryz.prog 3 #[.int .i64 a0, .int .i64 a1, .int .i64 a2] W fun e W' => e = .returned (.bool true) ∧ AM.Old W.heap.size W W' :=
  calls_of_callA hE hO (H := Heap.empty) (args := [.int .i64 a0, .int .i64 a1, .int .i64 a2]) (by kernel_rfl) fn3 rfl (lists_law Heap.empty (Nat.le_refl _) a0 a1 a2) (plain_eq rfl) (rel_empty W) (.cons (.int _ _) (.cons (.int _ _) (.cons (.int _ _) (.nil _))))

theorem lifted (os : Os) (started : os.Started) (H : Type) (enc : TypeId × Value → H) :
    ReturnsInHanded {} Tryz.checked os 3 .any (Rows.turnListsSpec.pre6 enc Tryz.prog Tryz.f3 Rows.turnListsRow.domain false) (Rows.turnListsSpec.post enc Tryz.prog Tryz.f3 false true false false) := by
  refine law_lifted (C := Tryz.checked) own started (by kernel_rfl) Tryz.func3
    (ChangeSpec.witness6 (enc := enc) (C := Tryz.checked) false ⟨#[], #[.int .i64 0, .int .i64 0, .int .i64 0], []⟩ 8 (by kernel_rfl) (by kernel_rfl) (by kernel_rfl) (by kernel_rfl))
    rfl ?_ (tb := 4) (by kernel_rfl) Tryz.underlying4 laid (by kernel_rfl) ?_
  · intro ds hds
    match ds, hds with
    | [d0, d1, d2], _ => rfl
  · intro W base args ds before hval hA hlt hfz
    rw [Tryz.params3] at hA hval
    obtain ⟨v0, vs0, d0, ds0, p0, q0, hargs, rfl, rfl, h0, r0⟩ := trodAll_cons hA
    obtain ⟨v1, vs1, d1, ds1, p1, q1, rfl, rfl, rfl, h1, r1⟩ := trodAll_cons r0
    obtain ⟨v2, vs2, d2, ds2, p2, q2, rfl, rfl, rfl, h2, r2⟩ := trodAll_cons r1
    obtain ⟨rfl, rfl, rfl⟩ := trodAll_nil r2
    obtain rfl : args = #[v0, v1, v2] := by cases args; simp_all
    obtain ⟨a0, rfl, rfl, rfl, _⟩ := open_int Tryz.underlying3 (hval 0 3 v0 rfl rfl) h0
    obtain ⟨a1, rfl, rfl, rfl, _⟩ := open_int Tryz.underlying3 (hval 1 3 v1 rfl rfl) h1
    obtain ⟨a2, rfl, rfl, rfl, _⟩ := open_int Tryz.underlying3 (hval 2 3 v2 rfl rfl) h2
    exact walk W a0 a1 a2

theorem over : Rows.turnListsRow.holds Tryz.pinned (OpenSpec.ofChange Rows.turnListsSpec) :=
  OpenClaim.holds_of_wide 3 Tryz.f3 rfl rfl rfl rfl rfl rfl rfl ⟨rfl, rfl, rfl, rfl, rfl⟩ rfl rfl rfl rfl rfl (by kernel_rfl) Tryz.func3 (by kernel_rfl)
    (of_decide_eq_true (by kernel_rfl)) (by unfold Func.isWrapper; first | (rw [if_pos (by decide +kernel)]; kernel_rfl) | (rw [if_neg (by decide +kernel)]; exact ⟨rfl, rfl⟩))
    (fun os started H enc _ => lifted os started H enc)

theorem proved : Rows.TurnListsSaid := over
#print axioms proved
end Go.Proofs.YtfaplhodeekjnaaGreat.TurnLists
