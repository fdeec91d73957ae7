/-
  DeltaApplies is true of every input. No conditions.
-/
import Derived.Test.YtejdijcokjiobaaGreatRows
import Derived.Test.YtejdijcokjiobaaGreatE3
import Derived.Test.YtejdijcokjiobaaGreatBw40
import Derived.WalkKit
namespace Go.Proofs.YtejdijcokjiobaaGreat.DeltaApplies
open Go Go.AM Go.ChangeShapes Go.WideShapes Go.ChangeAt Go.RowKit
attribute [local instance] fnMaps
set_option maxRecDepth 100000

theorem own : ownKnob Tryz.prog.godebug = none := by kernel_rfl
theorem laid : laidOutB Tryz.prog = true := by kernel_rfl
theorem named : Tryz.prog.funcs.toList.all (fun f => !(f.name == "runtime.NumGoroutine")) = true := by kernel_rfl

/-- the machine's tables are the program's -/
theorem hE : EnvOk AM.E where
  ty t i h := @EnvOk.ty trieMaps _ (@EnvOk.of trieMaps Tryz.prog named) t i (by
    have h1 : Trie.get tyT t = some i := h
    unfold tyT at h1
    exact h1)
  fn _ _ h := h
  num f g h := by
    have h1 : Tryz.prog.funcs[f]? = some g := h
    have h2 := List.all_eq_true.1 named g (List.mem_of_getElem? (by simpa using h1))
    simpa using h2
theorem hO : OrcOk AM.E :=
  orcOf_ok (E := ⟨Tryz.prog, fun k => Trie.get tyT k, fun k => Tryz.prog.funcs[k]?, fun _ _ _ => none⟩) { hE with } fun x hx => by
    simp only [List.mem_singleton] at hx
    subst hx
    exact ⟨rfl, ⟨Tryz.f6, _, by kernel_rfl, rfl⟩, Bw40.known⟩
theorem agg2 {m : Match} {a b a' b' : Value} (h : VRel m a a') (h' : VRel m b b') : VRel m (.agg #[a, b]) (.agg #[a', b']) := .agg rfl (LRel.cons h (LRel.one h')).2
theorem aggL {m : Match} {l l' : List Value} (h : LRel m l l') : VRel m (.agg l.toArray) (.agg l'.toArray) := .agg (by simpa using h.1) (by simpa using h.2)
theorem walk (W : World) (cs0 : List Value) (s0 : AM.State) (kc0 : ∀ c ∈ cs0, okV W c = true) (hs0 : StV (wh W) (.agg (cs0.map (trV W)).toArray) s0) (a1 : Int) (x2 : Value) (l2 : List Int) (kx2 : okV W x2 = true) (hl2 : SLr (RInt .i64) 1 (wh W) (trV W x2) l2) (x3 : Value) (l3 : List Int) (kx3 : okV W x3 = true) (hl3 : SLr (RInt .u64) 1 (wh W) (trV W x3) l3) : Calls Tryz.prog 4 #[.agg cs0.toArray, .int .i64 a1, x2, x3] W fun e W' => e = .returned (.bool true) ∧ AM.Old W.heap.size W W' :=
  calls_of_callA hE hO (H := (wh W)) (args := [.agg (cs0.map (trV W)).toArray, .int .i64 a1, trV W x2, trV W x3]) (by kernel_rfl) fn4 rfl (applies_law (wh W) (Nat.le_refl _) _ _ _ s0 a1 l2 l3 hs0 hl2.1 hl3.1) (plain_eq rfl) (world_rel W) (.cons (aggL (okV_rels kc0)) (.cons (.int _ _) (.cons (okV_rel W kx2) (.cons (okV_rel W kx3) (.nil _)))))

theorem lifted (os : Os) (started : os.Started) (H : Type) (enc : TypeId × Value → H) :
    ReturnsInHanded {} Tryz.checked os 4 .any (Rows.deltaAppliesSpec.pre6 enc Tryz.prog Tryz.f4 Rows.deltaAppliesRow.domain false) (Rows.deltaAppliesSpec.post enc Tryz.prog Tryz.f4 false true false false) := by
  refine law_lifted (C := Tryz.checked) own started (by kernel_rfl) Tryz.func4
    (ChangeSpec.witness6 (enc := enc) (C := Tryz.checked) false ⟨#[], #[.agg #[.int .i64 0, .int .i64 0, .int .i64 0, .int .i64 0, .bool false, .slice none 0 0, .int .i64 0, .slice none 0 0, .slice none 0 0, .slice none 0 0], .int .i64 0, .slice none 0 0, .slice none 0 0], []⟩ 8 (by kernel_rfl) (by kernel_rfl) (by kernel_rfl) (by kernel_rfl))
    rfl ?_ (tb := 4) (by kernel_rfl) Tryz.underlying4 laid (by kernel_rfl) ?_
  · intro ds hds
    match ds, hds with
    | [d0, d1, d2, d3], _ => rfl
  · intro W base args ds before hval hA hlt hfz
    rw [Tryz.params4] at hA hval
    obtain ⟨v0, vs0, d0, ds0, p0, q0, hargs, rfl, rfl, h0, r0⟩ := trodAll_cons hA
    obtain ⟨v1, vs1, d1, ds1, p1, q1, rfl, rfl, rfl, h1, r1⟩ := trodAll_cons r0
    obtain ⟨v2, vs2, d2, ds2, p2, q2, rfl, rfl, rfl, h2, r2⟩ := trodAll_cons r1
    obtain ⟨v3, vs3, d3, ds3, p3, q3, rfl, rfl, rfl, h3, r3⟩ := trodAll_cons r2
    obtain ⟨rfl, rfl, rfl⟩ := trodAll_nil r3
    obtain rfl : args = #[v0, v1, v2, v3] := by cases args; simp_all
    obtain ⟨cs0, rfl, kc0, s0, hs0⟩ := opens_state (hval 0 28 v0 rfl rfl) h0
    obtain ⟨a1, rfl, rfl, rfl, _⟩ := open_int Tryz.underlying3 (hval 1 3 v1 rfl rfl) h1
    obtain ⟨kx2, l2, hl2⟩ := param_at (hval 2 40 v2 rfl rfl) h2
    obtain ⟨kx3, l3, hl3⟩ := param_words (hval 3 24 v3 rfl rfl) h3
    exact walk W cs0 s0 kc0 hs0 a1 _ l2 kx2 hl2 _ l3 kx3 hl3

theorem over : Rows.deltaAppliesRow.holds Tryz.pinned (OpenSpec.ofChange Rows.deltaAppliesSpec) :=
  OpenClaim.holds_of_wide 4 Tryz.f4 rfl rfl rfl rfl rfl rfl rfl ⟨rfl, rfl, rfl, rfl, rfl⟩ rfl rfl rfl rfl rfl (by kernel_rfl) Tryz.func4 (by kernel_rfl)
    (of_decide_eq_true (by kernel_rfl)) (by unfold Func.isWrapper; first | (rw [if_pos (by decide +kernel)]; kernel_rfl) | (rw [if_neg (by decide +kernel)]; exact ⟨rfl, rfl⟩))
    (fun os started H enc _ => lifted os started H enc)

theorem proved : Rows.DeltaAppliesSaid := over
#print axioms proved
end Go.Proofs.YtejdijcokjiobaaGreat.DeltaApplies
