/-
  TwinsTells is true of every input. No conditions.
-/
import Derived.Test.YtjgppeeplkidpaaGreatRows
import Derived.Test.YtjgppeeplkidpaaGreatGZB
import Derived.Test.YtjgppeeplkidpaaGreatAMc
import Derived.Test.YtjgppeeplkidpaaGreatBw41
import Derived.WalkKit
namespace Go.Proofs.YtjgppeeplkidpaaGreat.TwinsTells
open Go Go.AM Go.ChangeShapes Go.WideShapes Go.ChangeAt Go.RowKit
attribute [local instance] fnMaps
set_option maxRecDepth 100000
set_option maxHeartbeats 4000000

theorem own : ownKnob Tryz.prog.godebug = none := by kernel_rfl
theorem laid : laidOutB Tryz.prog = true := by kernel_rfl
theorem named : Tryz.prog.funcs.toList.all (fun f => !(f.name == "runtime.NumGoroutine")) = true := by kernel_rfl

/-- the machine's tables are the program's -/
theorem hE : EnvOk AM.E where
  ty t i h := @EnvOk.ty trieMaps _ (@EnvOk.of trieMaps Tryz.prog named) t i (by
    have h1 : Trie.get tyT t = some i := h
    unfold tyT at h1
    exact h1)
  fn _ _ h := h
  num f g h := by
    have h1 : Tryz.prog.funcs[f]? = some g := h
    have h2 := List.all_eq_true.1 named g (List.mem_of_getElem? (by simpa using h1))
    simpa using h2
theorem hO : OrcOk AM.E :=
  orcOf_ok (E := ⟨Tryz.prog, fun k => Trie.get tyT k, fun k => Tryz.prog.funcs[k]?, fun _ _ _ => none⟩) { hE with } fun x hx => by
    simp only [List.mem_singleton] at hx
    subst hx
    exact ⟨rfl, ⟨Tryz.f21, _, by kernel_rfl, rfl⟩, fun w _ _ => Bw41.known w⟩
theorem agg2 {m : Match} {a b a' b' : Value} (h : VRel m a a') (h' : VRel m b b') : VRel m (.agg #[a, b]) (.agg #[a', b']) := .agg rfl (LRel.cons h (LRel.one h')).2
theorem aggL {m : Match} {l l' : List Value} (h : LRel m l l') : VRel m (.agg l.toArray) (.agg l'.toArray) := .agg (by simpa using h.1) (by simpa using h.2)
theorem walk (W : World) (x0 : Value) (l0 : List AM.Ans) (kx0 : okV W x0 = true) (hl0 : SLr (RAns) 9 (wh W) (trV W x0) l0) (x1 : Value) (l1 : List AM.Ans) (kx1 : okV W x1 = true) (hl1 : SLr (RAns) 9 (wh W) (trV W x1) l1) (cs2 : List Value) (s2 : AM.St) (kc2 : ∀ c ∈ cs2, okV W c = true) (hs2 : StP (wh W) (.agg (cs2.map (trV W)).toArray) s2) (cs3 : List Value) (s3 : AM.St) (kc3 : ∀ c ∈ cs3, okV W c = true) (hs3 : StP (wh W) (.agg (cs3.map (trV W)).toArray) s3) (x4 : Value) (l4 : List Int) (kx4 : okV W x4 = true) (hl4 : SLr (RInt .i64) 1 (wh W) (trV W x4) l4) (x5 : Value) (l5 : List Int) (kx5 : okV W x5 = true) (hl5 : SLr (RInt .i64) 1 (wh W) (trV W x5) l5) (k6 : AM.Wk4) (y6 : Int) (k7 : AM.Wk4) (y7 : Int) : Calls Tryz.prog 5 #[x0, x1, .agg cs2.toArray, .agg cs3.toArray, x4, x5, workV k6 y6, workV k7 y7] W fun e W' => e = .returned (.bool true) ∧ AM.Old W.heap.size W W' :=
  calls_of_callA hE hO (H := (wh W)) (args := [trV W x0, trV W x1, .agg (cs2.map (trV W)).toArray, .agg (cs3.map (trV W)).toArray, trV W x4, trV W x5, workV k6 y6, workV k7 y7]) (by kernel_rfl) fn5 rfl (tells_law (wh W) (Nat.le_refl _) (wh_alone W) hl0 hl1 hs2 hs3 hl4 hl5 k6 k7 y6 y7) (plain_eq rfl) (world_rel W ⟨Nat.zero_le _, trivial⟩) (.cons (okV_rel W kx0) (.cons (okV_rel W kx1) (.cons (aggL (okV_rels kc2)) (.cons (aggL (okV_rels kc3)) (.cons (okV_rel W kx4) (.cons (okV_rel W kx5) (.cons (plainV_rel rfl) (.cons (plainV_rel rfl) (.nil _)))))))))

theorem lifted (os : Os) (started : os.Started) (H : Type) (enc : TypeId × Value → H) :
    ReturnsInHanded {} Tryz.checked os 5 .any (Rows.twinsTellsSpec.pre6 enc Tryz.prog Tryz.f5 Rows.twinsTellsRow.domain false) (Rows.twinsTellsSpec.post enc Tryz.prog Tryz.f5 false true false false) := by
  refine law_lifted (C := Tryz.checked) own started (by kernel_rfl) Tryz.func5
    (ChangeSpec.witness6 (enc := enc) (C := Tryz.checked) false ⟨#[], #[.slice none 0 0, .slice none 0 0, .agg #[.int .i64 0, .int .i64 0, .int .i64 0, .int .i64 0, .bool false, .slice none 0 0, .int .i64 0, .slice none 0 0, .slice none 0 0, .slice none 0 0], .agg #[.int .i64 0, .int .i64 0, .int .i64 0, .int .i64 0, .bool false, .slice none 0 0, .int .i64 0, .slice none 0 0, .slice none 0 0, .slice none 0 0], .slice none 0 0, .slice none 0 0, .agg #[.int .i64 0, .int .i64 0, .int .i64 0, .int .i64 0, .int .i64 0], .agg #[.int .i64 0, .int .i64 0, .int .i64 0, .int .i64 0, .int .i64 0]], []⟩ 8 (by kernel_rfl) (by kernel_rfl) (by kernel_rfl) (by kernel_rfl))
    rfl ?_ (tb := 4) (by kernel_rfl) Tryz.underlying4 laid (by kernel_rfl) ?_
  · intro ds hds
    match ds, hds with
    | [d0, d1, d2, d3, d4, d5, d6, d7], _ => rfl
  · intro W base args ds before hval hA hlt hfz
    rw [Tryz.params5] at hA hval
    obtain ⟨v0, vs0, d0, ds0, p0, q0, hargs, rfl, rfl, h0, r0⟩ := trodAll_cons hA
    obtain ⟨v1, vs1, d1, ds1, p1, q1, rfl, rfl, rfl, h1, r1⟩ := trodAll_cons r0
    obtain ⟨v2, vs2, d2, ds2, p2, q2, rfl, rfl, rfl, h2, r2⟩ := trodAll_cons r1
    obtain ⟨v3, vs3, d3, ds3, p3, q3, rfl, rfl, rfl, h3, r3⟩ := trodAll_cons r2
    obtain ⟨v4, vs4, d4, ds4, p4, q4, rfl, rfl, rfl, h4, r4⟩ := trodAll_cons r3
    obtain ⟨v5, vs5, d5, ds5, p5, q5, rfl, rfl, rfl, h5, r5⟩ := trodAll_cons r4
    obtain ⟨v6, vs6, d6, ds6, p6, q6, rfl, rfl, rfl, h6, r6⟩ := trodAll_cons r5
    obtain ⟨v7, vs7, d7, ds7, p7, q7, rfl, rfl, rfl, h7, r7⟩ := trodAll_cons r6
    obtain ⟨rfl, rfl, rfl⟩ := trodAll_nil r7
    obtain rfl : args = #[v0, v1, v2, v3, v4, v5, v6, v7] := by cases args; simp_all
    obtain ⟨kx0, l0, hl0⟩ := param_ans (hval 0 44 v0 rfl rfl) h0
    obtain ⟨kx1, l1, hl1⟩ := param_ans (hval 1 44 v1 rfl rfl) h1
    obtain ⟨cs2, rfl, kc2, s2, hs2⟩ := opens_state (hval 2 28 v2 rfl rfl) h2
    obtain ⟨cs3, rfl, kc3, s3, hs3⟩ := opens_state (hval 3 28 v3 rfl rfl) h3
    obtain ⟨kx4, l4, hl4⟩ := param_ints (hval 4 45 v4 rfl rfl) h4
    obtain ⟨kx5, l5, hl5⟩ := param_ints (hval 5 45 v5 rfl rfl) h5
    obtain ⟨k6, y6, rfl⟩ := opens_work (hval 6 30 v6 rfl rfl) h6
    obtain ⟨k7, y7, rfl⟩ := opens_work (hval 7 30 v7 rfl rfl) h7
    exact walk W _ l0 kx0 hl0 _ l1 kx1 hl1 cs2 s2 kc2 hs2 cs3 s3 kc3 hs3 _ l4 kx4 hl4 _ l5 kx5 hl5 k6 y6 k7 y7

theorem inst1 : Tryz.f5.targs.toList.map (Tryz.pinned.checked.prog.typeSigns typeSignsDepth) = Rows.twinsTellsRow.targs.map (fun s => some s.toList) := rfl
theorem inst2 : Tryz.f5.name.toList.contains '[' = false := by decide +kernel
theorem inst : Tryz.f5.isInstance Tryz.pinned.checked.prog Rows.twinsTellsRow.origin Rows.twinsTellsRow.targs := ⟨rfl, inst1, by rw [if_pos (show Rows.twinsTellsRow.origin = "" from rfl)]; exact ⟨rfl, inst2⟩⟩
theorem an {a b : Bool} (h : a = true) (h' : b = true) : (a && b) = true := by rw [h, h']; rfl
/-- part by part: the whole at once wants too much memory -/
theorem closed : joinedFacts Tryz.pinned.checked.prog 5 Tryz.f5 Rows.twinsTellsSpec Rows.twinsTellsRow = true := by
  unfold joinedFacts
  repeat' with_reducible refine an ?_ ?_
  all_goals as_aux_lemma => kernel_rfl
theorem over : Rows.twinsTellsRow.holds Tryz.pinned (OpenSpec.ofChange Rows.twinsTellsSpec) :=
  OpenClaim.holds_of_wide 5 Tryz.f5 rfl rfl rfl rfl rfl rfl rfl ⟨rfl, rfl, rfl, rfl, rfl⟩ rfl rfl rfl rfl rfl (by kernel_rfl) Tryz.func5 closed
    inst (by unfold Func.isWrapper; first | (rw [if_pos (by decide +kernel)]; kernel_rfl) | (rw [if_neg (by decide +kernel)]; exact ⟨rfl, rfl⟩))
    (fun os started H enc _ => lifted os started H enc)

theorem proved : Rows.TwinsTellsSaid := over
#print axioms proved
end Go.Proofs.YtjgppeeplkidpaaGreat.TwinsTells
