/-
  Walks over letters of the functions that the law reaches.
-/
import Derived.Test.YtejdijcokjiobaaGreatD8
namespace Go.AM
attribute [local instance] fnMaps
open Go Go.Proofs
set_option maxRecDepth 100000
section
variable {Hd : Type} {enc : TypeId × Value → Hd} {w : World} {base : Nat} {held : Bool}
theorem opens_span : Opens enc Tryz.prog w base held 65 RSpan := by
  intro fuel cs y h
  obtain ⟨h1, x, h2, h3⟩ := opens_flat (w := w) (n := 5) (t := 65) (ks := [some .i64, some .i64]) (by kernel_rfl) fuel cs y h
  match x, h3 with
  | [a, b], ⟨⟨x, ha⟩, ⟨y, hb⟩, _⟩ => exact ⟨h1, ⟨x, y⟩, by rw [RSpan, h2, ha, hb]⟩
theorem opens_slot : Opens enc Tryz.prog w base held 68 RSlot := by
  intro fuel cs y h
  obtain ⟨h1, x, h2, h3⟩ := opens_flat (w := w) (n := 5) (t := 68) (ks := [none, some .i64, some .u64]) (by kernel_rfl) fuel cs y h
  match x, h3 with
  | [a, b, c], ⟨⟨x, ha⟩, ⟨y, hb⟩, ⟨z, hc⟩, _⟩ => exact ⟨h1, ⟨x, y, z⟩, by rw [RSlot, h2, ha, hb, hc]⟩
theorem trod_bcell {P : Program} {t : TypeId} (ht : P.underlying t = some .bool) {fuel : Nat} {v : Value} {y : DataW Hd × List MemPlace} (h : DataW.trod enc P w base (fun _ => true) held fuel t [v] = some y) : ∃ n, v = .bool n := by
  obtain ⟨n, e, _⟩ := DataW.trod_bool ht h
  simp only [List.cons.injEq, and_true] at e
  exact ⟨n, e⟩
/-- a state that is handed -/
theorem opens_state {r : Reach} {b0 : Nat} {v : Value} {d : DataW Hd} {ps : List MemPlace} (hval : Value.okWide Tryz.prog w r b0 28 v) (hd : DataW.Trod enc Tryz.prog w base (fun _ => true) held 28 v d ps) :
    ∃ cs : List Value, v = .agg cs.toArray ∧ (∀ c ∈ cs, okV w c = true) ∧ ∃ s, StV (wh w) (.agg (cs.map (trV w)).toArray) s := by
  have hv := hval
  obtain ⟨cs, rfl, hsz⟩ := WideShapes.okWide_struct Tryz.underlying28 hval
  obtain ⟨fuel, hd⟩ := hd
  obtain ⟨hl, n, hf⟩ := trod_field Tryz.underlying28 hd
  rw [show Tryz.prog.cellsOf 28 = 10 by kernel_rfl] at hsz hl
  match cs, hsz, hf, hv with
  | ⟨[c0, c1, c2, c3, c4, c5, c6, c7, c8, c9]⟩, _, hf, hv =>
    obtain ⟨z0, h0⟩ := hf 0 _ rfl
    obtain ⟨z1, h1⟩ := hf 1 _ rfl
    obtain ⟨z2, h2⟩ := hf 2 _ rfl
    obtain ⟨z3, h3⟩ := hf 3 _ rfl
    obtain ⟨z4, h4⟩ := hf 4 _ rfl
    obtain ⟨z5, h5⟩ := hf 5 _ rfl
    obtain ⟨z6, h6⟩ := hf 6 _ rfl
    simp only [Value.cells, show Tryz.prog.cellsOf 23 = 4 by kernel_rfl, show Tryz.prog.cellsOf 4 = 1 by kernel_rfl, show Tryz.prog.cellsOf 3 = 1 by kernel_rfl, show Tryz.prog.cellsOf 24 = 1 by kernel_rfl, show Tryz.prog.cellsOf 25 = 1 by kernel_rfl, show Tryz.prog.cellsOf 26 = 1 by kernel_rfl, List.drop_zero, List.drop_succ_cons, List.take_succ_cons, List.take_zero] at h0 h1 h2 h3 h4 h5 h6
    unfold Value.okWide at hv
    rw [Tryz.underlying28] at hv
    obtain ⟨cs', e, _, ts, ht, _, hc⟩ := hv
    simp only [Value.agg.injEq] at e
    subst e
    rw [show Tryz.prog.cellTypes Tryz.prog.depth 28 = some [3, 3, 3, 3, 4, 24, 3, 25, 25, 26] by kernel_rfl] at ht
    simp only [Option.some.injEq] at ht
    subst ht
    obtain ⟨u5, e5, k5⟩ := hc 5 c5 rfl
    obtain ⟨u7, e7, k7⟩ := hc 7 c7 rfl
    obtain ⟨u8, e8, k8⟩ := hc 8 c8 rfl
    obtain ⟨u9, e9, k9⟩ := hc 9 c9 rfl
    simp only [List.length_cons, List.length_nil, Nat.reduceAdd, Nat.reduceMod, List.getElem?_cons_zero, List.getElem?_cons_succ, Option.some.injEq] at e5 e7 e8 e9
    subst e5 e7 e8 e9
    have kc := flatK_ok 5 23 [some .i64, some .i64, some .i64, some .i64] (by kernel_rfl) _ _ _ h0
    obtain ⟨⟨a0, rfl⟩, ⟨a1, rfl⟩, ⟨a2, rfl⟩, ⟨a3, rfl⟩, _⟩ := kc
    obtain ⟨b1, rfl⟩ := trod_bcell Tryz.underlying4 h1
    obtain ⟨n3, rfl⟩ := trod_cell Tryz.underlying3 h3
    obtain ⟨g5, l5, s5⟩ := opens_slice (R := RInt .u64) (z := 1) Tryz.underlying24 (by kernel_rfl) (by omega) (fun _ => opens_int Tryz.underlying41) h2 (fun a l c e => by rw [e] at k5; exact block_of_cell Tryz.underlying24 k5)
    obtain ⟨g7, l7, s7⟩ := opens_slice (R := RSpan) (z := 2) Tryz.underlying25 (by kernel_rfl) (by omega) (fun _ => opens_span) h4 (fun a l c e => by rw [e] at k7; exact block_of_cell Tryz.underlying25 k7)
    obtain ⟨g8, l8, s8⟩ := opens_slice (R := RSpan) (z := 2) Tryz.underlying25 (by kernel_rfl) (by omega) (fun _ => opens_span) h5 (fun a l c e => by rw [e] at k8; exact block_of_cell Tryz.underlying25 k8)
    obtain ⟨g9, l9, s9⟩ := opens_slice (R := RSlot) (z := 3) Tryz.underlying26 (by kernel_rfl) (by omega) (fun _ => opens_slot) h6 (fun a l c e => by rw [e] at k9; exact block_of_cell Tryz.underlying26 k9)
    refine ⟨[_, _, _, _, _, _, _, _, _, _], rfl, ?_, ⟨⟨a0, a1, a2, a3⟩, b1, l5, n3, l7, l8, l9⟩, _, _, _, _, rfl, ⟨s5, okV_rowed g5⟩, ⟨s7, okV_rowed g7⟩, ⟨s8, okV_rowed g8⟩, ⟨s9, okV_rowed g9⟩⟩
    intro c hc
    simp only [List.mem_cons, List.not_mem_nil, or_false] at hc
    rcases hc with rfl | rfl | rfl | rfl | rfl | rfl | rfl | rfl | rfl | rfl <;> first | rfl | assumption
end
theorem okV_rels {w : World} : ∀ {cs : List Value}, (∀ c ∈ cs, okV w c = true) → LRel (wm w) (cs.map (trV w)) cs
  | [], _ => .nil _
  | c :: cs, h => .cons (okV_rel w (h c (by simp))) (okV_rels fun c hc => h c (by simp [hc]))
end Go.AM
