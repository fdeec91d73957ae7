/-
  Walks over letters of the functions that the law reaches.
-/
import Derived.Test.YtbkhcbddbefepaaGreatG4
import Derived.Test.YtbkhcbddbefepaaGreatAMc
set_option linter.unusedSimpArgs false
namespace Go.AM
attribute [local instance] fnMaps
open Go Go.Proofs
set_option maxRecDepth 100000
theorem SL.sub {α : Type} {R S : Heap → List Value → α → Prop} {z : Nat} {H : Heap} {v : Value} {l : List α} (h : SL R z H v l) (hs : ∀ p x, R H p x → S H p x) : SL S z H v l := by
  obtain ⟨a, c, e, hl, h⟩ := h
  refine ⟨a, c, e, hl, fun i x hi => ?_⟩
  obtain ⟨r, o, cells, g, t, part, h1, h2, h3, h4, h5⟩ := h i x hi
  exact ⟨r, o, cells, g, t, part, h1, h2, h3, h4, hs _ _ h5⟩
theorem SL.all {α : Type} {R : Heap → List Value → α → Prop} {Q : α → Prop} {z : Nat} {H : Heap} {v : Value} {l : List α} (h : SL R z H v l) (hq : ∀ p x, R H p x → Q x) : ∀ x ∈ l, Q x := by
  obtain ⟨a, c, e, hl, h⟩ := h
  intro x hx
  obtain ⟨i, hi⟩ := List.mem_iff_getElem?.1 hx
  obtain ⟨r, o, cells, g, t, part, h1, h2, h3, h4, h5⟩ := h i x hi
  exact hq _ _ h5
theorem u64_nat {n : Int} (h : (Lit.int .u64 n).wf = true) : ∃ k : Nat, n = k ∧ k < 2 ^ 64 := by
  have h' : 0 ≤ n ∧ n ≤ 18446744073709551615 := by simpa [Lit.wf, IntKind.min, IntKind.max, IntKind.bits, IntKind.signed] using h
  exact ⟨n.toNat, by omega, by omega⟩
def RWb : Heap → List Value → Nat → Prop := fun _ part n => part = [wV n] ∧ n < 2 ^ 64
def RSlotb : Heap → List Value → Slot → Prop := fun _ part x => part = slotC x ∧ x.word < 2 ^ 64
section
variable {Hd : Type} {enc : TypeId × Value → Hd} {w : World} {base : Nat} {held : Bool}
theorem opens_word : Opens enc Tryz.prog w base held 24 RWb := by
  intro fuel cs y h
  obtain ⟨n, rfl, _, hw⟩ := DataW.trod_int Tryz.underlying24 h
  obtain ⟨k, rfl, hk⟩ := u64_nat hw
  exact ⟨fun v hv => by simp at hv; subst hv; rfl, k, rfl, hk⟩
theorem opens_span : Opens enc Tryz.prog w base held 102 RSpan := by
  intro fuel cs y h
  obtain ⟨h1, x, h2, h3⟩ := opens_flat (w := w) (n := 5) (t := 102) (ks := [some .i64, some .i64]) (by kernel_rfl) fuel cs y h
  match x, h3 with
  | [a, b], ⟨⟨x, ha⟩, ⟨y, hb⟩, _⟩ => exact ⟨h1, ⟨x, y⟩, by rw [RSpan, h2, ha, hb]⟩
theorem trod_bcell {P : Program} {t : TypeId} (ht : P.underlying t = some .bool) {fuel : Nat} {v : Value} {y : DataW Hd × List MemPlace} (h : DataW.trod enc P w base (fun _ => true) held fuel t [v] = some y) : ∃ n, v = .bool n := by
  obtain ⟨n, e, _⟩ := DataW.trod_bool ht h
  simp only [List.cons.injEq, and_true] at e
  exact ⟨n, e⟩
theorem opens_slot : Opens enc Tryz.prog w base held 105 RSlotb := by
  intro fuel cs y h
  obtain ⟨h1, x, h2, h3⟩ := opens_flat (w := w) (n := 5) (t := 105) (ks := [none, some .i64, some .u64]) (by kernel_rfl) fuel cs y h
  obtain ⟨hl, n, hf⟩ := trod_field Tryz.underlying105 h
  rw [show Tryz.prog.cellsOf 105 = 3 by kernel_rfl] at hl
  match cs, hl, h1, h2, hf with
  | [c0, c1, c2], _, h1, h2, hf =>
    obtain ⟨z2, g2⟩ := hf 2 _ rfl
    simp only [show Tryz.prog.cellsOf 24 = 1 by kernel_rfl, List.drop_zero, List.drop_succ_cons, List.take_succ_cons, List.take_zero] at g2
    obtain ⟨m, e, _, hw⟩ := DataW.trod_int Tryz.underlying24 g2
    simp only [List.cons.injEq, and_true] at e
    subst e
    obtain ⟨k, rfl, hk⟩ := u64_nat hw
    match x, h3, h2 with
    | [a, b, c], ⟨⟨x, ha⟩, ⟨y, hb⟩, ⟨z, hc⟩, _⟩, h2 =>
      have h2' := h2
      simp only [List.map_cons, List.map_nil, List.cons.injEq, and_true] at h2'
      refine ⟨h1, ⟨x, y, k⟩, ?_, hk⟩
      rw [h2, ha, hb, ← h2'.2.2]
      rfl
def StP (H : Heap) (v : Value) (s : St) : Prop := ∃ w t f zl, v = stV s w t f zl ∧ StS H s w t f zl ∧ (∀ x ∈ s.words, x < 2 ^ 64) ∧ ∀ x ∈ s.slots, x.word < 2 ^ 64
theorem opens_state {r : Reach} {b0 : Nat} {v : Value} {d : DataW Hd} {ps : List MemPlace} (hval : Value.okWide Tryz.prog w r b0 33 v) (hd : DataW.Trod enc Tryz.prog w base (fun _ => true) held 33 v d ps) :
    ∃ cs : List Value, v = .agg cs.toArray ∧ (∀ c ∈ cs, okV w c = true) ∧ ∃ s, StP (wh w) (.agg (cs.map (trV w)).toArray) s := by
  have hv := hval
  obtain ⟨cs, rfl, hsz⟩ := WideShapes.okWide_struct Tryz.underlying33 hval
  obtain ⟨fuel, hd⟩ := hd
  obtain ⟨hl, n, hf⟩ := trod_field Tryz.underlying33 hd
  rw [show Tryz.prog.cellsOf 33 = 10 by kernel_rfl] at hsz hl
  match cs, hsz, hf, hv with
  | ⟨[c0, c1, c2, c3, c4, c5, c6, c7, c8, c9]⟩, _, hf, hv =>
    obtain ⟨z0, h0⟩ := hf 0 _ rfl
    obtain ⟨z1, h1⟩ := hf 1 _ rfl
    obtain ⟨z2, h2⟩ := hf 2 _ rfl
    obtain ⟨z3, h3⟩ := hf 3 _ rfl
    obtain ⟨z4, h4⟩ := hf 4 _ rfl
    obtain ⟨z5, h5⟩ := hf 5 _ rfl
    obtain ⟨z6, h6⟩ := hf 6 _ rfl
    simp only [Value.cells, show Tryz.prog.cellsOf 28 = 4 by kernel_rfl, show Tryz.prog.cellsOf 4 = 1 by kernel_rfl, show Tryz.prog.cellsOf 3 = 1 by kernel_rfl, show Tryz.prog.cellsOf 29 = 1 by kernel_rfl, show Tryz.prog.cellsOf 30 = 1 by kernel_rfl, show Tryz.prog.cellsOf 31 = 1 by kernel_rfl, List.drop_zero, List.drop_succ_cons, List.take_succ_cons, List.take_zero] at h0 h1 h2 h3 h4 h5 h6
    unfold Value.okWide at hv
    rw [Tryz.underlying33] at hv
    obtain ⟨cs', e, _, ts, ht, _, hc⟩ := hv
    simp only [Value.agg.injEq] at e
    subst e
    rw [show Tryz.prog.cellTypes Tryz.prog.depth 33 = some [3, 3, 3, 3, 4, 29, 3, 30, 30, 31] by kernel_rfl] at ht
    simp only [Option.some.injEq] at ht
    subst ht
    obtain ⟨u5, e5, k5⟩ := hc 5 c5 rfl
    obtain ⟨u7, e7, k7⟩ := hc 7 c7 rfl
    obtain ⟨u8, e8, k8⟩ := hc 8 c8 rfl
    obtain ⟨u9, e9, k9⟩ := hc 9 c9 rfl
    simp only [List.length_cons, List.length_nil, Nat.reduceAdd, Nat.reduceMod, List.getElem?_cons_zero, List.getElem?_cons_succ, Option.some.injEq] at e5 e7 e8 e9
    subst e5 e7 e8 e9
    have kc := flatK_ok 5 28 [some .i64, some .i64, some .i64, some .i64] (by kernel_rfl) _ _ _ h0
    obtain ⟨⟨a0, rfl⟩, ⟨a1, rfl⟩, ⟨a2, rfl⟩, ⟨a3, rfl⟩, _⟩ := kc
    obtain ⟨b1, rfl⟩ := trod_bcell Tryz.underlying4 h1
    obtain ⟨n3, rfl⟩ := trod_cell Tryz.underlying3 h3
    obtain ⟨g5, l5, s5⟩ := opens_slice (R := RWb) (z := 1) Tryz.underlying29 (by kernel_rfl) (by omega) (fun _ => opens_word) h2 (fun a l c e => by rw [e] at k5; exact block_of_cell Tryz.underlying29 k5)
    obtain ⟨g7, l7, s7⟩ := opens_slice (R := RSpan) (z := 2) Tryz.underlying30 (by kernel_rfl) (by omega) (fun _ => opens_span) h4 (fun a l c e => by rw [e] at k7; exact block_of_cell Tryz.underlying30 k7)
    obtain ⟨g8, l8, s8⟩ := opens_slice (R := RSpan) (z := 2) Tryz.underlying30 (by kernel_rfl) (by omega) (fun _ => opens_span) h5 (fun a l c e => by rw [e] at k8; exact block_of_cell Tryz.underlying30 k8)
    obtain ⟨g9, l9, s9⟩ := opens_slice (R := RSlotb) (z := 3) Tryz.underlying31 (by kernel_rfl) (by omega) (fun _ => opens_slot) h6 (fun a l c e => by rw [e] at k9; exact block_of_cell Tryz.underlying31 k9)
    refine ⟨[_, _, _, _, _, _, _, _, _, _], rfl, ?_, ⟨⟨a0, a1, a2, a3⟩, b1, l5, n3, l7, l8, l9⟩, _, _, _, _, rfl, ⟨⟨s5.sub fun _ _ h => h.1, okV_rowed g5⟩, ⟨s7, okV_rowed g7⟩, ⟨s8, okV_rowed g8⟩, ⟨s9.sub fun _ _ h => h.1, okV_rowed g9⟩⟩, s5.all fun _ _ h => h.2, s9.all fun _ _ h => h.2⟩
    intro c hc
    simp only [List.mem_cons, List.not_mem_nil, or_false] at hc
    rcases hc with rfl | rfl | rfl | rfl | rfl | rfl | rfl | rfl | rfl | rfl <;> first | rfl | assumption
theorem opens_opn {r : Reach} {b0 : Nat} {v : Value} {d : DataW Hd} {ps : List MemPlace} (hval : Value.okWide Tryz.prog w r b0 26 v) (hd : DataW.Trod enc Tryz.prog w base (fun _ => true) held 26 v d ps) : ∃ o, v = opV o := by
  obtain ⟨cs, rfl, hsz⟩ := WideShapes.okWide_struct Tryz.underlying26 hval
  obtain ⟨fuel, hd⟩ := hd
  have hk := flatK_ok 5 26 [some .i64, some .i64, some .i64, some .i64, some .i64, some .i64, some .u64, some .i64, some .i64, some .i64, some .u8] (by kernel_rfl) _ _ _ hd
  rw [show Tryz.prog.cellsOf 26 = 11 by kernel_rfl] at hsz
  match cs, hsz, hk with
  | ⟨[c0, c1, c2, c3, c4, c5, c6, c7, c8, c9, c10]⟩, _, hk =>
    obtain ⟨⟨a0, rfl⟩, ⟨a1, rfl⟩, ⟨a2, rfl⟩, ⟨a3, rfl⟩, ⟨a4, rfl⟩, ⟨a5, rfl⟩, ⟨a6, rfl⟩, ⟨a7, rfl⟩, ⟨a8, rfl⟩, ⟨a9, rfl⟩, ⟨a10, rfl⟩, _⟩ := hk
    exact ⟨⟨a0, a1, a2, a3, a4, a5, a6, a7, a8, a9, a10⟩, rfl⟩
end
theorem okV_rels {w : World} : ∀ {cs : List Value}, (∀ c ∈ cs, okV w c = true) → LRel (wm w) (cs.map (trV w)) cs
  | [], _ => .nil _
  | c :: cs, h => .cons (okV_rel w (h c (by simp))) (okV_rels fun c hc => h c (by simp [hc]))
theorem nobody_law2 (H : Heap) (hlo : H.lo ≤ H.next) (o : Opn) {v : Value} {s : St} (h : StP H v s) : CallA E (fnv 3) [opV o, v] H fun r _ => r = .bool true := by
  obtain ⟨w, t, f, zl, rfl, hS, h1, h2⟩ := h
  exact nobody_law H hlo o hS h1 h2
end Go.AM
