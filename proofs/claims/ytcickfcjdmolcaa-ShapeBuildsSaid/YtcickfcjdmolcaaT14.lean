/-
  Walks over letters of the functions that the law reaches.
-/
import Derived.Test.YtcickfcjdmolcaaT13
import Derived.Test.YtcickfcjdmolcaaAMc
namespace Go.AM
attribute [local instance] fnMaps
open Go Go.Proofs
set_option maxRecDepth 100000
section
variable {Hd : Type} {enc : TypeId × Value → Hd} {w : World} {base : Nat} {held : Bool}
theorem opens_val : Opens enc Try.prog w base held 34 RVal := by
  intro fuel cs y h
  obtain ⟨hl, n, hf⟩ := trod_field Try.underlying34 h
  rw [show Try.prog.cellsOf 34 = 2 by kernel_rfl] at hl
  match cs, hl with
  | [c0, c1], _ =>
    obtain ⟨z0, h0⟩ := hf 0 _ rfl
    obtain ⟨z1, h1⟩ := hf 1 _ rfl
    simp only [show Try.prog.cellsOf 3 = 1 by kernel_rfl, show Try.prog.cellsOf 2 = 1 by kernel_rfl, List.drop_zero, List.drop_succ_cons, List.take_succ_cons, List.take_zero] at h0 h1
    obtain ⟨k, rfl⟩ := trod_cell Try.underlying3 h0
    obtain ⟨x, rfl⟩ := trod_cell Try.underlying2 h1
    exact ⟨fun v hv => by simp at hv; rcases hv with rfl | rfl <;> rfl, ⟨k, x⟩, rfl⟩
theorem opens_vals {fuel : Nat} {v : Value} {y : DataW Hd × List MemPlace} (h : DataW.trod enc Try.prog w base (fun _ => true) held fuel 25 [v] = some y) (hb : ∀ a l c, v = .slice (some a) l c → (someBlock w).isSome = true) : okV w v = true ∧ ∃ l, SL RVal 2 (wh w) (trV w v) l := by
  obtain ⟨v', e, h1, h2⟩ := SL.ofTrod (R := RVal) (z := 2) Try.underlying25 (by kernel_rfl) (by omega) (fun _ => opens_val) h (fun a l c e => hb a l c (by simpa using e))
  simp only [List.cons.injEq, and_true] at e
  subst e
  exact ⟨h1, h2⟩
theorem opens_ints {fuel : Nat} {v : Value} {y : DataW Hd × List MemPlace} (h : DataW.trod enc Try.prog w base (fun _ => true) held fuel 44 [v] = some y) (hb : ∀ a l c, v = .slice (some a) l c → (someBlock w).isSome = true) : okV w v = true ∧ ∃ l, SL (RInt .u64) 1 (wh w) (trV w v) l := by
  obtain ⟨v', e, h1, h2⟩ := SL.ofTrod (R := RInt .u64) (z := 1) Try.underlying44 (by kernel_rfl) (by omega) (fun _ => opens_int Try.underlying40) h (fun a l c e => hb a l c (by simpa using e))
  simp only [List.cons.injEq, and_true] at e
  subst e
  exact ⟨h1, h2⟩
theorem opens_node (hs : (someBlock w).isSome = true) : Opens enc Try.prog w base held 46 RNode := by
  intro fuel cs y h
  obtain ⟨hl, n, hf⟩ := trod_field Try.underlying46 h
  rw [show Try.prog.cellsOf 46 = 3 by kernel_rfl] at hl
  match cs, hl with
  | [c0, c1, c2], _ =>
    obtain ⟨z0, h0⟩ := hf 0 _ rfl
    obtain ⟨z1, h1⟩ := hf 1 _ rfl
    obtain ⟨z2, h2⟩ := hf 2 _ rfl
    simp only [show Try.prog.cellsOf 3 = 1 by kernel_rfl, show Try.prog.cellsOf 25 = 1 by kernel_rfl, show Try.prog.cellsOf 44 = 1 by kernel_rfl, List.drop_zero, List.drop_succ_cons, List.take_succ_cons, List.take_zero] at h0 h1 h2
    obtain ⟨k, rfl⟩ := trod_cell Try.underlying3 h0
    obtain ⟨k1, f, g1⟩ := opens_vals h1 (fun _ _ _ _ => hs)
    obtain ⟨k2, r, g2⟩ := opens_ints h2 (fun _ _ _ _ => hs)
    exact ⟨fun v hv => by simp at hv; rcases hv with rfl | rfl | rfl <;> first | rfl | assumption, ⟨k, f, r⟩, _, _, rfl, g1, g2⟩
/-- a graph that is handed -/
theorem opens_graph {r : Reach} {b0 : Nat} {v : Value} {d : DataW Hd} {ps : List MemPlace} (hval : Value.okWide Try.prog w r b0 27 v) (hd : DataW.Trod enc Try.prog w base (fun _ => true) held 27 v d ps) :
    ∃ c0 c1 g, v = .agg #[c0, c1] ∧ okV w c0 = true ∧ okV w c1 = true ∧ GraphV (wh w) (.agg #[trV w c0, trV w c1]) g ∧ Rowed (wh w) (trV w c1) := by
  have hv := hval
  obtain ⟨cs, rfl, hsz⟩ := WideShapes.okWide_struct Try.underlying27 hval
  obtain ⟨fuel, hd⟩ := hd
  obtain ⟨hl, n, hf⟩ := trod_field Try.underlying27 hd
  rw [show Try.prog.cellsOf 27 = 2 by kernel_rfl] at hsz hl
  match cs, hsz, hf, hv with
  | ⟨[c0, c1]⟩, _, hf, hv =>
    obtain ⟨z0, h0⟩ := hf 0 _ rfl
    obtain ⟨z1, h1⟩ := hf 1 _ rfl
    simp only [Value.cells, show Try.prog.cellsOf 24 = 1 by kernel_rfl, show Try.prog.cellsOf 25 = 1 by kernel_rfl, List.drop_zero, List.drop_succ_cons, List.take_succ_cons, List.take_zero] at h0 h1
    unfold Value.okWide at hv
    rw [Try.underlying27] at hv
    obtain ⟨cs', e, _, ts, ht, _, hc⟩ := hv
    simp only [Value.agg.injEq] at e
    subst e
    rw [show Try.prog.cellTypes Try.prog.depth 27 = some [24, 25] by kernel_rfl] at ht
    simp only [Option.some.injEq] at ht
    subst ht
    obtain ⟨u0, e0, k0⟩ := hc 0 c0 rfl
    obtain ⟨u1, e1, k1⟩ := hc 1 c1 rfl
    simp only [List.length_cons, List.length_nil, Nat.zero_mod, Nat.reduceAdd, Nat.reduceMod, List.getElem?_cons_zero, List.getElem?_cons_succ, Option.some.injEq] at e0 e1
    subst e0 e1
    have b0 : ∀ a l c, c0 = .slice (some a) l c → (someBlock w).isSome = true := fun a l c e => by rw [e] at k0; exact block_of_cell Try.underlying24 k0
    have b1 : ∀ a l c, c1 = .slice (some a) l c → (someBlock w).isSome = true := fun a l c e => by rw [e] at k1; exact block_of_cell Try.underlying25 k1
    obtain ⟨v', e, g0, l0, s0⟩ := SL.ofTrod (R := RNode) (z := 3) Try.underlying24 (by kernel_rfl) (by omega) (fun hs => opens_node hs) h0 (fun a l c e => b0 a l c (by simpa using e))
    simp only [List.cons.injEq, and_true] at e
    subst e
    obtain ⟨g1, l1, s1⟩ := opens_vals h1 b1
    exact ⟨c0, c1, ⟨l0, l1⟩, rfl, g0, g1, ⟨_, _, rfl, s0, s1⟩, okV_rowed g1⟩
end
end Go.AM
