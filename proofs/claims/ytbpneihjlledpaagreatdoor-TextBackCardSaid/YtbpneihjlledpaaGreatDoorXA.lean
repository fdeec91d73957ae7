/-
  Walks over letters of the functions that the law reaches.
-/
import Derived.Test.YtbpneihjlledpaaGreatDoorX20
import Derived.Test.YtbpneihjlledpaaGreatDoorAMc
set_option linter.unusedSimpArgs false
set_option linter.unusedVariables false
set_option linter.unusedSectionVars false
namespace Go.AM
variable [Orc13]
attribute [local instance] fnMaps
open Go Go.Proofs
set_option maxRecDepth 100000
section
variable {Hd : Type} {enc : TypeId × Value → Hd} {P : Program} {w : World} {base : Nat} {held : Bool}
theorem trod_i64 {t : TypeId} (ht : P.underlying t = some (.int .i64)) {fuel : Nat} {v : Value} {y : DataW Hd × List MemPlace} (h : DataW.trod enc P w base (fun _ => true) held fuel t [v] = some y) : ∃ n, v = .int .i64 n ∧ i64 n := by
  obtain ⟨n, e, _, w0⟩ := DataW.trod_int ht h
  simp only [List.cons.injEq, and_true] at e
  exact ⟨n, e, by unfold i64; simpa [Lit.wf, IntKind.min, IntKind.max, IntKind.bits, IntKind.signed] using w0⟩
theorem trod_u64 {t : TypeId} (ht : P.underlying t = some (.int .u64)) {fuel : Nat} {v : Value} {y : DataW Hd × List MemPlace} (h : DataW.trod enc P w base (fun _ => true) held fuel t [v] = some y) : ∃ n : Nat, v = .int .u64 n ∧ n < 2 ^ 64 := by
  obtain ⟨n, e, _, w0⟩ := DataW.trod_int ht h
  simp only [List.cons.injEq, and_true] at e
  have : 0 ≤ n ∧ n ≤ 18446744073709551615 := by simpa [Lit.wf, IntKind.min, IntKind.max, IntKind.bits, IntKind.signed] using w0
  exact ⟨n.toNat, by rw [e, Int.toNat_of_nonneg this.1], by omega⟩
theorem trod_u8 {t : TypeId} (ht : P.underlying t = some (.int .u8)) {fuel : Nat} {v : Value} {y : DataW Hd × List MemPlace} (h : DataW.trod enc P w base (fun _ => true) held fuel t [v] = some y) : ∃ n, v = .int .u8 n ∧ 0 ≤ n ∧ n ≤ 255 := by
  obtain ⟨n, e, _, w0⟩ := DataW.trod_int ht h
  simp only [List.cons.injEq, and_true] at e
  exact ⟨n, e, by simpa [Lit.wf, IntKind.min, IntKind.max, IntKind.bits, IntKind.signed] using w0⟩
theorem trod_tval {fuel : Nat} {a b : Value} {y : DataW Hd × List MemPlace} (h : DataW.trod enc Tryz.prog w base (fun _ => true) held fuel 23 [a, b] = some y) : ∃ k x, a = .int .i64 k ∧ i64 k ∧ b = .int .i64 x ∧ i64 x := by
  obtain ⟨_, m, hv⟩ := trod_field Tryz.underlying23 h
  obtain ⟨y0, g0⟩ := hv 0 _ rfl
  obtain ⟨y1, g1⟩ := hv 1 _ rfl
  simp only [show Tryz.prog.cellsOf 3 = 1 by kernel_rfl, show Tryz.prog.cellsOf 2 = 1 by kernel_rfl, List.drop_zero, List.drop_succ_cons, List.take_succ_cons, List.take_zero] at g0 g1
  obtain ⟨k, rfl, hk⟩ := trod_i64 Tryz.underlying3 g0
  obtain ⟨x, rfl, hx⟩ := trod_i64 Tryz.underlying2 g1
  exact ⟨k, x, rfl, hk, rfl, hx⟩
theorem trod_op {fuel : Nat} {cs : List Value} {y : DataW Hd × List MemPlace} (h : DataW.trod enc Tryz.prog w base (fun _ => true) held fuel 26 cs = some y) : ∃ o : TOp, cs = opL o ∧ OpOk o := by
  obtain ⟨hl, n, hf⟩ := trod_field Tryz.underlying26 h
  rw [show Tryz.prog.cellsOf 26 = 11 by kernel_rfl] at hl
  match cs, hl, hf with
  | [c0, c1, c2, c3, c4, c5, c6, c7, c8, c9, c10], _, hf =>
    obtain ⟨z0, h0⟩ := hf 0 _ rfl
    obtain ⟨z1, h1⟩ := hf 1 _ rfl
    obtain ⟨z2, h2⟩ := hf 2 _ rfl
    obtain ⟨z3, h3⟩ := hf 3 _ rfl
    obtain ⟨z4, h4⟩ := hf 4 _ rfl
    obtain ⟨z5, h5⟩ := hf 5 _ rfl
    obtain ⟨z6, h6⟩ := hf 6 _ rfl
    obtain ⟨z7, h7⟩ := hf 7 _ rfl
    obtain ⟨z8, h8⟩ := hf 8 _ rfl
    obtain ⟨z9, h9⟩ := hf 9 _ rfl
    simp only [show Tryz.prog.cellsOf 23 = 2 by kernel_rfl, show Tryz.prog.cellsOf 3 = 1 by kernel_rfl, show Tryz.prog.cellsOf 24 = 1 by kernel_rfl, show Tryz.prog.cellsOf 5 = 1 by kernel_rfl, List.drop_zero, List.drop_succ_cons, List.take_succ_cons, List.take_zero] at h0 h1 h2 h3 h4 h5 h6 h7 h8 h9
    obtain ⟨ad, rfl, pd⟩ := trod_i64 Tryz.underlying3 h0
    obtain ⟨ah, rfl, ph⟩ := trod_i64 Tryz.underlying3 h1
    obtain ⟨ag, rfl, pg⟩ := trod_i64 Tryz.underlying3 h2
    obtain ⟨ai, rfl, pi⟩ := trod_i64 Tryz.underlying3 h3
    obtain ⟨avk, avx, rfl, pvk, rfl, pvx⟩ := trod_tval h4
    obtain ⟨aw, rfl, pw⟩ := trod_u64 Tryz.underlying24 h5
    obtain ⟨ak, rfl, pk⟩ := trod_i64 Tryz.underlying3 h6
    obtain ⟨af, rfl, pf⟩ := trod_i64 Tryz.underlying3 h7
    obtain ⟨ar, rfl, pr⟩ := trod_i64 Tryz.underlying3 h8
    obtain ⟨ap, rfl, pp⟩ := trod_u8 Tryz.underlying5 h9
    exact ⟨⟨ad, ah, ag, ai, avk, avx, aw, ak, af, ar, ap⟩, rfl, ⟨pd, ph, pg, pi, pvk, pvx, pw, pk, pf, pr, pp⟩⟩
theorem opens_tstr {r : Reach} {b0 : Nat} {v : Value} {d : DataW Hd} {ps : List MemPlace} (h : Value.okWide Tryz.prog w r b0 9 v) (_ : DataW.Trod enc Tryz.prog w base (fun _ => true) held 9 v d ps) : ∃ s, v = .string (B s) := by
  obtain ⟨s', rfl⟩ := WideShapes.okWide_string Tryz.underlying9 h
  exact ⟨s'.data.toList, by rw [← B_of]⟩
end
end Go.AM
