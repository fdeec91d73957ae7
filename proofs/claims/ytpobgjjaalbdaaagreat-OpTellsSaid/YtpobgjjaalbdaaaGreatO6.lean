/-
  Walks over letters of the functions that the law reaches.
-/
import Derived.Test.YtpobgjjaalbdaaaGreatO5
import Derived.Test.YtpobgjjaalbdaaaGreatAMc
namespace Go.AM
attribute [local instance] fnMaps
open Go Go.Proofs
set_option maxRecDepth 100000
section
variable {Hd : Type} {enc : TypeId × Value → Hd} {w : World} {base : Nat} {held : Bool}
theorem opens_op {r : Reach} {b0 : Nat} {v : Value} {d : DataW Hd} {ps : List MemPlace} (hval : Value.okWide Tryz.prog w r b0 26 v) (hd : DataW.Trod enc Tryz.prog w base (fun _ => true) held 26 v d ps) :
    ∃ d' h g i vk vx w' k f r' p, v = .agg (inO d' h g i vk vx w' k f r' p).toArray ∧ (-9223372036854775808 ≤ d' ∧ d' ≤ 9223372036854775807) := by
  obtain ⟨cs, rfl, hsz⟩ := WideShapes.okWide_struct Tryz.underlying26 hval
  obtain ⟨fuel, hd⟩ := hd
  obtain ⟨_, n, hf⟩ := trod_field Tryz.underlying26 hd
  rw [show Tryz.prog.cellsOf 26 = 11 by kernel_rfl] at hsz
  match cs, hsz, hf with
  | ⟨[c0, c1, c2, c3, c4, c5, c6, c7, c8, c9, c10]⟩, _, hf =>
    obtain ⟨z0, h0⟩ := hf 0 _ rfl
    obtain ⟨z1, h1⟩ := hf 1 _ rfl
    obtain ⟨z2, h2⟩ := hf 2 _ rfl
    obtain ⟨z3, h3⟩ := hf 3 _ rfl
    obtain ⟨z4, h4⟩ := hf 4 _ rfl
    obtain ⟨z5, h5⟩ := hf 5 _ rfl
    obtain ⟨z6, h6⟩ := hf 6 _ rfl
    obtain ⟨z7, h7⟩ := hf 7 _ rfl
    obtain ⟨z8, h8⟩ := hf 8 _ rfl
    obtain ⟨z9, h9⟩ := hf 9 _ rfl
    simp only [Value.cells, show Tryz.prog.cellsOf 3 = 1 by kernel_rfl, show Tryz.prog.cellsOf 23 = 2 by kernel_rfl, show Tryz.prog.cellsOf 24 = 1 by kernel_rfl, show Tryz.prog.cellsOf 5 = 1 by kernel_rfl, List.drop_zero, List.drop_succ_cons, List.take_succ_cons, List.take_zero] at h0 h1 h2 h3 h4 h5 h6 h7 h8 h9
    obtain ⟨d', e0, _, w0⟩ := DataW.trod_int Tryz.underlying3 h0
    simp only [List.cons.injEq, and_true] at e0
    subst e0
    obtain ⟨x1, rfl⟩ := trod_cell Tryz.underlying3 h1
    obtain ⟨x2, rfl⟩ := trod_cell Tryz.underlying3 h2
    obtain ⟨x3, rfl⟩ := trod_cell Tryz.underlying3 h3
    obtain ⟨x6, rfl⟩ := trod_cell Tryz.underlying24 h5
    obtain ⟨x7, rfl⟩ := trod_cell Tryz.underlying3 h6
    obtain ⟨x8, rfl⟩ := trod_cell Tryz.underlying3 h7
    obtain ⟨x9, rfl⟩ := trod_cell Tryz.underlying3 h8
    obtain ⟨x10, rfl⟩ := trod_cell Tryz.underlying5 h9
    obtain ⟨_, m, hv⟩ := trod_field Tryz.underlying23 h4
    obtain ⟨y0, g0⟩ := hv 0 _ rfl
    obtain ⟨y1, g1⟩ := hv 1 _ rfl
    simp only [show Tryz.prog.cellsOf 3 = 1 by kernel_rfl, show Tryz.prog.cellsOf 2 = 1 by kernel_rfl, List.drop_zero, List.drop_succ_cons, List.take_succ_cons, List.take_zero] at g0 g1
    obtain ⟨x4, rfl⟩ := trod_cell Tryz.underlying3 g0
    obtain ⟨x5, rfl⟩ := trod_cell Tryz.underlying2 g1
    refine ⟨d', x1, x2, x3, x4, x5, x6, x7, x8, x9, x10, rfl, ?_⟩
    simpa [Lit.wf, IntKind.min, IntKind.max, IntKind.bits, IntKind.signed] using w0
theorem opens_string {r : Reach} {b0 : Nat} {v : Value} {d : DataW Hd} {ps : List MemPlace} (h : Value.okWide Tryz.prog w r b0 9 v) (_ : DataW.Trod enc Tryz.prog w base (fun _ => true) held 9 v d ps) : ∃ s, v = .string s := by
  obtain ⟨s', rfl⟩ := WideShapes.okWide_string Tryz.underlying9 h
  exact ⟨s', rfl⟩
end
end Go.AM
