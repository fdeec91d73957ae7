/-
  Walks over letters of the functions that the law reaches.
-/
import Derived.Test.YtieagjcojildgaaGreatW4
import Derived.Test.YtieagjcojildgaaGreatAMc
namespace Go.AM
attribute [local instance] fnMaps
open Go Go.Proofs
set_option maxRecDepth 100000
def SLr {α : Type} (R : Heap → List Value → α → Prop) (z : Nat) (H : Heap) (v : Value) (l : List α) : Prop := SL R z H v l ∧ Rowed H v
section
variable {Hd : Type} {enc : TypeId × Value → Hd} {w : World} {base : Nat} {held : Bool}
theorem opens_op : Opens enc Tryz.prog w base held 30 RW := by
  intro fuel cs y h
  obtain ⟨hl, n, hf⟩ := trod_field Tryz.underlying30 h
  rw [show Tryz.prog.cellsOf 30 = 11 by kernel_rfl] at hl
  match cs, hl with
  | [c0, c1, c2, c3, c4, c5, c6, c7, c8, c9, c10], _ =>
    obtain ⟨z0, h0⟩ := hf 0 _ rfl
    obtain ⟨z1, h1⟩ := hf 1 _ rfl
    obtain ⟨z2, h2⟩ := hf 2 _ rfl
    obtain ⟨z3, h3⟩ := hf 3 _ rfl
    obtain ⟨z4, h4⟩ := hf 4 _ rfl
    obtain ⟨z5, h5⟩ := hf 5 _ rfl
    obtain ⟨z6, h6⟩ := hf 6 _ rfl
    obtain ⟨z7, h7⟩ := hf 7 _ rfl
    obtain ⟨z8, h8⟩ := hf 8 _ rfl
    obtain ⟨z9, h9⟩ := hf 9 _ rfl
    simp only [show Tryz.prog.cellsOf 3 = 1 by kernel_rfl, show Tryz.prog.cellsOf 27 = 2 by kernel_rfl, show Tryz.prog.cellsOf 28 = 1 by kernel_rfl, show Tryz.prog.cellsOf 5 = 1 by kernel_rfl, List.drop_zero, List.drop_succ_cons, List.take_succ_cons, List.take_zero] at h0 h1 h2 h3 h4 h5 h6 h7 h8 h9
    obtain ⟨d', e0, _, w0⟩ := DataW.trod_int Tryz.underlying3 h0
    simp only [List.cons.injEq, and_true] at e0
    subst e0
    obtain ⟨x1, rfl⟩ := trod_cell Tryz.underlying3 h1
    obtain ⟨x2, rfl⟩ := trod_cell Tryz.underlying3 h2
    obtain ⟨x3, rfl⟩ := trod_cell Tryz.underlying3 h3
    obtain ⟨x6, rfl⟩ := trod_cell Tryz.underlying28 h5
    obtain ⟨x7, rfl⟩ := trod_cell Tryz.underlying3 h6
    obtain ⟨x8, rfl⟩ := trod_cell Tryz.underlying3 h7
    obtain ⟨x9, rfl⟩ := trod_cell Tryz.underlying3 h8
    obtain ⟨x10, rfl⟩ := trod_cell Tryz.underlying5 h9
    obtain ⟨_, m, hv⟩ := trod_field Tryz.underlying27 h4
    obtain ⟨y0, g0⟩ := hv 0 _ rfl
    obtain ⟨y1, g1⟩ := hv 1 _ rfl
    simp only [show Tryz.prog.cellsOf 3 = 1 by kernel_rfl, show Tryz.prog.cellsOf 2 = 1 by kernel_rfl, List.drop_zero, List.drop_succ_cons, List.take_succ_cons, List.take_zero] at g0 g1
    obtain ⟨x4, rfl⟩ := trod_cell Tryz.underlying3 g0
    obtain ⟨x5, rfl⟩ := trod_cell Tryz.underlying2 g1
    refine ⟨fun v hv => ?_, ⟨d', x1, x2, x3, ⟨x4, x5⟩, x6, x7, x8, x9, x10⟩, rfl, ?_⟩
    · simp only [List.mem_cons, List.not_mem_nil, or_false] at hv
      rcases hv with rfl | rfl | rfl | rfl | rfl | rfl | rfl | rfl | rfl | rfl | rfl <;> rfl
    · simpa [Lit.wf, IntKind.min, IntKind.max, IntKind.bits, IntKind.signed] using w0
theorem param_ops {r : Reach} {b0 : Nat} {v : Value} {d : DataW Hd} {ps : List MemPlace} (hval : Value.okWide Tryz.prog w r b0 22 v) (hd : DataW.Trod enc Tryz.prog w base (fun _ => true) held 22 v d ps) : okV w v = true ∧ ∃ l, SLr RW 11 (wh w) (trV w v) l := by
  obtain ⟨h1, ⟨l, h2⟩, h3⟩ := param_slice Tryz.underlying22 (z := 11) (by kernel_rfl) (by omega) (fun _ => opens_op) hval hd
  exact ⟨h1, l, h2, h3⟩
theorem param_bytes {r : Reach} {b0 : Nat} {v : Value} {d : DataW Hd} {ps : List MemPlace} (hval : Value.okWide Tryz.prog w r b0 23 v) (hd : DataW.Trod enc Tryz.prog w base (fun _ => true) held 23 v d ps) : okV w v = true ∧ ∃ l, SLr (RInt .u8) 1 (wh w) (trV w v) l := by
  obtain ⟨h1, ⟨l, h2⟩, h3⟩ := param_slice Tryz.underlying23 (z := 1) (by kernel_rfl) (by omega) (fun _ => opens_int Tryz.underlying5) hval hd
  exact ⟨h1, l, h2, h3⟩
theorem psl_of {v : Value} {p : List Int} (h : SL (RInt .u8) 1 (wh w) v p) : PSL (wh w) v p := by
  obtain ⟨a, cap, rfl, ⟨h1, _⟩, h3⟩ := h
  refine ⟨a, cap, rfl, h1, fun hp => ?_⟩
  obtain ⟨x, q, rfl⟩ := List.exists_cons_of_ne_nil hp
  obtain ⟨r, o, cells, g, t, part, rfl, h5, h6, h7, h8⟩ := h3 0 x rfl
  have hg : g = none := by
    by_cases hr : r = wtop w
    · subst hr
      rw [wh_top] at h6
      simp only [Option.some.injEq, AObj.row.injEq] at h6
      obtain ⟨rfl, _⟩ := h6
      obtain ⟨h9, _⟩ := cut_inv h7
      simp at h9
    · rw [wh_get w hr] at h6
      simp only [Option.some.injEq, AObj.row.injEq] at h6
      exact h6.2.1.symm
  subst hg
  refine ⟨r, o, cells, t, rfl, h5, h6, fun i y hy => ?_⟩
  obtain ⟨r', o', cells', g', t', part', e, _, h6', h7', h8'⟩ := h3 i y hy
  simp only [Option.some.injEq, Addr.mk.injEq, and_true] at e
  obtain ⟨rfl, rfl⟩ := e
  rw [h6] at h6'
  simp only [Option.some.injEq, AObj.row.injEq] at h6'
  obtain ⟨rfl, _⟩ := h6'
  rw [h8', Nat.mul_one] at h7'
  exact cut1 h7'
end
end Go.AM
