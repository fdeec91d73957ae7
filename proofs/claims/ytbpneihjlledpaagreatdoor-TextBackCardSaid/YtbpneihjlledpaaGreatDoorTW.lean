/-
  The listed variables: what they give of a world, and a world that has them.
-/
import Derived.Test.YtbpneihjlledpaaGreatDoorTie
import Derived.Test.YtbpneihjlledpaaGreatDoorAMc
import Derived.Lib.LaidU8
set_option linter.unusedSimpArgs false
set_option linter.unusedVariables false
set_option linter.unusedSectionVars false
namespace Go.AM
open Go Go.Proofs Go.RowKit Go.Proofs.YtbpneihjlledpaaGreatDoor
set_option maxRecDepth 100000
theorem g1 : Tryz.prog.globalNamed "internal/strconv.uint64pow10" = some 1 := by kernel_rfl
theorem g4 : Tryz.prog.globalNamed "strconv.ErrSyntax" = some 4 := by kernel_rfl
theorem g5 : Tryz.prog.globalNamed "strconv.ErrRange" = some 5 := by kernel_rfl
theorem t1 : (Tryz.prog.globals[1]?).map (·.type) = some 203 := by kernel_rfl
theorem t4 : (Tryz.prog.globals[4]?).map (·.type) = some 72 := by kernel_rfl
theorem t5 : (Tryz.prog.globals[5]?).map (·.type) = some 72 := by kernel_rfl
theorem errStar : "*" ++ "errors.errorString" = "*errors.errorString" := by decide
theorem errRow (u : TypeId) (h : Tryz.prog.typeName? 3 u = some "*errors.errorString") : u = 289 :=
  typeName_ptr_named (nm := "errors.errorString") (by rw [errStar]; kernel_rfl) (by kernel_rfl) (by decide) u (by rw [errStar]; exact h)
def LL : List (String × DataW Unit) := Rows.textLinesRow.laid
theorem LL_plain : (LL.all fun x => x.2.handleName?.isNone) = true := by kernel_rfl
theorem var_heap {W : World} {n : String} {g : Nat} {cs : Array Value} (hg : Tryz.prog.globalNamed n = some g) (h : W.var? Tryz.prog n = some cs) : ∃ e fr, W.heap[g]? = some (.cells cs e fr) := by
  unfold World.var? at h
  rw [hg, Option.bind_some] at h
  split at h
  · rename_i cs' e fr hh
    cases h
    exact ⟨_, _, hh⟩
  · cases h
theorem GL_laid {W : World} (h : laidMetH Tryz.prog LL W) (hsh : W.ShapedOpen Tryz.prog) : GN ≤ W.heap.size ∧ GL W := by
  rw [MakeChecks.laidMetH_plain _ _ _ LL_plain] at h
  have h2 : laidMet Tryz.prog (("internal/strconv.uint64pow10", Lib.tabData .u64 Lib.pow10Tab) :: LL.drop 3) W := h.tail.tail
  have h4 : laidMet Tryz.prog (("strconv.ErrRange", Rows.laid_strconv_ErrRange) :: LL.drop 5) W := h2.tail.tail
  have h5 : laidMet Tryz.prog (("strconv.ErrSyntax", Rows.laid_strconv_ErrSyntax) :: LL.drop 6) W := h4.tail
  have hT := Lib.tabIs_of_head (n := 20) (e := 24) g1 t1 (by kernel_rfl) (by kernel_rfl) (by kernel_rfl) (by kernel_rfl) h2
  obtain ⟨a, _, hv, _, _, _⟩ := laid_sentinel h4 g5 t5 Tryz.underlying72 errRow Tryz.underlying289 Tryz.underlying291 rfl rfl Tryz.underlying9 (by kernel_rfl) (by kernel_rfl)
  obtain ⟨b, _, hw, _, _, _⟩ := laid_sentinel h5 g4 t4 Tryz.underlying72 errRow Tryz.underlying289 Tryz.underlying291 rfl rfl Tryz.underlying9 (by kernel_rfl) (by kernel_rfl)
  obtain ⟨e1, f1, k1⟩ := var_heap g1 hT
  obtain ⟨e5, f5, k5⟩ := var_heap g5 hv
  obtain ⟨e4, f4, k4⟩ := var_heap g4 hw
  have hsz : 8 ≤ W.heap.size := by
    obtain ⟨_, ⟨g, _, cs, _, _, _, hg, _, hv, _⟩, _⟩ := (show laidMet Tryz.prog (("math/bits.deBruijn64tab", Rows.laid_math_bits_deBruijn64tab) :: LL.drop 2) W from h.tail)
    obtain ⟨e, fr, hh⟩ := var_heap hg hv
    have e7 : g = 7 := Option.some.inj (hg.symm.trans (by kernel_rfl))
    rw [e7] at hh
    exact (Array.getElem?_eq_some_iff.1 hh).1
  refine ⟨hsz, ⟨_, _, k1⟩, ⟨_, _, _, _, k4⟩, ⟨_, _, _, _, k5⟩, ?_⟩
  obtain ⟨cs, hh, hs, hr⟩ := hsh.1 0 #[.int .i64 0] 3 (of_decide_eq_true (by kernel_rfl)) (by kernel_rfl)
  obtain ⟨m, hm⟩ := cell_of_shapedOpen_int hsh (g := 0) (of_decide_eq_true (by kernel_rfl)) (zero := #[.int .i64 0]) (t := 3) (by kernel_rfl) rfl (by kernel_rfl) (by kernel_rfl) (k := .i64) (by kernel_rfl)
  have hc : cs = #[.int .i64 m] := by
    obtain ⟨l⟩ := cs
    have h1 : l.length = 1 := hs
    obtain ⟨x, rfl⟩ : ∃ x, l = [x] := by
      match l, h1 with
      | [x], _ => exact ⟨x, rfl⟩
    simp [World.cell?, hh] at hm
    rw [hm]
  rw [hc] at hh
  exact ⟨_, _, _, hh⟩
noncomputable def laidWorld (os : Os) : World :=
  let w0 := World.doorLaid Tryz.prog 72 os
  { w0 with heap := w0.heap.modify 2 fun
      | .cells _ t frozen => .cells (Lib.firstTab.map (Value.int .u8)).toArray t frozen
      | o => o }
theorem laidWorld_met (os : Os) (args : Array Value) : laidMetH Tryz.prog LL ((laidWorld os).forCall (fun _ _ => 0) ⟨#[], args, []⟩).memory :=
  laidMetH_of_parts3 (fuel := 8) (laidMet_of_run' 8 (by kernel_rfl) (by kernel_rfl)) (by kernel_rfl) (by kernel_rfl)
theorem laidWorld_shaped (os : Os) (args : Array Value) : ((laidWorld os).forCall (fun _ _ => 0) ⟨#[], args, []⟩).Shaped Tryz.prog :=
  World.shaped_of_RefB (by kernel_rfl) (by kernel_rfl)
end Go.AM
