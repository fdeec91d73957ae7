/-
  Scripts: text.Script at the model's own level.
-/
import Derived.Test.YtbpneihjlledpaaGreatDoorX25
import Derived.Test.YtbpneihjlledpaaGreatDoorXA
import Derived.Test.YtbpneihjlledpaaGreatDoorTW
import Derived.Test.YtbpneihjlledpaaGreatDoorBw34
import Derived.Test.YtbpneihjlledpaaGreatDoorAMc
import Derived.WalkKit
import Derived.BigCall
set_option linter.unusedSimpArgs false
set_option linter.unusedVariables false
set_option linter.unusedSectionVars false
namespace Go.Proofs.YtbpneihjlledpaaGreatDoor.Scripts
open Go Go.AM Go.ChangeShapes Go.WideShapes Go.ChangeAt Go.RowKit
attribute [local instance] fnMaps
set_option maxRecDepth 100000
theorem named : Tryz.prog.funcs.toList.all (fun f => !(f.name == "runtime.NumGoroutine")) = true := by kernel_rfl
noncomputable def E0 : Env := ⟨Tryz.prog, fun k => Trie.get tyT k, fun k => Tryz.prog.funcs[k]?, fun _ _ _ => none⟩
theorem awakeT : ToldOk E0 ⟨6, fun args H => match args with | [] => some (.bool true, H) | _ => none⟩ where
  body := ⟨Tryz.f6, _, by kernel_rfl, rfl⟩
  low := by
    intro args H v H' _ h
    match args, h with
    | [], h => cases h; exact Low.refl _
  sim := by
    intro B lo0 m H w args args' v H' h ha hR
    match args, h, ha with
    | [], h, ha =>
      cases h
      have e : args' = #[] := Array.toList_eq_nil_iff.1 (LRel.inv_nil ha)
      subst e
      refine (Bw34.known w ⟨Nat.le_trans hR.glo.1 hR.base, hR.glo.2⟩).mono fun e w' ⟨he, ho⟩ => ?_
      exact ⟨.bool true, m, he, Good.grown hR ⟨ho.blk, ho.size, ho.os⟩, .bool _⟩
section
variable [Orc13]
theorem hE : EnvOk AM.E where
  ty t i h := @EnvOk.ty trieMaps _ (@EnvOk.of trieMaps Tryz.prog named) t i (by
    have h1 : Trie.get tyT t = some i := h
    unfold tyT at h1
    exact h1)
  fn _ _ h := h
  num f g h := by
    have h1 : Tryz.prog.funcs[f]? = some g := h
    have h2 := List.all_eq_true.1 named g (List.mem_of_getElem? (by simpa using h1))
    simpa using h2
theorem hO (h13 : ToldOk E0 ⟨13, Orc13.ans⟩) : OrcOk AM.E :=
  orcT_ok (E := E0) { hE with } fun x hx => by
    rcases List.mem_cons.1 hx with rfl | hx
    · exact awakeT
    rcases List.mem_cons.1 hx with rfl | hx
    · exact h13
    · exact tolds_ok rfl (fun g hg => by
        simp only [List.mem_cons, List.not_mem_nil, or_false] at hg
        rcases hg with rfl | rfl | rfl | rfl | rfl | rfl <;> exact ⟨_, _, rfl, rfl⟩) x hx
end
@[instance_reducible] def i0 : Orc13 := ⟨fun _ _ => none⟩
theorem none13 : ToldOk E0 ⟨13, i0.ans⟩ where
  body := ⟨Tryz.f13, _, by kernel_rfl, rfl⟩
  low := fun _ _ _ _ _ h => by cases h
  sim := fun _ _ _ _ _ _ _ _ _ h => by cases h
theorem pair_eq (s : ByteArray) (k : IntKind) (n : Int) : ∀ m v', VRel m (.tuple #[.string s, .int k n]) v' → v' = .tuple #[.string s, .int k n] := by
  intro m v' h
  cases h with
  | tuple ha hr =>
    obtain ⟨x, r, e1, h1, h2⟩ := LRel.inv_cons (m := m) ⟨ha, hr⟩
    obtain ⟨y, q, rfl, h3, h4⟩ := h2.inv_cons
    have := h4.inv_nil; subst this
    cases h1; cases h3
    congr 1
    exact Array.ext' e1
theorem lineM (W : World) (hg : GN ≤ W.heap.size ∧ GL W) (o : TOp) (ho : OpOk o) : Calls Tryz.prog 7 #[.agg (opL o).toArray] W fun e W' => e = .returned (.tuple #[.string (B (lineR o).1), .int .i64 (lineR o).2]) ∧ AM.Old W.heap.size W W' :=
  calls_of_callA (E := @AM.E i0) (H := Heap.empty) (@hE i0) (@hO i0 none13) (args := [.agg (opL o).toArray]) (by kernel_rfl) (@fn7 i0) rfl ((@line_ok i0 Heap.empty (Nat.le_refl _) o ho).mono fun _ _ h => h.1) (pair_eq _ _ _) (rel_empty W hg) (.cons (plainV_rel rfl) (.nil _))
end Go.Proofs.YtbpneihjlledpaaGreatDoor.Scripts
