/-
  No cell of these rows narrows 'for every input' (looked for: loops, veiled, ifaces, maps, wideKeys, modest, calm, conditions, laid).
  DERIVED. THE GIVEN ROWS OF THIS SEAT. 2 by the template 'for every input the law returns true; each argument reads behind the call as it read before'; 0 by the template 'total and deterministic' (their statements: YtcickfcjdmolcaaTotals.lean).
  GIVEN WITH THE SEED: the statements are not yours to turn. If you find one false, say at which input.
  Laid BY PROGRAM, IN A SANDBOX (cutbox-rows.mjs): the forced cells as the released guide's own fill.sh prints them over the translation 1a6f330a96ce575b… (all of the seat's roots in one cut). By AI agents, Wed Nov 11 2026. No macro, syntax, notation, axiom, sorry.
-/
import Derived.Test.YtcickfcjdmolcaaChecked
import GoSem.Claim
import GoSem.ClaimJoined
import GoSem.ClaimMapViews
import Derived.JoinedTies
import Derived.KernelRfl
namespace Go.Proofs.Ytcickfcjdmolcaa
/- THE CELL 'sum', in the pinned program and in every row, IS THE sha256 OF THE DUMP (.gsa) THAT YtcickfcjdmolcaaProg.lean LOADS. Nothing in Lean hashes anything: it is a label: what it is worth is what the hold of that sum in a sandbox is worth. -/
noncomputable def Try.pinned : Pinned := { name := "ytcickfcjdmolcaa", sum := "1a6f330a96ce575b091a45c1f3c313fe94bd0b4d109e385f5960f6b2c4569f3e", checked := Try.checked }
namespace Rows
def none {H : Type} : Left H := { results := [], args := [] }

/-- 'triforiumlaw36.ShapeShapes': WHATEVER THE INPUT: true; the input reads as it did. -/
def shapeShapesSpec : ChangeSpec := { name := "shapeShapes", fn := fun _ => fun
  | [d1, d2, d3] => { results := [.lit (.bool true)], args := [d1, d2, d3] }
  | _ => none }
def shapeShapesRow : OpenClaim := { program := "ytcickfcjdmolcaa", sum := "1a6f330a96ce575b091a45c1f3c313fe94bd0b4d109e385f5960f6b2c4569f3e", func := "triforium/triforiumlaw36.ShapeShapes", spec := "shapeShapes", unfollowed := true, recurses := true, apart := false }
def ShapeShapesSaid : Prop := shapeShapesRow.holds Try.pinned (OpenSpec.ofChange shapeShapesSpec)

/-- ITS FALSE NEIGHBOUR: 'it returns false'. Refute it at one input. -/
def shapeShapesWrong : ChangeSpec := { name := "shapeShapes", fn := fun _ => fun
  | [d1, d2, d3] => { results := [.lit (.bool false)], args := [d1, d2, d3] }
  | _ => none }
def ShapeShapesWrongFalsely : Prop := shapeShapesRow.holds Try.pinned (OpenSpec.ofChange shapeShapesWrong)

/-- 'triforiumlaw36.ShapeBuilds': WHATEVER THE INPUT: true; the input reads as it did. -/
def shapeBuildsSpec : ChangeSpec := { name := "shapeBuilds", fn := fun _ => fun
  | [d1, d2] => { results := [.lit (.bool true)], args := [d1, d2] }
  | _ => none }
def shapeBuildsRow : OpenClaim := { program := "ytcickfcjdmolcaa", sum := "1a6f330a96ce575b091a45c1f3c313fe94bd0b4d109e385f5960f6b2c4569f3e", func := "triforium/triforiumlaw36.ShapeBuilds", spec := "shapeBuilds", unfollowed := true, recurses := true, apart := false }
def ShapeBuildsSaid : Prop := shapeBuildsRow.holds Try.pinned (OpenSpec.ofChange shapeBuildsSpec)

/-- ITS FALSE NEIGHBOUR: 'it returns false'. Refute it at one input. -/
def shapeBuildsWrong : ChangeSpec := { name := "shapeBuilds", fn := fun _ => fun
  | [d1, d2] => { results := [.lit (.bool false)], args := [d1, d2] }
  | _ => none }
def ShapeBuildsWrongFalsely : Prop := shapeBuildsRow.holds Try.pinned (OpenSpec.ofChange shapeBuildsWrong)

/- THE SECOND FORM. 'bulk': how many values and letters a reading holds, each counted each time it is reached (what is shared counts as often as it is met; a slice's spare places count too). A statement '..UptoSaid' is the law's where the arguments, and the package variables that the reading takes, are together of bulk at most 1048576: NARROWER than '..Said'. Prove '..Said' where nothing that the law and all that it calls make is longer than what came in: it says more and counts as full. Else prove '..UptoSaid'. A law counts once. -/
mutual
def uptoBulk {H : Type} : DataW H → Nat
  | .lit (.string bytes) => bytes.length + 1
  | .lit _ => 1
  | .nil => 1
  | .ptr d => uptoBulk d + 1
  | .slice elems spare => uptoBulkAll elems + uptoBulkAll spare + 1
  | .agg parts => uptoBulkAll parts + 1
  | .iface _ d => uptoBulk d + 1
  | .map entries => uptoBulkEntries entries + 1
  | .held _ => 1
def uptoBulkAll {H : Type} : List (DataW H) → Nat
  | [] => 0
  | d :: r => uptoBulk d + uptoBulkAll r
def uptoBulkEntries {H : Type} : List (Lit × DataW H) → Nat
  | [] => 0
  | x :: r => uptoBulkEntry x + uptoBulkEntries r
def uptoBulkEntry {H : Type} : Lit × DataW H → Nat
  | (.string bytes, d) => bytes.length + uptoBulk d + 1
  | (_, d) => uptoBulk d + 1
 end
def uptoSmall : (H : Type) → List (DataW H) → Bool := fun _ ds => decide (uptoBulkAll ds ≤ 1048576)
def OpenSpec.upto (s : _root_.Go.ChangeSpec) : _root_.Go.OpenSpec := { _root_.Go.OpenSpec.ofChange s with cond := some uptoSmall }

/-- 'triforiumlaw36.ShapeShapes', WHERE WHAT IT READS IS OF BULK AT MOST 1048576: true; the input reads as it did. -/
def shapeShapesUptoRow : OpenClaim := { program := "ytcickfcjdmolcaa", sum := "1a6f330a96ce575b091a45c1f3c313fe94bd0b4d109e385f5960f6b2c4569f3e", func := "triforium/triforiumlaw36.ShapeShapes", spec := "shapeShapes", unfollowed := true, recurses := true, apart := false, narrowed := true }
def ShapeShapesUptoSaid : Prop := shapeShapesUptoRow.holds Try.pinned (OpenSpec.upto shapeShapesSpec)

/-- 'triforiumlaw36.ShapeBuilds', WHERE WHAT IT READS IS OF BULK AT MOST 1048576: true; the input reads as it did. -/
def shapeBuildsUptoRow : OpenClaim := { program := "ytcickfcjdmolcaa", sum := "1a6f330a96ce575b091a45c1f3c313fe94bd0b4d109e385f5960f6b2c4569f3e", func := "triforium/triforiumlaw36.ShapeBuilds", spec := "shapeBuilds", unfollowed := true, recurses := true, apart := false, narrowed := true }
def ShapeBuildsUptoSaid : Prop := shapeBuildsUptoRow.holds Try.pinned (OpenSpec.upto shapeBuildsSpec)

end Rows
end Go.Proofs.Ytcickfcjdmolcaa
