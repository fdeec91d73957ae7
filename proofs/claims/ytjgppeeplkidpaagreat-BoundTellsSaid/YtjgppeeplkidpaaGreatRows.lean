/-
  No cell of these rows narrows 'for every input' (looked for: loops, veiled, ifaces, maps, wideKeys, modest, calm, conditions, laid).
  DERIVED. THE GIVEN ROWS OF THIS SEAT. 3 by the template 'for every input the law returns true; each argument reads behind the call as it read before'; 0 by the template 'total and deterministic' (their statements: YtjgppeeplkidpaaGreatTotals.lean).
  GIVEN WITH THE SEED: the statements are not yours to turn. If you find one false, say at which input.
  Laid BY PROGRAM, IN A SANDBOX (cutbox-rows.mjs): the forced cells as the released guide's own fill.sh prints them over the translation 28b196aa04cb7e63… (all of the seat's roots in one cut). By AI agents, Wed Nov 11 2026. No macro, syntax, notation, axiom, sorry.
-/
import Derived.Test.YtjgppeeplkidpaaGreatChecked
import GoSem.Claim
import GoSem.ClaimJoined
import GoSem.ClaimMapViews
import Derived.JoinedTies
import Derived.KernelRfl
namespace Go.Proofs.YtjgppeeplkidpaaGreat
/- THE CELL 'sum', in the pinned program and in every row, IS THE sha256 OF THE DUMP (.gsa) THAT YtjgppeeplkidpaaGreatProg.lean LOADS. Nothing in Lean hashes anything: it is a label: what it is worth is what the hold of that sum in a sandbox is worth. -/
noncomputable def Tryz.pinned : Pinned := { name := "ytjgppeeplkidpaagreat", sum := "28b196aa04cb7e63092898ec76cec635e705c6962553e2c716646f66fdc0660b", checked := Tryz.checked }
namespace Rows
def none {H : Type} : Left H := { results := [], args := [] }

/-- 'triforiumlaw29.BoundTells': WHATEVER THE INPUT: true; the input reads as it did. -/
def boundTellsSpec : ChangeSpec := { name := "boundTells", fn := fun _ => fun
  | [d1, d2] => { results := [.lit (.bool true)], args := [d1, d2] }
  | _ => none }
def boundTellsRow : OpenClaim := { program := "ytjgppeeplkidpaagreat", sum := "28b196aa04cb7e63092898ec76cec635e705c6962553e2c716646f66fdc0660b", func := "triforium/triforiumlaw29.BoundTells", spec := "boundTells", unfollowed := true, recurses := true, apart := false }
def BoundTellsSaid : Prop := boundTellsRow.holds Tryz.pinned (OpenSpec.ofChange boundTellsSpec)

/-- ITS FALSE NEIGHBOUR: 'it returns false'. Refute it at one input. -/
def boundTellsWrong : ChangeSpec := { name := "boundTells", fn := fun _ => fun
  | [d1, d2] => { results := [.lit (.bool false)], args := [d1, d2] }
  | _ => none }
def BoundTellsWrongFalsely : Prop := boundTellsRow.holds Tryz.pinned (OpenSpec.ofChange boundTellsWrong)

/-- 'triforiumlaw28.AgreeTells': WHATEVER THE INPUT: true; the input reads as it did. -/
def agreeTellsSpec : ChangeSpec := { name := "agreeTells", fn := fun _ => fun
  | [d1, d2] => { results := [.lit (.bool true)], args := [d1, d2] }
  | _ => none }
def agreeTellsRow : OpenClaim := { program := "ytjgppeeplkidpaagreat", sum := "28b196aa04cb7e63092898ec76cec635e705c6962553e2c716646f66fdc0660b", func := "triforium/triforiumlaw28.AgreeTells", spec := "agreeTells", unfollowed := true, recurses := true, apart := false }
def AgreeTellsSaid : Prop := agreeTellsRow.holds Tryz.pinned (OpenSpec.ofChange agreeTellsSpec)

/-- ITS FALSE NEIGHBOUR: 'it returns false'. Refute it at one input. -/
def agreeTellsWrong : ChangeSpec := { name := "agreeTells", fn := fun _ => fun
  | [d1, d2] => { results := [.lit (.bool false)], args := [d1, d2] }
  | _ => none }
def AgreeTellsWrongFalsely : Prop := agreeTellsRow.holds Tryz.pinned (OpenSpec.ofChange agreeTellsWrong)

/-- 'triforiumlaw41.TwinsTells': WHATEVER THE INPUT: true; the input reads as it did. -/
def twinsTellsSpec : ChangeSpec := { name := "twinsTells", fn := fun _ => fun
  | [d1, d2, d3, d4, d5, d6, d7, d8] => { results := [.lit (.bool true)], args := [d1, d2, d3, d4, d5, d6, d7, d8] }
  | _ => none }
def twinsTellsRow : OpenClaim := { program := "ytjgppeeplkidpaagreat", sum := "28b196aa04cb7e63092898ec76cec635e705c6962553e2c716646f66fdc0660b", func := "triforium/triforiumlaw41.TwinsTells", spec := "twinsTells", inPlace := ["slices.overlaps[triforium/api.Span]", "internal/bytealg.IndexByteString", "internal/bytealg.IndexString"], unfollowed := true, recurses := true, named := ["internal/bytealg.MaxLen"], apart := false }
def TwinsTellsSaid : Prop := twinsTellsRow.holds Tryz.pinned (OpenSpec.ofChange twinsTellsSpec)

/-- ITS FALSE NEIGHBOUR: 'it returns false'. Refute it at one input. -/
def twinsTellsWrong : ChangeSpec := { name := "twinsTells", fn := fun _ => fun
  | [d1, d2, d3, d4, d5, d6, d7, d8] => { results := [.lit (.bool false)], args := [d1, d2, d3, d4, d5, d6, d7, d8] }
  | _ => none }
def TwinsTellsWrongFalsely : Prop := twinsTellsRow.holds Tryz.pinned (OpenSpec.ofChange twinsTellsWrong)

/- THE SECOND FORM. 'bulk': how many values and letters a reading holds, each counted each time it is reached (what is shared counts as often as it is met; a slice's spare places count too). A statement '..UptoSaid' is the law's where the arguments, and the package variables that the reading takes, are together of bulk at most 1048576: NARROWER than '..Said'. Prove '..Said' where nothing that the law and all that it calls make is longer than what came in: it says more and counts as full. Else prove '..UptoSaid'. A law counts once. -/
mutual
def uptoBulk {H : Type} : DataW H → Nat
  | .lit (.string bytes) => bytes.length + 1
  | .lit _ => 1
  | .nil => 1
  | .ptr d => uptoBulk d + 1
  | .slice elems spare => uptoBulkAll elems + uptoBulkAll spare + 1
  | .agg parts => uptoBulkAll parts + 1
  | .iface _ d => uptoBulk d + 1
  | .map entries => uptoBulkEntries entries + 1
  | .held _ => 1
def uptoBulkAll {H : Type} : List (DataW H) → Nat
  | [] => 0
  | d :: r => uptoBulk d + uptoBulkAll r
def uptoBulkEntries {H : Type} : List (Lit × DataW H) → Nat
  | [] => 0
  | x :: r => uptoBulkEntry x + uptoBulkEntries r
def uptoBulkEntry {H : Type} : Lit × DataW H → Nat
  | (.string bytes, d) => bytes.length + uptoBulk d + 1
  | (_, d) => uptoBulk d + 1
 end
def uptoSmall : (H : Type) → List (DataW H) → Bool := fun _ ds => decide (uptoBulkAll ds ≤ 1048576)
def OpenSpec.upto (s : _root_.Go.ChangeSpec) : _root_.Go.OpenSpec := { _root_.Go.OpenSpec.ofChange s with cond := some uptoSmall }

/-- 'triforiumlaw29.BoundTells', WHERE WHAT IT READS IS OF BULK AT MOST 1048576: true; the input reads as it did. -/
def boundTellsUptoRow : OpenClaim := { program := "ytjgppeeplkidpaagreat", sum := "28b196aa04cb7e63092898ec76cec635e705c6962553e2c716646f66fdc0660b", func := "triforium/triforiumlaw29.BoundTells", spec := "boundTells", unfollowed := true, recurses := true, apart := false, narrowed := true }
def BoundTellsUptoSaid : Prop := boundTellsUptoRow.holds Tryz.pinned (OpenSpec.upto boundTellsSpec)

/-- 'triforiumlaw28.AgreeTells', WHERE WHAT IT READS IS OF BULK AT MOST 1048576: true; the input reads as it did. -/
def agreeTellsUptoRow : OpenClaim := { program := "ytjgppeeplkidpaagreat", sum := "28b196aa04cb7e63092898ec76cec635e705c6962553e2c716646f66fdc0660b", func := "triforium/triforiumlaw28.AgreeTells", spec := "agreeTells", unfollowed := true, recurses := true, apart := false, narrowed := true }
def AgreeTellsUptoSaid : Prop := agreeTellsUptoRow.holds Tryz.pinned (OpenSpec.upto agreeTellsSpec)

/-- 'triforiumlaw41.TwinsTells', WHERE WHAT IT READS IS OF BULK AT MOST 1048576: true; the input reads as it did. -/
def twinsTellsUptoRow : OpenClaim := { program := "ytjgppeeplkidpaagreat", sum := "28b196aa04cb7e63092898ec76cec635e705c6962553e2c716646f66fdc0660b", func := "triforium/triforiumlaw41.TwinsTells", spec := "twinsTells", inPlace := ["slices.overlaps[triforium/api.Span]", "internal/bytealg.IndexByteString", "internal/bytealg.IndexString"], unfollowed := true, recurses := true, named := ["internal/bytealg.MaxLen"], apart := false, narrowed := true }
def TwinsTellsUptoSaid : Prop := twinsTellsUptoRow.holds Tryz.pinned (OpenSpec.upto twinsTellsSpec)

end Rows
end Go.Proofs.YtjgppeeplkidpaaGreat
