/-
  What operations come to at each type (letters allowed). Printed by a program of mine (Facts).
-/
import Derived.Test.YtjggpambckfilaaGreatAMc
import Derived.Test.YtjggpambckfilaaGreatChecked
import Derived.KernelRfl
namespace Go.AM
attribute [local instance] fnMaps
open Go Go.Proofs
set_option maxRecDepth 100000
@[irreducible] noncomputable def tyT : Trie TI := @Env.ty trieMaps (@Env.of trieMaps Tryz.prog)
noncomputable def E : Env := ⟨Tryz.prog, fun k => Trie.get tyT k, fun k => Tryz.prog.funcs[k]?, orcOf [(4, .bool true)]⟩
theorem agg_3 : aggOf E 3 = some none := by kernel_rfl
theorem ia_22 (r o n c : Nat) (k : IntKind) (i : Int) : indexAddrV E 22 (.slice (some ⟨r, o, none⟩) n c) (.int k i) = (at? i n).bind fun i => some (ptr r (o + i * 3)) := by kernel_rfl
theorem len_22 (H : Heap) (a : Option Addr) (n c : Nat) : builtinV E H .len [22] [.slice a n c] = some (.int .i64 n, H) := by kernel_rfl
theorem ia_24 (r o n c : Nat) (k : IntKind) (i : Int) : indexAddrV E 24 (.slice (some ⟨r, o, none⟩) n c) (.int k i) = (at? i n).bind fun i => some (ptr r (o + i * 3)) := by kernel_rfl
theorem len_24 (H : Heap) (a : Option Addr) (n c : Nat) : builtinV E H .len [24] [.slice a n c] = some (.int .i64 n, H) := by kernel_rfl
theorem app_24 (H : Heap) (s : Value) (a : Option Addr) (n c : Nat) : builtinV E H .append [24, 24] [s, .slice a n c] = (cellsOf H (n * 3) (.slice a n c)).bind fun l => appendV E H 28 s n l := by kernel_rfl
theorem appT_24 (H : Heap) (s : Value) (k : Nat) (new : List Value) : appendV E H 28 s k new = appendT 3 24 H s k new := by kernel_rfl
theorem bs_24 (T : Tr Value) (H : Heap) (len : Nat) (ps : List (Nat × Operand)) : buildSliceV E T H 24 len ps = bif (!Nat.ble (len * 3) 10000000 || false) then none else (evParts T (fun k => some (k * 3, 3)) ps).bind fun ps => (fillV (repeatCells [(.int .i64 0), (.int .i64 0), (.int .i64 0)] len) ps).bind fun l => some (.slice (some ⟨H.next, 0, none⟩) len len, H.newRow l) := by kernel_rfl
theorem ia_25 (r o n c : Nat) (k : IntKind) (i : Int) : indexAddrV E 25 (.slice (some ⟨r, o, none⟩) n c) (.int k i) = (at? i n).bind fun i => some (ptr r (o + i * 3)) := by kernel_rfl
theorem len_25 (H : Heap) (a : Option Addr) (n c : Nat) : builtinV E H .len [25] [.slice a n c] = some (.int .i64 n, H) := by kernel_rfl
theorem app_25 (H : Heap) (s : Value) (a : Option Addr) (n c : Nat) : builtinV E H .append [25, 25] [s, .slice a n c] = (cellsOf H (n * 3) (.slice a n c)).bind fun l => appendV E H 29 s n l := by kernel_rfl
theorem appT_25 (H : Heap) (s : Value) (k : Nat) (new : List Value) : appendV E H 29 s k new = appendT 3 24 H s k new := by kernel_rfl
theorem bs_25 (T : Tr Value) (H : Heap) (len : Nat) (ps : List (Nat × Operand)) : buildSliceV E T H 25 len ps = bif (!Nat.ble (len * 3) 10000000 || false) then none else (evParts T (fun k => some (k * 3, 3)) ps).bind fun ps => (fillV (repeatCells [(.int .i64 0), (.int .i64 0), (.int .i64 0)] len) ps).bind fun l => some (.slice (some ⟨H.next, 0, none⟩) len len, H.newRow l) := by kernel_rfl
theorem ia_26 (r o : Nat) (k : IntKind) (i : Int) : indexAddrV E 26 (ptr r o) (.int k i) = (at? i 3).bind fun i => some (ptr r (o + i * 1)) := by kernel_rfl
theorem agg_28 : aggOf E 28 = some (some 3) := by kernel_rfl
theorem size_28 : E.size 28 = some 3 := by kernel_rfl
theorem zero_28 : zeroOf E 28 = some (.agg #[(.int .i64 0), (.int .i64 0), (.int .i64 0)]) := by kernel_rfl
theorem fa_28_0 (r o : Nat) : fieldAddrV E 28 (ptr r o) 0 = some (ptr r (o + 0)) := by kernel_rfl
theorem fa_28_1 (r o : Nat) : fieldAddrV E 28 (ptr r o) 1 = some (ptr r (o + 1)) := by kernel_rfl
theorem fa_28_2 (r o : Nat) : fieldAddrV E 28 (ptr r o) 2 = some (ptr r (o + 2)) := by kernel_rfl
theorem lit_28 (T : Tr Value) (ps : List (Nat × Operand)) : structLit E T 28 ps = (evParts T (fun k => [(0, 1), (1, 1), (2, 1)][k]?) ps).bind fun ps => (fillV [(.int .i64 0), (.int .i64 0), (.int .i64 0)] ps).bind fun l => some (.agg l.toArray) := by kernel_rfl
theorem fa_29_0 (r o : Nat) : fieldAddrV E 29 (ptr r o) 0 = some (ptr r (o + 0)) := by kernel_rfl
theorem fa_29_1 (r o : Nat) : fieldAddrV E 29 (ptr r o) 1 = some (ptr r (o + 1)) := by kernel_rfl
theorem fa_29_2 (r o : Nat) : fieldAddrV E 29 (ptr r o) 2 = some (ptr r (o + 2)) := by kernel_rfl
theorem lit_29 (T : Tr Value) (ps : List (Nat × Operand)) : structLit E T 29 ps = (evParts T (fun k => [(0, 1), (1, 1), (2, 1)][k]?) ps).bind fun ps => (fillV [(.int .i64 0), (.int .i64 0), (.int .i64 0)] ps).bind fun l => some (.agg l.toArray) := by kernel_rfl
end Go.AM
