/-
  What operations come to at each type (letters allowed). Printed by a program of mine (Facts).
-/
import Derived.Test.YtieagjcojildgaaGreatAMc
import Derived.Test.YtieagjcojildgaaGreatChecked
import Derived.KernelRfl
namespace Go.AM
attribute [local instance] fnMaps
open Go Go.Proofs
set_option maxRecDepth 100000
@[irreducible] noncomputable def tyT : Trie TI := @Env.ty trieMaps (@Env.of trieMaps Tryz.prog)
noncomputable def E : Env := ⟨Tryz.prog, fun k => Trie.get tyT k, fun k => Tryz.prog.funcs[k]?, orcOf [(4, .bool true)]⟩
theorem part_2 (cs : List Value) (o : Nat) : partV E 2 cs o = cs[o]? := by kernel_rfl
theorem eq_2 (d : Nat) (a b : Int) : eqV E (d + 1) 2 (.int .i64 a) (.int .i64 b) = some (eqI a b) := by kernel_rfl
theorem agg_3 : aggOf E 3 = some none := by kernel_rfl
theorem part_3 (cs : List Value) (o : Nat) : partV E 3 cs o = cs[o]? := by kernel_rfl
theorem eq_3 (d : Nat) (a b : Int) : eqV E (d + 1) 3 (.int .i64 a) (.int .i64 b) = some (eqI a b) := by kernel_rfl
theorem agg_5 : aggOf E 5 = some none := by kernel_rfl
theorem size_5 : E.size 5 = some 1 := by kernel_rfl
theorem part_5 (cs : List Value) (o : Nat) : partV E 5 cs o = cs[o]? := by kernel_rfl
theorem eq_5 (d : Nat) (a b : Int) : eqV E (d + 1) 5 (.int .u8 a) (.int .u8 b) = some (eqI a b) := by kernel_rfl
theorem agg_9 : aggOf E 9 = some none := by kernel_rfl
theorem size_9 : E.size 9 = some 1 := by kernel_rfl
theorem len_9 (H : Heap) (s : ByteArray) : builtinV E H .len [9] [.string s] = some (.int .i64 s.size, H) := by kernel_rfl
theorem ia_22 (r o n c : Nat) (k : IntKind) (i : Int) : indexAddrV E 22 (.slice (some ⟨r, o, none⟩) n c) (.int k i) = (at? i n).bind fun i => some (ptr r (o + i * 11)) := by kernel_rfl
theorem len_22 (H : Heap) (a : Option Addr) (n c : Nat) : builtinV E H .len [22] [.slice a n c] = some (.int .i64 n, H) := by kernel_rfl
theorem app_22 (H : Heap) (s : Value) (a : Option Addr) (n c : Nat) : builtinV E H .append [22, 22] [s, .slice a n c] = (cellsOf H (n * 11) (.slice a n c)).bind fun l => appendV E H 30 s n l := by kernel_rfl
theorem appT_22 (H : Heap) (s : Value) (k : Nat) (new : List Value) : appendV E H 30 s k new = appendT 11 88 H s k new := by kernel_rfl
theorem bs_22 (T : Tr Value) (H : Heap) (len : Nat) (ps : List (Nat × Operand)) : buildSliceV E T H 22 len ps = bif (!Nat.ble (len * 11) 10000000 || false) then none else (evParts T (fun k => some (k * 11, 11)) ps).bind fun ps => (fillV (repeatCells [(.int .i64 0), (.int .i64 0), (.int .i64 0), (.int .i64 0), (.int .i64 0), (.int .i64 0), (.int .u64 0), (.int .i64 0), (.int .i64 0), (.int .i64 0), (.int .u8 0)] len) ps).bind fun l => some (.slice (some ⟨H.next, 0, none⟩) len len, H.newRow l) := by kernel_rfl
theorem ia_23 (r o n c : Nat) (k : IntKind) (i : Int) : indexAddrV E 23 (.slice (some ⟨r, o, none⟩) n c) (.int k i) = (at? i n).bind fun i => some (ptr r (o + i * 1)) := by kernel_rfl
theorem len_23 (H : Heap) (a : Option Addr) (n c : Nat) : builtinV E H .len [23] [.slice a n c] = some (.int .i64 n, H) := by kernel_rfl
theorem part_27 (cs : List Value) (o : Nat) : partV E 27 cs o = (cut cs o 2).bind fun l => some (.agg l.toArray) := by kernel_rfl
theorem eq_27 (d : Nat) (xs ys : Array Value) : eqV E (d + 1) 27 (.agg xs) (.agg ys) = eqFields E (eqV E d) xs.toList ys.toList [(0, 3), (1, 2)] := by kernel_rfl
theorem part_28 (cs : List Value) (o : Nat) : partV E 28 cs o = cs[o]? := by kernel_rfl
theorem eq_28 (d : Nat) (a b : Int) : eqV E (d + 1) 28 (.int .u64 a) (.int .u64 b) = some (eqI a b) := by kernel_rfl
theorem agg_30 : aggOf E 30 = some (some 11) := by kernel_rfl
theorem size_30 : E.size 30 = some 11 := by kernel_rfl
theorem zero_30 : zeroOf E 30 = some (.agg #[(.int .i64 0), (.int .i64 0), (.int .i64 0), (.int .i64 0), (.int .i64 0), (.int .i64 0), (.int .u64 0), (.int .i64 0), (.int .i64 0), (.int .i64 0), (.int .u8 0)]) := by kernel_rfl
theorem fa_30_0 (r o : Nat) : fieldAddrV E 30 (ptr r o) 0 = some (ptr r (o + 0)) := by kernel_rfl
theorem fa_30_9 (r o : Nat) : fieldAddrV E 30 (ptr r o) 9 = some (ptr r (o + 10)) := by kernel_rfl
theorem eq_30 (d : Nat) (xs ys : Array Value) : eqV E (d + 1) 30 (.agg xs) (.agg ys) = eqFields E (eqV E d) xs.toList ys.toList [(0, 3), (1, 3), (2, 3), (3, 3), (4, 27), (6, 28), (7, 3), (8, 3), (9, 3), (10, 5)] := by kernel_rfl
theorem agg_67 : aggOf E 67 = some (some 3) := by kernel_rfl
theorem size_67 : E.size 67 = some 3 := by kernel_rfl
theorem zero_67 : zeroOf E 67 = some (.agg #[(.string ⟨#[]⟩), (.string ⟨#[]⟩), .nilFunc]) := by kernel_rfl
theorem fa_67_0 (r o : Nat) : fieldAddrV E 67 (ptr r o) 0 = some (ptr r (o + 0)) := by kernel_rfl
theorem fa_67_1 (r o : Nat) : fieldAddrV E 67 (ptr r o) 1 = some (ptr r (o + 1)) := by kernel_rfl
theorem lit_67 (T : Tr Value) (ps : List (Nat × Operand)) : structLit E T 67 ps = (evParts T (fun k => [(0, 1), (1, 1), (2, 1)][k]?) ps).bind fun ps => (fillV [(.string ⟨#[]⟩), (.string ⟨#[]⟩), .nilFunc] ps).bind fun l => some (.agg l.toArray) := by kernel_rfl
theorem ia_82 (r o n c : Nat) (k : IntKind) (i : Int) : indexAddrV E 82 (.slice (some ⟨r, o, none⟩) n c) (.int k i) = (at? i n).bind fun i => some (ptr r (o + i * 3)) := by kernel_rfl
theorem len_82 (H : Heap) (a : Option Addr) (n c : Nat) : builtinV E H .len [82] [.slice a n c] = some (.int .i64 n, H) := by kernel_rfl
theorem bs_82 (T : Tr Value) (H : Heap) (len : Nat) (ps : List (Nat × Operand)) : buildSliceV E T H 82 len ps = bif (!Nat.ble (len * 3) 10000000 || false) then none else (evParts T (fun k => some (k * 3, 3)) ps).bind fun ps => (fillV (repeatCells [(.string ⟨#[]⟩), (.string ⟨#[]⟩), .nilFunc] len) ps).bind fun l => some (.slice (some ⟨H.next, 0, none⟩) len len, H.newRow l) := by kernel_rfl
end Go.AM
