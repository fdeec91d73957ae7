/-
  What operations come to at each type (letters allowed). Printed by a program of mine (Facts).
-/
import Derived.Test.YtpobgjjaalbdaaaGreatAMc
import Derived.Test.YtpobgjjaalbdaaaGreatChecked
import Derived.KernelRfl
namespace Go.AM
attribute [local instance] fnMaps
open Go Go.Proofs
set_option maxRecDepth 100000
@[irreducible] noncomputable def tyT : Trie TI := @Env.ty trieMaps (@Env.of trieMaps Tryz.prog)
noncomputable def E : Env := ⟨Tryz.prog, fun k => Trie.get tyT k, fun k => Tryz.prog.funcs[k]?, orcOf [(4, .bool true)]⟩
theorem agg_3 : aggOf E 3 = some none := by kernel_rfl
theorem size_3 : E.size 3 = some 1 := by kernel_rfl
theorem part_3 (cs : List Value) (o : Nat) : partV E 3 cs o = cs[o]? := by kernel_rfl
theorem eq_3 (d : Nat) (a b : Int) : eqV E (d + 1) 3 (.int .i64 a) (.int .i64 b) = some (eqI a b) := by kernel_rfl
theorem agg_5 : aggOf E 5 = some none := by kernel_rfl
theorem size_5 : E.size 5 = some 1 := by kernel_rfl
theorem part_5 (cs : List Value) (o : Nat) : partV E 5 cs o = cs[o]? := by kernel_rfl
theorem eq_5 (d : Nat) (a b : Int) : eqV E (d + 1) 5 (.int .u8 a) (.int .u8 b) = some (eqI a b) := by kernel_rfl
theorem agg_9 : aggOf E 9 = some none := by kernel_rfl
theorem size_9 : E.size 9 = some 1 := by kernel_rfl
theorem len_9 (H : Heap) (s : ByteArray) : builtinV E H .len [9] [.string s] = some (.int .i64 s.size, H) := by kernel_rfl
theorem agg_23 : aggOf E 23 = some (some 2) := by kernel_rfl
theorem size_23 : E.size 23 = some 2 := by kernel_rfl
theorem part_23 (cs : List Value) (o : Nat) : partV E 23 cs o = (cut cs o 2).bind fun l => some (.agg l.toArray) := by kernel_rfl
theorem zero_23 : zeroOf E 23 = some (.agg #[(.int .i64 0), (.int .i64 0)]) := by kernel_rfl
theorem lit_23 (T : Tr Value) (ps : List (Nat × Operand)) : structLit E T 23 ps = (evParts T (fun k => [(0, 1), (1, 1)][k]?) ps).bind fun ps => (fillV [(.int .i64 0), (.int .i64 0)] ps).bind fun l => some (.agg l.toArray) := by kernel_rfl
theorem eq_23 (d : Nat) (xs ys : Array Value) : eqV E (d + 1) 23 (.agg xs) (.agg ys) = eqFields E (eqV E d) xs.toList ys.toList [(0, 3), (1, 2)] := by kernel_rfl
theorem agg_24 : aggOf E 24 = some none := by kernel_rfl
theorem size_24 : E.size 24 = some 1 := by kernel_rfl
theorem part_24 (cs : List Value) (o : Nat) : partV E 24 cs o = cs[o]? := by kernel_rfl
theorem eq_24 (d : Nat) (a b : Int) : eqV E (d + 1) 24 (.int .u64 a) (.int .u64 b) = some (eqI a b) := by kernel_rfl
theorem agg_26 : aggOf E 26 = some (some 11) := by kernel_rfl
theorem size_26 : E.size 26 = some 11 := by kernel_rfl
theorem zero_26 : zeroOf E 26 = some (.agg #[(.int .i64 0), (.int .i64 0), (.int .i64 0), (.int .i64 0), (.int .i64 0), (.int .i64 0), (.int .u64 0), (.int .i64 0), (.int .i64 0), (.int .i64 0), (.int .u8 0)]) := by kernel_rfl
theorem fa_26_0 (r o : Nat) : fieldAddrV E 26 (ptr r o) 0 = some (ptr r (o + 0)) := by kernel_rfl
theorem fa_26_1 (r o : Nat) : fieldAddrV E 26 (ptr r o) 1 = some (ptr r (o + 1)) := by kernel_rfl
theorem fa_26_2 (r o : Nat) : fieldAddrV E 26 (ptr r o) 2 = some (ptr r (o + 2)) := by kernel_rfl
theorem fa_26_3 (r o : Nat) : fieldAddrV E 26 (ptr r o) 3 = some (ptr r (o + 3)) := by kernel_rfl
theorem fa_26_4 (r o : Nat) : fieldAddrV E 26 (ptr r o) 4 = some (ptr r (o + 4)) := by kernel_rfl
theorem fa_26_5 (r o : Nat) : fieldAddrV E 26 (ptr r o) 5 = some (ptr r (o + 6)) := by kernel_rfl
theorem fa_26_6 (r o : Nat) : fieldAddrV E 26 (ptr r o) 6 = some (ptr r (o + 7)) := by kernel_rfl
theorem fa_26_7 (r o : Nat) : fieldAddrV E 26 (ptr r o) 7 = some (ptr r (o + 8)) := by kernel_rfl
theorem fa_26_8 (r o : Nat) : fieldAddrV E 26 (ptr r o) 8 = some (ptr r (o + 9)) := by kernel_rfl
theorem fa_26_9 (r o : Nat) : fieldAddrV E 26 (ptr r o) 9 = some (ptr r (o + 10)) := by kernel_rfl
theorem lit_26 (T : Tr Value) (ps : List (Nat × Operand)) : structLit E T 26 ps = (evParts T (fun k => [(0, 1), (1, 1), (2, 1), (3, 1), (4, 2), (6, 1), (7, 1), (8, 1), (9, 1), (10, 1)][k]?) ps).bind fun ps => (fillV [(.int .i64 0), (.int .i64 0), (.int .i64 0), (.int .i64 0), (.int .i64 0), (.int .i64 0), (.int .u64 0), (.int .i64 0), (.int .i64 0), (.int .i64 0), (.int .u8 0)] ps).bind fun l => some (.agg l.toArray) := by kernel_rfl
theorem eq_26 (d : Nat) (xs ys : Array Value) : eqV E (d + 1) 26 (.agg xs) (.agg ys) = eqFields E (eqV E d) xs.toList ys.toList [(0, 3), (1, 3), (2, 3), (3, 3), (4, 23), (6, 24), (7, 3), (8, 3), (9, 3), (10, 5)] := by kernel_rfl
theorem agg_42 : aggOf E 42 = some (some 3) := by kernel_rfl
theorem size_42 : E.size 42 = some 3 := by kernel_rfl
theorem zero_42 : zeroOf E 42 = some (.agg #[(.string ⟨#[]⟩), (.string ⟨#[]⟩), .nilFunc]) := by kernel_rfl
theorem fa_42_0 (r o : Nat) : fieldAddrV E 42 (ptr r o) 0 = some (ptr r (o + 0)) := by kernel_rfl
theorem fa_42_1 (r o : Nat) : fieldAddrV E 42 (ptr r o) 1 = some (ptr r (o + 1)) := by kernel_rfl
theorem lit_42 (T : Tr Value) (ps : List (Nat × Operand)) : structLit E T 42 ps = (evParts T (fun k => [(0, 1), (1, 1), (2, 1)][k]?) ps).bind fun ps => (fillV [(.string ⟨#[]⟩), (.string ⟨#[]⟩), .nilFunc] ps).bind fun l => some (.agg l.toArray) := by kernel_rfl
theorem ia_45 (r o n c : Nat) (k : IntKind) (i : Int) : indexAddrV E 45 (.slice (some ⟨r, o, none⟩) n c) (.int k i) = (at? i n).bind fun i => some (ptr r (o + i * 1)) := by kernel_rfl
theorem bs_45 (T : Tr Value) (H : Heap) (len : Nat) (ps : List (Nat × Operand)) : buildSliceV E T H 45 len ps = bif (!Nat.ble (len * 1) 10000000 || false) then none else (evParts T (fun k => some (k * 1, 1)) ps).bind fun ps => (fillV (repeatCells [(.string ⟨#[]⟩)] len) ps).bind fun l => some (.slice (some ⟨H.next, 0, none⟩) len len, H.newRow l) := by kernel_rfl
theorem ia_46 (r o n c : Nat) (k : IntKind) (i : Int) : indexAddrV E 46 (.slice (some ⟨r, o, none⟩) n c) (.int k i) = (at? i n).bind fun i => some (ptr r (o + i * 3)) := by kernel_rfl
theorem len_46 (H : Heap) (a : Option Addr) (n c : Nat) : builtinV E H .len [46] [.slice a n c] = some (.int .i64 n, H) := by kernel_rfl
theorem bs_46 (T : Tr Value) (H : Heap) (len : Nat) (ps : List (Nat × Operand)) : buildSliceV E T H 46 len ps = bif (!Nat.ble (len * 3) 10000000 || false) then none else (evParts T (fun k => some (k * 3, 3)) ps).bind fun ps => (fillV (repeatCells [(.string ⟨#[]⟩), (.string ⟨#[]⟩), .nilFunc] len) ps).bind fun l => some (.slice (some ⟨H.next, 0, none⟩) len len, H.newRow l) := by kernel_rfl
end Go.AM
