/-
  What operations come to at each type (letters allowed). Printed by a program of mine (Facts).
-/
import Derived.Test.YtbkhcbddbefepaaGreatAMc
import Derived.Test.YtbkhcbddbefepaaGreatChecked
import Derived.KernelRfl
set_option linter.unusedSimpArgs false
namespace Go.AM
attribute [local instance] fnMaps
open Go Go.Proofs
set_option maxRecDepth 100000
@[irreducible] noncomputable def tyT : Trie TI := @Env.ty trieMaps (@Env.of trieMaps Tryz.prog)
noncomputable def E : Env := ⟨Tryz.prog, fun k => Trie.get tyT k, fun k => Tryz.prog.funcs[k]?, orcOf [(5, .bool true)]⟩
theorem agg_2 : aggOf E 2 = some none := by kernel_rfl
theorem size_2 : E.size 2 = some 1 := by kernel_rfl
theorem part_2 (cs : List Value) (o : Nat) : partV E 2 cs o = cs[o]? := by kernel_rfl
theorem zero_2 : zeroOf E 2 = some (.int .i64 0) := by kernel_rfl
theorem eq_2 (d : Nat) (a b : Int) : eqV E (d + 1) 2 (.int .i64 a) (.int .i64 b) = some (eqI a b) := by kernel_rfl
theorem agg_3 : aggOf E 3 = some none := by kernel_rfl
theorem size_3 : E.size 3 = some 1 := by kernel_rfl
theorem part_3 (cs : List Value) (o : Nat) : partV E 3 cs o = cs[o]? := by kernel_rfl
theorem zero_3 : zeroOf E 3 = some (.int .i64 0) := by kernel_rfl
theorem eq_3 (d : Nat) (a b : Int) : eqV E (d + 1) 3 (.int .i64 a) (.int .i64 b) = some (eqI a b) := by kernel_rfl
theorem agg_4 : aggOf E 4 = some none := by kernel_rfl
theorem size_4 : E.size 4 = some 1 := by kernel_rfl
theorem part_4 (cs : List Value) (o : Nat) : partV E 4 cs o = cs[o]? := by kernel_rfl
theorem zero_4 : zeroOf E 4 = some (.bool false) := by kernel_rfl
theorem eq_4 (d : Nat) (a b : Bool) : eqV E (d + 1) 4 (.bool a) (.bool b) = some (a == b) := by kernel_rfl
theorem agg_5 : aggOf E 5 = some none := by kernel_rfl
theorem size_5 : E.size 5 = some 1 := by kernel_rfl
theorem part_5 (cs : List Value) (o : Nat) : partV E 5 cs o = cs[o]? := by kernel_rfl
theorem zero_5 : zeroOf E 5 = some (.int .u8 0) := by kernel_rfl
theorem eq_5 (d : Nat) (a b : Int) : eqV E (d + 1) 5 (.int .u8 a) (.int .u8 b) = some (eqI a b) := by kernel_rfl
theorem agg_23 : aggOf E 23 = some (some 2) := by kernel_rfl
theorem size_23 : E.size 23 = some 2 := by kernel_rfl
theorem part_23 (cs : List Value) (o : Nat) : partV E 23 cs o = (cut cs o 2).bind fun l => some (.agg l.toArray) := by kernel_rfl
theorem zero_23 : zeroOf E 23 = some (.agg #[(.int .i64 0), (.int .i64 0)]) := by kernel_rfl
theorem fa_23_0 (r o : Nat) : fieldAddrV E 23 (ptr r o) 0 = some (ptr r (o + 0)) := by kernel_rfl
theorem fv_23_0 (cs : Array Value) : fieldV E 23 (.agg cs) 0 = partV E 3 cs.toList 0 := by kernel_rfl
theorem fa_23_1 (r o : Nat) : fieldAddrV E 23 (ptr r o) 1 = some (ptr r (o + 1)) := by kernel_rfl
theorem fv_23_1 (cs : Array Value) : fieldV E 23 (.agg cs) 1 = partV E 2 cs.toList 1 := by kernel_rfl
theorem lit_23 (T : Tr Value) (ps : List (Nat × Operand)) : structLit E T 23 ps = (evParts T (fun k => [(0, 1), (1, 1)][k]?) ps).bind fun ps => (fillV [(.int .i64 0), (.int .i64 0)] ps).bind fun l => some (.agg l.toArray) := by kernel_rfl
theorem eq_23 (d : Nat) (xs ys : Array Value) : eqV E (d + 1) 23 (.agg xs) (.agg ys) = eqFields E (eqV E d) xs.toList ys.toList [(0, 3), (1, 2)] := by kernel_rfl
theorem agg_24 : aggOf E 24 = some none := by kernel_rfl
theorem size_24 : E.size 24 = some 1 := by kernel_rfl
theorem part_24 (cs : List Value) (o : Nat) : partV E 24 cs o = cs[o]? := by kernel_rfl
theorem zero_24 : zeroOf E 24 = some (.int .u64 0) := by kernel_rfl
theorem eq_24 (d : Nat) (a b : Int) : eqV E (d + 1) 24 (.int .u64 a) (.int .u64 b) = some (eqI a b) := by kernel_rfl
theorem agg_26 : aggOf E 26 = some (some 11) := by kernel_rfl
theorem size_26 : E.size 26 = some 11 := by kernel_rfl
theorem part_26 (cs : List Value) (o : Nat) : partV E 26 cs o = (cut cs o 11).bind fun l => some (.agg l.toArray) := by kernel_rfl
theorem zero_26 : zeroOf E 26 = some (.agg #[(.int .i64 0), (.int .i64 0), (.int .i64 0), (.int .i64 0), (.int .i64 0), (.int .i64 0), (.int .u64 0), (.int .i64 0), (.int .i64 0), (.int .i64 0), (.int .u8 0)]) := by kernel_rfl
theorem fa_26_0 (r o : Nat) : fieldAddrV E 26 (ptr r o) 0 = some (ptr r (o + 0)) := by kernel_rfl
theorem fv_26_0 (cs : Array Value) : fieldV E 26 (.agg cs) 0 = partV E 3 cs.toList 0 := by kernel_rfl
theorem fa_26_1 (r o : Nat) : fieldAddrV E 26 (ptr r o) 1 = some (ptr r (o + 1)) := by kernel_rfl
theorem fv_26_1 (cs : Array Value) : fieldV E 26 (.agg cs) 1 = partV E 3 cs.toList 1 := by kernel_rfl
theorem fa_26_2 (r o : Nat) : fieldAddrV E 26 (ptr r o) 2 = some (ptr r (o + 2)) := by kernel_rfl
theorem fv_26_2 (cs : Array Value) : fieldV E 26 (.agg cs) 2 = partV E 3 cs.toList 2 := by kernel_rfl
theorem fa_26_3 (r o : Nat) : fieldAddrV E 26 (ptr r o) 3 = some (ptr r (o + 3)) := by kernel_rfl
theorem fv_26_3 (cs : Array Value) : fieldV E 26 (.agg cs) 3 = partV E 3 cs.toList 3 := by kernel_rfl
theorem fa_26_4 (r o : Nat) : fieldAddrV E 26 (ptr r o) 4 = some (ptr r (o + 4)) := by kernel_rfl
theorem fv_26_4 (cs : Array Value) : fieldV E 26 (.agg cs) 4 = partV E 23 cs.toList 4 := by kernel_rfl
theorem fa_26_5 (r o : Nat) : fieldAddrV E 26 (ptr r o) 5 = some (ptr r (o + 6)) := by kernel_rfl
theorem fv_26_5 (cs : Array Value) : fieldV E 26 (.agg cs) 5 = partV E 24 cs.toList 6 := by kernel_rfl
theorem fa_26_6 (r o : Nat) : fieldAddrV E 26 (ptr r o) 6 = some (ptr r (o + 7)) := by kernel_rfl
theorem fv_26_6 (cs : Array Value) : fieldV E 26 (.agg cs) 6 = partV E 3 cs.toList 7 := by kernel_rfl
theorem fa_26_7 (r o : Nat) : fieldAddrV E 26 (ptr r o) 7 = some (ptr r (o + 8)) := by kernel_rfl
theorem fv_26_7 (cs : Array Value) : fieldV E 26 (.agg cs) 7 = partV E 3 cs.toList 8 := by kernel_rfl
theorem fa_26_8 (r o : Nat) : fieldAddrV E 26 (ptr r o) 8 = some (ptr r (o + 9)) := by kernel_rfl
theorem fv_26_8 (cs : Array Value) : fieldV E 26 (.agg cs) 8 = partV E 3 cs.toList 9 := by kernel_rfl
theorem fa_26_9 (r o : Nat) : fieldAddrV E 26 (ptr r o) 9 = some (ptr r (o + 10)) := by kernel_rfl
theorem fv_26_9 (cs : Array Value) : fieldV E 26 (.agg cs) 9 = partV E 5 cs.toList 10 := by kernel_rfl
theorem lit_26 (T : Tr Value) (ps : List (Nat × Operand)) : structLit E T 26 ps = (evParts T (fun k => [(0, 1), (1, 1), (2, 1), (3, 1), (4, 2), (6, 1), (7, 1), (8, 1), (9, 1), (10, 1)][k]?) ps).bind fun ps => (fillV [(.int .i64 0), (.int .i64 0), (.int .i64 0), (.int .i64 0), (.int .i64 0), (.int .i64 0), (.int .u64 0), (.int .i64 0), (.int .i64 0), (.int .i64 0), (.int .u8 0)] ps).bind fun l => some (.agg l.toArray) := by kernel_rfl
theorem eq_26 (d : Nat) (xs ys : Array Value) : eqV E (d + 1) 26 (.agg xs) (.agg ys) = eqFields E (eqV E d) xs.toList ys.toList [(0, 3), (1, 3), (2, 3), (3, 3), (4, 23), (6, 24), (7, 3), (8, 3), (9, 3), (10, 5)] := by kernel_rfl
theorem agg_28 : aggOf E 28 = some (some 4) := by kernel_rfl
theorem size_28 : E.size 28 = some 4 := by kernel_rfl
theorem part_28 (cs : List Value) (o : Nat) : partV E 28 cs o = (cut cs o 4).bind fun l => some (.agg l.toArray) := by kernel_rfl
theorem zero_28 : zeroOf E 28 = some (.agg #[(.int .i64 0), (.int .i64 0), (.int .i64 0), (.int .i64 0)]) := by kernel_rfl
theorem fa_28_0 (r o : Nat) : fieldAddrV E 28 (ptr r o) 0 = some (ptr r (o + 0)) := by kernel_rfl
theorem fv_28_0 (cs : Array Value) : fieldV E 28 (.agg cs) 0 = partV E 3 cs.toList 0 := by kernel_rfl
theorem fa_28_1 (r o : Nat) : fieldAddrV E 28 (ptr r o) 1 = some (ptr r (o + 1)) := by kernel_rfl
theorem fv_28_1 (cs : Array Value) : fieldV E 28 (.agg cs) 1 = partV E 3 cs.toList 1 := by kernel_rfl
theorem fa_28_2 (r o : Nat) : fieldAddrV E 28 (ptr r o) 2 = some (ptr r (o + 2)) := by kernel_rfl
theorem fv_28_2 (cs : Array Value) : fieldV E 28 (.agg cs) 2 = partV E 3 cs.toList 2 := by kernel_rfl
theorem fa_28_3 (r o : Nat) : fieldAddrV E 28 (ptr r o) 3 = some (ptr r (o + 3)) := by kernel_rfl
theorem fv_28_3 (cs : Array Value) : fieldV E 28 (.agg cs) 3 = partV E 3 cs.toList 3 := by kernel_rfl
theorem lit_28 (T : Tr Value) (ps : List (Nat × Operand)) : structLit E T 28 ps = (evParts T (fun k => [(0, 1), (1, 1), (2, 1), (3, 1)][k]?) ps).bind fun ps => (fillV [(.int .i64 0), (.int .i64 0), (.int .i64 0), (.int .i64 0)] ps).bind fun l => some (.agg l.toArray) := by kernel_rfl
theorem eq_28 (d : Nat) (xs ys : Array Value) : eqV E (d + 1) 28 (.agg xs) (.agg ys) = eqFields E (eqV E d) xs.toList ys.toList [(0, 3), (1, 3), (2, 3), (3, 3)] := by kernel_rfl
theorem agg_29 : aggOf E 29 = some none := by kernel_rfl
theorem size_29 : E.size 29 = some 1 := by kernel_rfl
theorem part_29 (cs : List Value) (o : Nat) : partV E 29 cs o = cs[o]? := by kernel_rfl
theorem zero_29 : zeroOf E 29 = some (.slice none 0 0) := by kernel_rfl
theorem ia_29 (r o n c : Nat) (k : IntKind) (i : Int) : indexAddrV E 29 (.slice (some ⟨r, o, none⟩) n c) (.int k i) = (at? i n).bind fun i => some (ptr r (o + i * 1)) := by kernel_rfl
theorem sc_29 (H : Heap) (r o n c : Nat) (lo hi mx : Option Value) : sliceV E H 29 (.slice (some ⟨r, o, none⟩) n c) lo hi mx = slS E H 1 r o n c lo hi mx := by kernel_rfl
theorem len_29 (H : Heap) (a : Option Addr) (n c : Nat) : builtinV E H .len [29] [.slice a n c] = some (.int .i64 n, H) := by kernel_rfl
theorem app_29 (H : Heap) (s : Value) (a : Option Addr) (n c : Nat) : builtinV E H .append [29, 29] [s, .slice a n c] = (cellsOf H (n * 1) (.slice a n c)).bind fun l => appendV E H 24 s n l := by kernel_rfl
theorem appT_29 (H : Heap) (s : Value) (k : Nat) (new : List Value) : appendV E H 24 s k new = appendT 1 8 H s k new := by kernel_rfl
theorem bs_29 (T : Tr Value) (H : Heap) (len : Nat) (ps : List (Nat × Operand)) : buildSliceV E T H 29 len ps = bif (!Nat.ble (len * 1) 10000000 || false) then none else (evParts T (fun k => some (k * 1, 1)) ps).bind fun ps => (fillV (repeatCells [(.int .u64 0)] len) ps).bind fun l => some (.slice (some ⟨H.next, 0, none⟩) len len, H.newRow l) := by kernel_rfl
theorem eqnil_29 (d : Nat) (a : Option Addr) (n c n' c' : Nat) : eqV E (d + 1) 29 (.slice none n c) (.slice a n' c') = some a.isNone := by kernel_rfl
theorem agg_30 : aggOf E 30 = some none := by kernel_rfl
theorem size_30 : E.size 30 = some 1 := by kernel_rfl
theorem part_30 (cs : List Value) (o : Nat) : partV E 30 cs o = cs[o]? := by kernel_rfl
theorem zero_30 : zeroOf E 30 = some (.slice none 0 0) := by kernel_rfl
theorem ia_30 (r o n c : Nat) (k : IntKind) (i : Int) : indexAddrV E 30 (.slice (some ⟨r, o, none⟩) n c) (.int k i) = (at? i n).bind fun i => some (ptr r (o + i * 2)) := by kernel_rfl
theorem sc_30 (H : Heap) (r o n c : Nat) (lo hi mx : Option Value) : sliceV E H 30 (.slice (some ⟨r, o, none⟩) n c) lo hi mx = slS E H 2 r o n c lo hi mx := by kernel_rfl
theorem len_30 (H : Heap) (a : Option Addr) (n c : Nat) : builtinV E H .len [30] [.slice a n c] = some (.int .i64 n, H) := by kernel_rfl
theorem app_30 (H : Heap) (s : Value) (a : Option Addr) (n c : Nat) : builtinV E H .append [30, 30] [s, .slice a n c] = (cellsOf H (n * 2) (.slice a n c)).bind fun l => appendV E H 102 s n l := by kernel_rfl
theorem appT_30 (H : Heap) (s : Value) (k : Nat) (new : List Value) : appendV E H 102 s k new = appendT 2 16 H s k new := by kernel_rfl
theorem bs_30 (T : Tr Value) (H : Heap) (len : Nat) (ps : List (Nat × Operand)) : buildSliceV E T H 30 len ps = bif (!Nat.ble (len * 2) 10000000 || false) then none else (evParts T (fun k => some (k * 2, 2)) ps).bind fun ps => (fillV (repeatCells [(.int .i64 0), (.int .i64 0)] len) ps).bind fun l => some (.slice (some ⟨H.next, 0, none⟩) len len, H.newRow l) := by kernel_rfl
theorem eqnil_30 (d : Nat) (a : Option Addr) (n c n' c' : Nat) : eqV E (d + 1) 30 (.slice none n c) (.slice a n' c') = some a.isNone := by kernel_rfl
theorem agg_31 : aggOf E 31 = some none := by kernel_rfl
theorem size_31 : E.size 31 = some 1 := by kernel_rfl
theorem part_31 (cs : List Value) (o : Nat) : partV E 31 cs o = cs[o]? := by kernel_rfl
theorem zero_31 : zeroOf E 31 = some (.slice none 0 0) := by kernel_rfl
theorem ia_31 (r o n c : Nat) (k : IntKind) (i : Int) : indexAddrV E 31 (.slice (some ⟨r, o, none⟩) n c) (.int k i) = (at? i n).bind fun i => some (ptr r (o + i * 3)) := by kernel_rfl
theorem sc_31 (H : Heap) (r o n c : Nat) (lo hi mx : Option Value) : sliceV E H 31 (.slice (some ⟨r, o, none⟩) n c) lo hi mx = slS E H 3 r o n c lo hi mx := by kernel_rfl
theorem len_31 (H : Heap) (a : Option Addr) (n c : Nat) : builtinV E H .len [31] [.slice a n c] = some (.int .i64 n, H) := by kernel_rfl
theorem app_31 (H : Heap) (s : Value) (a : Option Addr) (n c : Nat) : builtinV E H .append [31, 31] [s, .slice a n c] = (cellsOf H (n * 3) (.slice a n c)).bind fun l => appendV E H 105 s n l := by kernel_rfl
theorem appT_31 (H : Heap) (s : Value) (k : Nat) (new : List Value) : appendV E H 105 s k new = appendT 3 24 H s k new := by kernel_rfl
theorem bs_31 (T : Tr Value) (H : Heap) (len : Nat) (ps : List (Nat × Operand)) : buildSliceV E T H 31 len ps = bif (!Nat.ble (len * 3) 10000000 || false) then none else (evParts T (fun k => some (k * 3, 3)) ps).bind fun ps => (fillV (repeatCells [(.bool false), (.int .i64 0), (.int .u64 0)] len) ps).bind fun l => some (.slice (some ⟨H.next, 0, none⟩) len len, H.newRow l) := by kernel_rfl
theorem eqnil_31 (d : Nat) (a : Option Addr) (n c n' c' : Nat) : eqV E (d + 1) 31 (.slice none n c) (.slice a n' c') = some a.isNone := by kernel_rfl
theorem agg_33 : aggOf E 33 = some (some 10) := by kernel_rfl
theorem size_33 : E.size 33 = some 10 := by kernel_rfl
theorem part_33 (cs : List Value) (o : Nat) : partV E 33 cs o = (cut cs o 10).bind fun l => some (.agg l.toArray) := by kernel_rfl
theorem zero_33 : zeroOf E 33 = some (.agg #[(.int .i64 0), (.int .i64 0), (.int .i64 0), (.int .i64 0), (.bool false), (.slice none 0 0), (.int .i64 0), (.slice none 0 0), (.slice none 0 0), (.slice none 0 0)]) := by kernel_rfl
theorem fa_33_0 (r o : Nat) : fieldAddrV E 33 (ptr r o) 0 = some (ptr r (o + 0)) := by kernel_rfl
theorem fv_33_0 (cs : Array Value) : fieldV E 33 (.agg cs) 0 = partV E 28 cs.toList 0 := by kernel_rfl
theorem fa_33_1 (r o : Nat) : fieldAddrV E 33 (ptr r o) 1 = some (ptr r (o + 4)) := by kernel_rfl
theorem fv_33_1 (cs : Array Value) : fieldV E 33 (.agg cs) 1 = partV E 4 cs.toList 4 := by kernel_rfl
theorem fa_33_2 (r o : Nat) : fieldAddrV E 33 (ptr r o) 2 = some (ptr r (o + 5)) := by kernel_rfl
theorem fv_33_2 (cs : Array Value) : fieldV E 33 (.agg cs) 2 = partV E 29 cs.toList 5 := by kernel_rfl
theorem fa_33_3 (r o : Nat) : fieldAddrV E 33 (ptr r o) 3 = some (ptr r (o + 6)) := by kernel_rfl
theorem fv_33_3 (cs : Array Value) : fieldV E 33 (.agg cs) 3 = partV E 3 cs.toList 6 := by kernel_rfl
theorem fa_33_4 (r o : Nat) : fieldAddrV E 33 (ptr r o) 4 = some (ptr r (o + 7)) := by kernel_rfl
theorem fv_33_4 (cs : Array Value) : fieldV E 33 (.agg cs) 4 = partV E 30 cs.toList 7 := by kernel_rfl
theorem fa_33_5 (r o : Nat) : fieldAddrV E 33 (ptr r o) 5 = some (ptr r (o + 8)) := by kernel_rfl
theorem fv_33_5 (cs : Array Value) : fieldV E 33 (.agg cs) 5 = partV E 30 cs.toList 8 := by kernel_rfl
theorem fa_33_6 (r o : Nat) : fieldAddrV E 33 (ptr r o) 6 = some (ptr r (o + 9)) := by kernel_rfl
theorem fv_33_6 (cs : Array Value) : fieldV E 33 (.agg cs) 6 = partV E 31 cs.toList 9 := by kernel_rfl
theorem lit_33 (T : Tr Value) (ps : List (Nat × Operand)) : structLit E T 33 ps = (evParts T (fun k => [(0, 4), (4, 1), (5, 1), (6, 1), (7, 1), (8, 1), (9, 1)][k]?) ps).bind fun ps => (fillV [(.int .i64 0), (.int .i64 0), (.int .i64 0), (.int .i64 0), (.bool false), (.slice none 0 0), (.int .i64 0), (.slice none 0 0), (.slice none 0 0), (.slice none 0 0)] ps).bind fun l => some (.agg l.toArray) := by kernel_rfl
theorem eq_33 (d : Nat) (xs ys : Array Value) : eqV E (d + 1) 33 (.agg xs) (.agg ys) = eqFields E (eqV E d) xs.toList ys.toList [(0, 28), (4, 4), (5, 29), (6, 3), (7, 30), (8, 30), (9, 31)] := by kernel_rfl
theorem agg_36 : aggOf E 36 = some none := by kernel_rfl
theorem size_36 : E.size 36 = some 1 := by kernel_rfl
theorem part_36 (cs : List Value) (o : Nat) : partV E 36 cs o = cs[o]? := by kernel_rfl
theorem zero_36 : zeroOf E 36 = some (.pointer none) := by kernel_rfl
theorem eqpn_36 (d r o : Nat) : eqV E (d + 1) 36 (ptr r o) (.pointer none) = some false := by kernel_rfl
theorem eqnn_36 (d : Nat) : eqV E (d + 1) 36 (.pointer none) (.pointer none) = some true := by kernel_rfl
theorem agg_37 : aggOf E 37 = some none := by kernel_rfl
theorem size_37 : E.size 37 = some 1 := by kernel_rfl
theorem part_37 (cs : List Value) (o : Nat) : partV E 37 cs o = cs[o]? := by kernel_rfl
theorem zero_37 : zeroOf E 37 = some (.int .i64 0) := by kernel_rfl
theorem eq_37 (d : Nat) (a b : Int) : eqV E (d + 1) 37 (.int .i64 a) (.int .i64 b) = some (eqI a b) := by kernel_rfl
theorem agg_42 : aggOf E 42 = some (some 12) := by kernel_rfl
theorem size_42 : E.size 42 = some 12 := by kernel_rfl
theorem part_42 (cs : List Value) (o : Nat) : partV E 42 cs o = (cut cs o 12).bind fun l => some (.agg l.toArray) := by kernel_rfl
theorem zero_42 : zeroOf E 42 = some (.agg #[(.bool false), (.int .i64 0), (.int .i64 0), (.int .i64 0), (.int .i64 0), (.bool false), (.slice none 0 0), (.int .i64 0), (.slice none 0 0), (.slice none 0 0), (.slice none 0 0), (.int .i64 0)]) := by kernel_rfl
theorem fa_42_0 (r o : Nat) : fieldAddrV E 42 (ptr r o) 0 = some (ptr r (o + 0)) := by kernel_rfl
theorem fv_42_0 (cs : Array Value) : fieldV E 42 (.agg cs) 0 = partV E 4 cs.toList 0 := by kernel_rfl
theorem fa_42_1 (r o : Nat) : fieldAddrV E 42 (ptr r o) 1 = some (ptr r (o + 1)) := by kernel_rfl
theorem fv_42_1 (cs : Array Value) : fieldV E 42 (.agg cs) 1 = partV E 33 cs.toList 1 := by kernel_rfl
theorem fa_42_2 (r o : Nat) : fieldAddrV E 42 (ptr r o) 2 = some (ptr r (o + 11)) := by kernel_rfl
theorem fv_42_2 (cs : Array Value) : fieldV E 42 (.agg cs) 2 = partV E 3 cs.toList 11 := by kernel_rfl
theorem lit_42 (T : Tr Value) (ps : List (Nat × Operand)) : structLit E T 42 ps = (evParts T (fun k => [(0, 1), (1, 10), (11, 1)][k]?) ps).bind fun ps => (fillV [(.bool false), (.int .i64 0), (.int .i64 0), (.int .i64 0), (.int .i64 0), (.bool false), (.slice none 0 0), (.int .i64 0), (.slice none 0 0), (.slice none 0 0), (.slice none 0 0), (.int .i64 0)] ps).bind fun l => some (.agg l.toArray) := by kernel_rfl
theorem eq_42 (d : Nat) (xs ys : Array Value) : eqV E (d + 1) 42 (.agg xs) (.agg ys) = eqFields E (eqV E d) xs.toList ys.toList [(0, 4), (1, 33), (11, 3)] := by kernel_rfl
theorem agg_44 : aggOf E 44 = some (some 9) := by kernel_rfl
theorem size_44 : E.size 44 = some 9 := by kernel_rfl
theorem part_44 (cs : List Value) (o : Nat) : partV E 44 cs o = (cut cs o 9).bind fun l => some (.agg l.toArray) := by kernel_rfl
theorem zero_44 : zeroOf E 44 = some (.agg #[(.int .i64 0), (.int .i64 0), (.int .i64 0), (.int .i64 0), (.int .u64 0), (.bool false), (.int .i64 0), (.int .i64 0), (.int .i64 0)]) := by kernel_rfl
theorem fa_44_0 (r o : Nat) : fieldAddrV E 44 (ptr r o) 0 = some (ptr r (o + 0)) := by kernel_rfl
theorem fv_44_0 (cs : Array Value) : fieldV E 44 (.agg cs) 0 = partV E 37 cs.toList 0 := by kernel_rfl
theorem fa_44_1 (r o : Nat) : fieldAddrV E 44 (ptr r o) 1 = some (ptr r (o + 1)) := by kernel_rfl
theorem fv_44_1 (cs : Array Value) : fieldV E 44 (.agg cs) 1 = partV E 3 cs.toList 1 := by kernel_rfl
theorem fa_44_2 (r o : Nat) : fieldAddrV E 44 (ptr r o) 2 = some (ptr r (o + 2)) := by kernel_rfl
theorem fv_44_2 (cs : Array Value) : fieldV E 44 (.agg cs) 2 = partV E 23 cs.toList 2 := by kernel_rfl
theorem fa_44_3 (r o : Nat) : fieldAddrV E 44 (ptr r o) 3 = some (ptr r (o + 4)) := by kernel_rfl
theorem fv_44_3 (cs : Array Value) : fieldV E 44 (.agg cs) 3 = partV E 24 cs.toList 4 := by kernel_rfl
theorem fa_44_4 (r o : Nat) : fieldAddrV E 44 (ptr r o) 4 = some (ptr r (o + 5)) := by kernel_rfl
theorem fv_44_4 (cs : Array Value) : fieldV E 44 (.agg cs) 4 = partV E 4 cs.toList 5 := by kernel_rfl
theorem fa_44_5 (r o : Nat) : fieldAddrV E 44 (ptr r o) 5 = some (ptr r (o + 6)) := by kernel_rfl
theorem fv_44_5 (cs : Array Value) : fieldV E 44 (.agg cs) 5 = partV E 3 cs.toList 6 := by kernel_rfl
theorem fa_44_6 (r o : Nat) : fieldAddrV E 44 (ptr r o) 6 = some (ptr r (o + 7)) := by kernel_rfl
theorem fv_44_6 (cs : Array Value) : fieldV E 44 (.agg cs) 6 = partV E 3 cs.toList 7 := by kernel_rfl
theorem fa_44_7 (r o : Nat) : fieldAddrV E 44 (ptr r o) 7 = some (ptr r (o + 8)) := by kernel_rfl
theorem fv_44_7 (cs : Array Value) : fieldV E 44 (.agg cs) 7 = partV E 3 cs.toList 8 := by kernel_rfl
theorem lit_44 (T : Tr Value) (ps : List (Nat × Operand)) : structLit E T 44 ps = (evParts T (fun k => [(0, 1), (1, 1), (2, 2), (4, 1), (5, 1), (6, 1), (7, 1), (8, 1)][k]?) ps).bind fun ps => (fillV [(.int .i64 0), (.int .i64 0), (.int .i64 0), (.int .i64 0), (.int .u64 0), (.bool false), (.int .i64 0), (.int .i64 0), (.int .i64 0)] ps).bind fun l => some (.agg l.toArray) := by kernel_rfl
theorem eq_44 (d : Nat) (xs ys : Array Value) : eqV E (d + 1) 44 (.agg xs) (.agg ys) = eqFields E (eqV E d) xs.toList ys.toList [(0, 37), (1, 3), (2, 23), (4, 24), (5, 4), (6, 3), (7, 3), (8, 3)] := by kernel_rfl
theorem agg_46 : aggOf E 46 = some (some 5) := by kernel_rfl
theorem size_46 : E.size 46 = some 5 := by kernel_rfl
theorem part_46 (cs : List Value) (o : Nat) : partV E 46 cs o = (cut cs o 5).bind fun l => some (.agg l.toArray) := by kernel_rfl
theorem zero_46 : zeroOf E 46 = some (.agg #[(.int .i64 0), (.int .i64 0), (.int .i64 0), (.int .i64 0), (.int .i64 0)]) := by kernel_rfl
theorem fa_46_0 (r o : Nat) : fieldAddrV E 46 (ptr r o) 0 = some (ptr r (o + 0)) := by kernel_rfl
theorem fv_46_0 (cs : Array Value) : fieldV E 46 (.agg cs) 0 = partV E 3 cs.toList 0 := by kernel_rfl
theorem fa_46_1 (r o : Nat) : fieldAddrV E 46 (ptr r o) 1 = some (ptr r (o + 1)) := by kernel_rfl
theorem fv_46_1 (cs : Array Value) : fieldV E 46 (.agg cs) 1 = partV E 3 cs.toList 1 := by kernel_rfl
theorem fa_46_2 (r o : Nat) : fieldAddrV E 46 (ptr r o) 2 = some (ptr r (o + 2)) := by kernel_rfl
theorem fv_46_2 (cs : Array Value) : fieldV E 46 (.agg cs) 2 = partV E 3 cs.toList 2 := by kernel_rfl
theorem fa_46_3 (r o : Nat) : fieldAddrV E 46 (ptr r o) 3 = some (ptr r (o + 3)) := by kernel_rfl
theorem fv_46_3 (cs : Array Value) : fieldV E 46 (.agg cs) 3 = partV E 3 cs.toList 3 := by kernel_rfl
theorem fa_46_4 (r o : Nat) : fieldAddrV E 46 (ptr r o) 4 = some (ptr r (o + 4)) := by kernel_rfl
theorem fv_46_4 (cs : Array Value) : fieldV E 46 (.agg cs) 4 = partV E 3 cs.toList 4 := by kernel_rfl
theorem lit_46 (T : Tr Value) (ps : List (Nat × Operand)) : structLit E T 46 ps = (evParts T (fun k => [(0, 1), (1, 1), (2, 1), (3, 1), (4, 1)][k]?) ps).bind fun ps => (fillV [(.int .i64 0), (.int .i64 0), (.int .i64 0), (.int .i64 0), (.int .i64 0)] ps).bind fun l => some (.agg l.toArray) := by kernel_rfl
theorem eq_46 (d : Nat) (xs ys : Array Value) : eqV E (d + 1) 46 (.agg xs) (.agg ys) = eqFields E (eqV E d) xs.toList ys.toList [(0, 3), (1, 3), (2, 3), (3, 3), (4, 3)] := by kernel_rfl
theorem agg_71 : aggOf E 71 = some none := by kernel_rfl
theorem size_71 : E.size 71 = some 1 := by kernel_rfl
theorem part_71 (cs : List Value) (o : Nat) : partV E 71 cs o = cs[o]? := by kernel_rfl
theorem zero_71 : zeroOf E 71 = some (.pointer none) := by kernel_rfl
theorem eqpn_71 (d r o : Nat) : eqV E (d + 1) 71 (ptr r o) (.pointer none) = some false := by kernel_rfl
theorem eqnn_71 (d : Nat) : eqV E (d + 1) 71 (.pointer none) (.pointer none) = some true := by kernel_rfl
theorem agg_80 : aggOf E 80 = some (some 5) := by kernel_rfl
theorem size_80 : E.size 80 = some 5 := by kernel_rfl
theorem part_80 (cs : List Value) (o : Nat) : partV E 80 cs o = (cut cs o 5).bind fun l => some (.agg l.toArray) := by kernel_rfl
theorem zero_80 : zeroOf E 80 = some (.agg #[(.int .i64 0), (.int .i64 0), (.int .i64 0), (.bool false), (.int .i64 0)]) := by kernel_rfl
theorem fa_80_0 (r o : Nat) : fieldAddrV E 80 (ptr r o) 0 = some (ptr r (o + 0)) := by kernel_rfl
theorem fv_80_0 (cs : Array Value) : fieldV E 80 (.agg cs) 0 = partV E 3 cs.toList 0 := by kernel_rfl
theorem fa_80_1 (r o : Nat) : fieldAddrV E 80 (ptr r o) 1 = some (ptr r (o + 1)) := by kernel_rfl
theorem fv_80_1 (cs : Array Value) : fieldV E 80 (.agg cs) 1 = partV E 3 cs.toList 1 := by kernel_rfl
theorem fa_80_2 (r o : Nat) : fieldAddrV E 80 (ptr r o) 2 = some (ptr r (o + 2)) := by kernel_rfl
theorem fv_80_2 (cs : Array Value) : fieldV E 80 (.agg cs) 2 = partV E 3 cs.toList 2 := by kernel_rfl
theorem fa_80_3 (r o : Nat) : fieldAddrV E 80 (ptr r o) 3 = some (ptr r (o + 3)) := by kernel_rfl
theorem fv_80_3 (cs : Array Value) : fieldV E 80 (.agg cs) 3 = partV E 4 cs.toList 3 := by kernel_rfl
theorem fa_80_4 (r o : Nat) : fieldAddrV E 80 (ptr r o) 4 = some (ptr r (o + 4)) := by kernel_rfl
theorem fv_80_4 (cs : Array Value) : fieldV E 80 (.agg cs) 4 = partV E 3 cs.toList 4 := by kernel_rfl
theorem lit_80 (T : Tr Value) (ps : List (Nat × Operand)) : structLit E T 80 ps = (evParts T (fun k => [(0, 1), (1, 1), (2, 1), (3, 1), (4, 1)][k]?) ps).bind fun ps => (fillV [(.int .i64 0), (.int .i64 0), (.int .i64 0), (.bool false), (.int .i64 0)] ps).bind fun l => some (.agg l.toArray) := by kernel_rfl
theorem eq_80 (d : Nat) (xs ys : Array Value) : eqV E (d + 1) 80 (.agg xs) (.agg ys) = eqFields E (eqV E d) xs.toList ys.toList [(0, 3), (1, 3), (2, 3), (3, 4), (4, 3)] := by kernel_rfl
theorem agg_102 : aggOf E 102 = some (some 2) := by kernel_rfl
theorem size_102 : E.size 102 = some 2 := by kernel_rfl
theorem part_102 (cs : List Value) (o : Nat) : partV E 102 cs o = (cut cs o 2).bind fun l => some (.agg l.toArray) := by kernel_rfl
theorem zero_102 : zeroOf E 102 = some (.agg #[(.int .i64 0), (.int .i64 0)]) := by kernel_rfl
theorem fa_102_0 (r o : Nat) : fieldAddrV E 102 (ptr r o) 0 = some (ptr r (o + 0)) := by kernel_rfl
theorem fv_102_0 (cs : Array Value) : fieldV E 102 (.agg cs) 0 = partV E 3 cs.toList 0 := by kernel_rfl
theorem fa_102_1 (r o : Nat) : fieldAddrV E 102 (ptr r o) 1 = some (ptr r (o + 1)) := by kernel_rfl
theorem fv_102_1 (cs : Array Value) : fieldV E 102 (.agg cs) 1 = partV E 3 cs.toList 1 := by kernel_rfl
theorem lit_102 (T : Tr Value) (ps : List (Nat × Operand)) : structLit E T 102 ps = (evParts T (fun k => [(0, 1), (1, 1)][k]?) ps).bind fun ps => (fillV [(.int .i64 0), (.int .i64 0)] ps).bind fun l => some (.agg l.toArray) := by kernel_rfl
theorem eq_102 (d : Nat) (xs ys : Array Value) : eqV E (d + 1) 102 (.agg xs) (.agg ys) = eqFields E (eqV E d) xs.toList ys.toList [(0, 3), (1, 3)] := by kernel_rfl
theorem agg_105 : aggOf E 105 = some (some 3) := by kernel_rfl
theorem size_105 : E.size 105 = some 3 := by kernel_rfl
theorem part_105 (cs : List Value) (o : Nat) : partV E 105 cs o = (cut cs o 3).bind fun l => some (.agg l.toArray) := by kernel_rfl
theorem zero_105 : zeroOf E 105 = some (.agg #[(.bool false), (.int .i64 0), (.int .u64 0)]) := by kernel_rfl
theorem fa_105_0 (r o : Nat) : fieldAddrV E 105 (ptr r o) 0 = some (ptr r (o + 0)) := by kernel_rfl
theorem fv_105_0 (cs : Array Value) : fieldV E 105 (.agg cs) 0 = partV E 4 cs.toList 0 := by kernel_rfl
theorem fa_105_1 (r o : Nat) : fieldAddrV E 105 (ptr r o) 1 = some (ptr r (o + 1)) := by kernel_rfl
theorem fv_105_1 (cs : Array Value) : fieldV E 105 (.agg cs) 1 = partV E 3 cs.toList 1 := by kernel_rfl
theorem fa_105_2 (r o : Nat) : fieldAddrV E 105 (ptr r o) 2 = some (ptr r (o + 2)) := by kernel_rfl
theorem fv_105_2 (cs : Array Value) : fieldV E 105 (.agg cs) 2 = partV E 24 cs.toList 2 := by kernel_rfl
theorem lit_105 (T : Tr Value) (ps : List (Nat × Operand)) : structLit E T 105 ps = (evParts T (fun k => [(0, 1), (1, 1), (2, 1)][k]?) ps).bind fun ps => (fillV [(.bool false), (.int .i64 0), (.int .u64 0)] ps).bind fun l => some (.agg l.toArray) := by kernel_rfl
theorem eq_105 (d : Nat) (xs ys : Array Value) : eqV E (d + 1) 105 (.agg xs) (.agg ys) = eqFields E (eqV E d) xs.toList ys.toList [(0, 4), (1, 3), (2, 24)] := by kernel_rfl
theorem agg_106 : aggOf E 106 = some none := by kernel_rfl
theorem size_106 : E.size 106 = some 1 := by kernel_rfl
theorem part_106 (cs : List Value) (o : Nat) : partV E 106 cs o = cs[o]? := by kernel_rfl
theorem zero_106 : zeroOf E 106 = some (.pointer none) := by kernel_rfl
theorem eqpn_106 (d r o : Nat) : eqV E (d + 1) 106 (ptr r o) (.pointer none) = some false := by kernel_rfl
theorem eqnn_106 (d : Nat) : eqV E (d + 1) 106 (.pointer none) (.pointer none) = some true := by kernel_rfl
theorem agg_107 : aggOf E 107 = some none := by kernel_rfl
theorem size_107 : E.size 107 = some 1 := by kernel_rfl
theorem part_107 (cs : List Value) (o : Nat) : partV E 107 cs o = cs[o]? := by kernel_rfl
theorem zero_107 : zeroOf E 107 = some (.slice none 0 0) := by kernel_rfl
theorem ia_107 (r o n c : Nat) (k : IntKind) (i : Int) : indexAddrV E 107 (.slice (some ⟨r, o, none⟩) n c) (.int k i) = (at? i n).bind fun i => some (ptr r (o + i * 1)) := by kernel_rfl
theorem sc_107 (H : Heap) (r o n c : Nat) (lo hi mx : Option Value) : sliceV E H 107 (.slice (some ⟨r, o, none⟩) n c) lo hi mx = slS E H 1 r o n c lo hi mx := by kernel_rfl
theorem len_107 (H : Heap) (a : Option Addr) (n c : Nat) : builtinV E H .len [107] [.slice a n c] = some (.int .i64 n, H) := by kernel_rfl
theorem app_107 (H : Heap) (s : Value) (a : Option Addr) (n c : Nat) : builtinV E H .append [107, 107] [s, .slice a n c] = (cellsOf H (n * 1) (.slice a n c)).bind fun l => appendV E H 3 s n l := by kernel_rfl
theorem appT_107 (H : Heap) (s : Value) (k : Nat) (new : List Value) : appendV E H 3 s k new = appendT 1 8 H s k new := by kernel_rfl
theorem bs_107 (T : Tr Value) (H : Heap) (len : Nat) (ps : List (Nat × Operand)) : buildSliceV E T H 107 len ps = bif (!Nat.ble (len * 1) 10000000 || false) then none else (evParts T (fun k => some (k * 1, 1)) ps).bind fun ps => (fillV (repeatCells [(.int .i64 0)] len) ps).bind fun l => some (.slice (some ⟨H.next, 0, none⟩) len len, H.newRow l) := by kernel_rfl
theorem eqnil_107 (d : Nat) (a : Option Addr) (n c n' c' : Nat) : eqV E (d + 1) 107 (.slice none n c) (.slice a n' c') = some a.isNone := by kernel_rfl
theorem agg_108 : aggOf E 108 = some none := by kernel_rfl
theorem size_108 : E.size 108 = some 1 := by kernel_rfl
theorem part_108 (cs : List Value) (o : Nat) : partV E 108 cs o = cs[o]? := by kernel_rfl
theorem zero_108 : zeroOf E 108 = some (.map none) := by kernel_rfl
theorem agg_110 : aggOf E 110 = some (some 13) := by kernel_rfl
theorem size_110 : E.size 110 = some 13 := by kernel_rfl
theorem part_110 (cs : List Value) (o : Nat) : partV E 110 cs o = (cut cs o 13).bind fun l => some (.agg l.toArray) := by kernel_rfl
theorem zero_110 : zeroOf E 110 = some (.agg #[(.int .i64 0), (.int .i64 0), (.int .i64 0), (.int .i64 0), (.bool false), (.slice none 0 0), (.int .i64 0), (.slice none 0 0), (.slice none 0 0), (.slice none 0 0), (.pointer none), (.slice none 0 0), (.map none)]) := by kernel_rfl
theorem fa_110_0 (r o : Nat) : fieldAddrV E 110 (ptr r o) 0 = some (ptr r (o + 0)) := by kernel_rfl
theorem fv_110_0 (cs : Array Value) : fieldV E 110 (.agg cs) 0 = partV E 33 cs.toList 0 := by kernel_rfl
theorem fa_110_1 (r o : Nat) : fieldAddrV E 110 (ptr r o) 1 = some (ptr r (o + 10)) := by kernel_rfl
theorem fv_110_1 (cs : Array Value) : fieldV E 110 (.agg cs) 1 = partV E 106 cs.toList 10 := by kernel_rfl
theorem fa_110_2 (r o : Nat) : fieldAddrV E 110 (ptr r o) 2 = some (ptr r (o + 11)) := by kernel_rfl
theorem fv_110_2 (cs : Array Value) : fieldV E 110 (.agg cs) 2 = partV E 107 cs.toList 11 := by kernel_rfl
theorem fa_110_3 (r o : Nat) : fieldAddrV E 110 (ptr r o) 3 = some (ptr r (o + 12)) := by kernel_rfl
theorem fv_110_3 (cs : Array Value) : fieldV E 110 (.agg cs) 3 = partV E 108 cs.toList 12 := by kernel_rfl
theorem lit_110 (T : Tr Value) (ps : List (Nat × Operand)) : structLit E T 110 ps = (evParts T (fun k => [(0, 10), (10, 1), (11, 1), (12, 1)][k]?) ps).bind fun ps => (fillV [(.int .i64 0), (.int .i64 0), (.int .i64 0), (.int .i64 0), (.bool false), (.slice none 0 0), (.int .i64 0), (.slice none 0 0), (.slice none 0 0), (.slice none 0 0), (.pointer none), (.slice none 0 0), (.map none)] ps).bind fun l => some (.agg l.toArray) := by kernel_rfl
theorem eq_110 (d : Nat) (xs ys : Array Value) : eqV E (d + 1) 110 (.agg xs) (.agg ys) = eqFields E (eqV E d) xs.toList ys.toList [(0, 33), (10, 106), (11, 107), (12, 108)] := by kernel_rfl
theorem agg_111 : aggOf E 111 = some none := by kernel_rfl
theorem size_111 : E.size 111 = some 1 := by kernel_rfl
theorem part_111 (cs : List Value) (o : Nat) : partV E 111 cs o = cs[o]? := by kernel_rfl
theorem zero_111 : zeroOf E 111 = some (.slice none 0 0) := by kernel_rfl
theorem ia_111 (r o n c : Nat) (k : IntKind) (i : Int) : indexAddrV E 111 (.slice (some ⟨r, o, none⟩) n c) (.int k i) = (at? i n).bind fun i => some (ptr r (o + i * 1)) := by kernel_rfl
theorem sc_111 (H : Heap) (r o n c : Nat) (lo hi mx : Option Value) : sliceV E H 111 (.slice (some ⟨r, o, none⟩) n c) lo hi mx = slS E H 1 r o n c lo hi mx := by kernel_rfl
theorem len_111 (H : Heap) (a : Option Addr) (n c : Nat) : builtinV E H .len [111] [.slice a n c] = some (.int .i64 n, H) := by kernel_rfl
theorem app_111 (H : Heap) (s : Value) (a : Option Addr) (n c : Nat) : builtinV E H .append [111, 111] [s, .slice a n c] = (cellsOf H (n * 1) (.slice a n c)).bind fun l => appendV E H 114 s n l := by kernel_rfl
theorem appT_111 (H : Heap) (s : Value) (k : Nat) (new : List Value) : appendV E H 114 s k new = appendT 1 8 H s k new := by kernel_rfl
theorem bs_111 (T : Tr Value) (H : Heap) (len : Nat) (ps : List (Nat × Operand)) : buildSliceV E T H 111 len ps = bif (!Nat.ble (len * 1) 10000000 || false) then none else (evParts T (fun k => some (k * 1, 1)) ps).bind fun ps => (fillV (repeatCells [.nilFunc] len) ps).bind fun l => some (.slice (some ⟨H.next, 0, none⟩) len len, H.newRow l) := by kernel_rfl
theorem eqnil_111 (d : Nat) (a : Option Addr) (n c n' c' : Nat) : eqV E (d + 1) 111 (.slice none n c) (.slice a n' c') = some a.isNone := by kernel_rfl
theorem agg_114 : aggOf E 114 = some none := by kernel_rfl
theorem size_114 : E.size 114 = some 1 := by kernel_rfl
theorem part_114 (cs : List Value) (o : Nat) : partV E 114 cs o = cs[o]? := by kernel_rfl
theorem zero_114 : zeroOf E 114 = some .nilFunc := by kernel_rfl
theorem agg_120 : aggOf E 120 = some (some 5) := by kernel_rfl
theorem size_120 : E.size 120 = some 5 := by kernel_rfl
theorem part_120 (cs : List Value) (o : Nat) : partV E 120 cs o = (cut cs o 5).bind fun l => some (.agg l.toArray) := by kernel_rfl
theorem zero_120 : zeroOf E 120 = some (.agg #[(.int .i64 0), (.int .i64 0), (.int .i64 0), (.int .i64 0), (.int .i64 0)]) := by kernel_rfl
theorem ia_120 (r o : Nat) (k : IntKind) (i : Int) : indexAddrV E 120 (ptr r o) (.int k i) = (at? i 5).bind fun i => some (ptr r (o + i * 1)) := by kernel_rfl
theorem ix_120 (cs : Array Value) (k : IntKind) (i : Int) : indexV E 120 (.agg cs) (.int k i) = (at? i 5).bind fun i => partV E 3 cs.toList (i * 1) := by kernel_rfl
theorem lit_120 (T : Tr Value) (ps : List (Nat × Operand)) : structLit E T 120 ps = (evParts T (fun k => some (k * 1, 1)) ps).bind fun ps => (fillV [(.int .i64 0), (.int .i64 0), (.int .i64 0), (.int .i64 0), (.int .i64 0)] ps).bind fun l => some (.agg l.toArray) := by kernel_rfl
theorem agg_123 : aggOf E 123 = some (some 3) := by kernel_rfl
theorem size_123 : E.size 123 = some 3 := by kernel_rfl
theorem part_123 (cs : List Value) (o : Nat) : partV E 123 cs o = (cut cs o 3).bind fun l => some (.agg l.toArray) := by kernel_rfl
theorem zero_123 : zeroOf E 123 = some (.agg #[(.int .i64 0), (.int .i64 0), (.int .i64 0)]) := by kernel_rfl
theorem fa_123_0 (r o : Nat) : fieldAddrV E 123 (ptr r o) 0 = some (ptr r (o + 0)) := by kernel_rfl
theorem fv_123_0 (cs : Array Value) : fieldV E 123 (.agg cs) 0 = partV E 3 cs.toList 0 := by kernel_rfl
theorem fa_123_1 (r o : Nat) : fieldAddrV E 123 (ptr r o) 1 = some (ptr r (o + 1)) := by kernel_rfl
theorem fv_123_1 (cs : Array Value) : fieldV E 123 (.agg cs) 1 = partV E 3 cs.toList 1 := by kernel_rfl
theorem fa_123_2 (r o : Nat) : fieldAddrV E 123 (ptr r o) 2 = some (ptr r (o + 2)) := by kernel_rfl
theorem fv_123_2 (cs : Array Value) : fieldV E 123 (.agg cs) 2 = partV E 3 cs.toList 2 := by kernel_rfl
theorem lit_123 (T : Tr Value) (ps : List (Nat × Operand)) : structLit E T 123 ps = (evParts T (fun k => [(0, 1), (1, 1), (2, 1)][k]?) ps).bind fun ps => (fillV [(.int .i64 0), (.int .i64 0), (.int .i64 0)] ps).bind fun l => some (.agg l.toArray) := by kernel_rfl
theorem eq_123 (d : Nat) (xs ys : Array Value) : eqV E (d + 1) 123 (.agg xs) (.agg ys) = eqFields E (eqV E d) xs.toList ys.toList [(0, 3), (1, 3), (2, 3)] := by kernel_rfl
theorem agg_124 : aggOf E 124 = some (some 15) := by kernel_rfl
theorem size_124 : E.size 124 = some 15 := by kernel_rfl
theorem part_124 (cs : List Value) (o : Nat) : partV E 124 cs o = (cut cs o 15).bind fun l => some (.agg l.toArray) := by kernel_rfl
theorem zero_124 : zeroOf E 124 = some (.agg #[(.int .i64 0), (.int .i64 0), (.int .i64 0), (.int .i64 0), (.int .i64 0), (.int .i64 0), (.int .i64 0), (.int .i64 0), (.int .i64 0), (.int .i64 0), (.int .i64 0), (.int .i64 0), (.int .i64 0), (.int .i64 0), (.int .i64 0)]) := by kernel_rfl
theorem ia_124 (r o : Nat) (k : IntKind) (i : Int) : indexAddrV E 124 (ptr r o) (.int k i) = (at? i 5).bind fun i => some (ptr r (o + i * 3)) := by kernel_rfl
theorem ix_124 (cs : Array Value) (k : IntKind) (i : Int) : indexV E 124 (.agg cs) (.int k i) = (at? i 5).bind fun i => partV E 123 cs.toList (i * 3) := by kernel_rfl
theorem lit_124 (T : Tr Value) (ps : List (Nat × Operand)) : structLit E T 124 ps = (evParts T (fun k => some (k * 3, 3)) ps).bind fun ps => (fillV [(.int .i64 0), (.int .i64 0), (.int .i64 0), (.int .i64 0), (.int .i64 0), (.int .i64 0), (.int .i64 0), (.int .i64 0), (.int .i64 0), (.int .i64 0), (.int .i64 0), (.int .i64 0), (.int .i64 0), (.int .i64 0), (.int .i64 0)] ps).bind fun l => some (.agg l.toArray) := by kernel_rfl
theorem agg_130 : aggOf E 130 = some none := by kernel_rfl
theorem size_130 : E.size 130 = some 1 := by kernel_rfl
theorem part_130 (cs : List Value) (o : Nat) : partV E 130 cs o = cs[o]? := by kernel_rfl
theorem zero_130 : zeroOf E 130 = some (.int .u64 0) := by kernel_rfl
theorem eq_130 (d : Nat) (a b : Int) : eqV E (d + 1) 130 (.int .u64 a) (.int .u64 b) = some (eqI a b) := by kernel_rfl
theorem agg_154 : aggOf E 154 = some (some 6) := by kernel_rfl
theorem size_154 : E.size 154 = some 6 := by kernel_rfl
theorem part_154 (cs : List Value) (o : Nat) : partV E 154 cs o = (cut cs o 6).bind fun l => some (.agg l.toArray) := by kernel_rfl
theorem zero_154 : zeroOf E 154 = some (.agg #[(.int .i64 0), (.int .i64 0), (.int .i64 0), (.int .i64 0), (.int .i64 0), (.int .i64 0)]) := by kernel_rfl
theorem ia_154 (r o : Nat) (k : IntKind) (i : Int) : indexAddrV E 154 (ptr r o) (.int k i) = (at? i 3).bind fun i => some (ptr r (o + i * 2)) := by kernel_rfl
theorem ix_154 (cs : Array Value) (k : IntKind) (i : Int) : indexV E 154 (.agg cs) (.int k i) = (at? i 3).bind fun i => partV E 102 cs.toList (i * 2) := by kernel_rfl
theorem lit_154 (T : Tr Value) (ps : List (Nat × Operand)) : structLit E T 154 ps = (evParts T (fun k => some (k * 2, 2)) ps).bind fun ps => (fillV [(.int .i64 0), (.int .i64 0), (.int .i64 0), (.int .i64 0), (.int .i64 0), (.int .i64 0)] ps).bind fun l => some (.agg l.toArray) := by kernel_rfl
theorem agg_181 : aggOf E 181 = some none := by kernel_rfl
theorem size_181 : E.size 181 = some 1 := by kernel_rfl
theorem part_181 (cs : List Value) (o : Nat) : partV E 181 cs o = cs[o]? := by kernel_rfl
theorem zero_181 : zeroOf E 181 = some (.pointer none) := by kernel_rfl
theorem eqpn_181 (d r o : Nat) : eqV E (d + 1) 181 (ptr r o) (.pointer none) = some false := by kernel_rfl
theorem eqnn_181 (d : Nat) : eqV E (d + 1) 181 (.pointer none) (.pointer none) = some true := by kernel_rfl
theorem agg_192 : aggOf E 192 = some (some 4) := by kernel_rfl
theorem size_192 : E.size 192 = some 4 := by kernel_rfl
theorem part_192 (cs : List Value) (o : Nat) : partV E 192 cs o = (cut cs o 4).bind fun l => some (.agg l.toArray) := by kernel_rfl
theorem zero_192 : zeroOf E 192 = some (.agg #[(.int .i64 0), (.int .i64 0), (.int .i64 0), (.int .i64 0)]) := by kernel_rfl
theorem ia_192 (r o : Nat) (k : IntKind) (i : Int) : indexAddrV E 192 (ptr r o) (.int k i) = (at? i 2).bind fun i => some (ptr r (o + i * 2)) := by kernel_rfl
theorem ix_192 (cs : Array Value) (k : IntKind) (i : Int) : indexV E 192 (.agg cs) (.int k i) = (at? i 2).bind fun i => partV E 102 cs.toList (i * 2) := by kernel_rfl
theorem lit_192 (T : Tr Value) (ps : List (Nat × Operand)) : structLit E T 192 ps = (evParts T (fun k => some (k * 2, 2)) ps).bind fun ps => (fillV [(.int .i64 0), (.int .i64 0), (.int .i64 0), (.int .i64 0)] ps).bind fun l => some (.agg l.toArray) := by kernel_rfl
theorem agg_199 : aggOf E 199 = some (some 2) := by kernel_rfl
theorem size_199 : E.size 199 = some 2 := by kernel_rfl
theorem part_199 (cs : List Value) (o : Nat) : partV E 199 cs o = (cut cs o 2).bind fun l => some (.agg l.toArray) := by kernel_rfl
theorem zero_199 : zeroOf E 199 = some (.agg #[(.bool false), (.slice none 0 0)]) := by kernel_rfl
theorem fa_199_0 (r o : Nat) : fieldAddrV E 199 (ptr r o) 0 = some (ptr r (o + 0)) := by kernel_rfl
theorem fv_199_0 (cs : Array Value) : fieldV E 199 (.agg cs) 0 = partV E 4 cs.toList 0 := by kernel_rfl
theorem fa_199_1 (r o : Nat) : fieldAddrV E 199 (ptr r o) 1 = some (ptr r (o + 1)) := by kernel_rfl
theorem fv_199_1 (cs : Array Value) : fieldV E 199 (.agg cs) 1 = partV E 29 cs.toList 1 := by kernel_rfl
theorem lit_199 (T : Tr Value) (ps : List (Nat × Operand)) : structLit E T 199 ps = (evParts T (fun k => [(0, 1), (1, 1)][k]?) ps).bind fun ps => (fillV [(.bool false), (.slice none 0 0)] ps).bind fun l => some (.agg l.toArray) := by kernel_rfl
theorem eq_199 (d : Nat) (xs ys : Array Value) : eqV E (d + 1) 199 (.agg xs) (.agg ys) = eqFields E (eqV E d) xs.toList ys.toList [(0, 4), (1, 29)] := by kernel_rfl
theorem agg_213 : aggOf E 213 = some (some 8) := by kernel_rfl
theorem size_213 : E.size 213 = some 8 := by kernel_rfl
theorem part_213 (cs : List Value) (o : Nat) : partV E 213 cs o = (cut cs o 8).bind fun l => some (.agg l.toArray) := by kernel_rfl
theorem zero_213 : zeroOf E 213 = some (.agg #[(.int .i64 0), (.int .i64 0), (.int .i64 0), (.int .i64 0), (.bool false), (.int .i64 0), (.int .i64 0), (.bool false)]) := by kernel_rfl
theorem fa_213_0 (r o : Nat) : fieldAddrV E 213 (ptr r o) 0 = some (ptr r (o + 0)) := by kernel_rfl
theorem fv_213_0 (cs : Array Value) : fieldV E 213 (.agg cs) 0 = partV E 3 cs.toList 0 := by kernel_rfl
theorem fa_213_1 (r o : Nat) : fieldAddrV E 213 (ptr r o) 1 = some (ptr r (o + 1)) := by kernel_rfl
theorem fv_213_1 (cs : Array Value) : fieldV E 213 (.agg cs) 1 = partV E 80 cs.toList 1 := by kernel_rfl
theorem fa_213_2 (r o : Nat) : fieldAddrV E 213 (ptr r o) 2 = some (ptr r (o + 6)) := by kernel_rfl
theorem fv_213_2 (cs : Array Value) : fieldV E 213 (.agg cs) 2 = partV E 37 cs.toList 6 := by kernel_rfl
theorem fa_213_3 (r o : Nat) : fieldAddrV E 213 (ptr r o) 3 = some (ptr r (o + 7)) := by kernel_rfl
theorem fv_213_3 (cs : Array Value) : fieldV E 213 (.agg cs) 3 = partV E 4 cs.toList 7 := by kernel_rfl
theorem lit_213 (T : Tr Value) (ps : List (Nat × Operand)) : structLit E T 213 ps = (evParts T (fun k => [(0, 1), (1, 5), (6, 1), (7, 1)][k]?) ps).bind fun ps => (fillV [(.int .i64 0), (.int .i64 0), (.int .i64 0), (.int .i64 0), (.bool false), (.int .i64 0), (.int .i64 0), (.bool false)] ps).bind fun l => some (.agg l.toArray) := by kernel_rfl
theorem eq_213 (d : Nat) (xs ys : Array Value) : eqV E (d + 1) 213 (.agg xs) (.agg ys) = eqFields E (eqV E d) xs.toList ys.toList [(0, 3), (1, 80), (6, 37), (7, 4)] := by kernel_rfl
theorem agg_220 : aggOf E 220 = some (some 4) := by kernel_rfl
theorem size_220 : E.size 220 = some 4 := by kernel_rfl
theorem part_220 (cs : List Value) (o : Nat) : partV E 220 cs o = (cut cs o 4).bind fun l => some (.agg l.toArray) := by kernel_rfl
theorem zero_220 : zeroOf E 220 = some (.agg #[(.bool false), (.int .i64 0), (.int .i64 0), (.int .i64 0)]) := by kernel_rfl
theorem fa_220_0 (r o : Nat) : fieldAddrV E 220 (ptr r o) 0 = some (ptr r (o + 0)) := by kernel_rfl
theorem fv_220_0 (cs : Array Value) : fieldV E 220 (.agg cs) 0 = partV E 4 cs.toList 0 := by kernel_rfl
theorem fa_220_1 (r o : Nat) : fieldAddrV E 220 (ptr r o) 1 = some (ptr r (o + 1)) := by kernel_rfl
theorem fv_220_1 (cs : Array Value) : fieldV E 220 (.agg cs) 1 = partV E 102 cs.toList 1 := by kernel_rfl
theorem fa_220_2 (r o : Nat) : fieldAddrV E 220 (ptr r o) 2 = some (ptr r (o + 3)) := by kernel_rfl
theorem fv_220_2 (cs : Array Value) : fieldV E 220 (.agg cs) 2 = partV E 3 cs.toList 3 := by kernel_rfl
theorem lit_220 (T : Tr Value) (ps : List (Nat × Operand)) : structLit E T 220 ps = (evParts T (fun k => [(0, 1), (1, 2), (3, 1)][k]?) ps).bind fun ps => (fillV [(.bool false), (.int .i64 0), (.int .i64 0), (.int .i64 0)] ps).bind fun l => some (.agg l.toArray) := by kernel_rfl
theorem eq_220 (d : Nat) (xs ys : Array Value) : eqV E (d + 1) 220 (.agg xs) (.agg ys) = eqFields E (eqV E d) xs.toList ys.toList [(0, 4), (1, 102), (3, 3)] := by kernel_rfl
theorem conv_2_2 (k : IntKind) (n : Int) : convV E 2 2 (.int k n) = intR .i64 n := by kernel_rfl
theorem conv_2_3 (k : IntKind) (n : Int) : convV E 2 3 (.int k n) = intR .i64 n := by kernel_rfl
theorem conv_2_5 (k : IntKind) (n : Int) : convV E 2 5 (.int k n) = intR .u8 n := by kernel_rfl
theorem conv_2_24 (k : IntKind) (n : Int) : convV E 2 24 (.int k n) = intR .u64 n := by kernel_rfl
theorem conv_2_37 (k : IntKind) (n : Int) : convV E 2 37 (.int k n) = intR .i64 n := by kernel_rfl
theorem conv_2_130 (k : IntKind) (n : Int) : convV E 2 130 (.int k n) = intR .u64 n := by kernel_rfl
theorem conv_3_2 (k : IntKind) (n : Int) : convV E 3 2 (.int k n) = intR .i64 n := by kernel_rfl
theorem conv_3_3 (k : IntKind) (n : Int) : convV E 3 3 (.int k n) = intR .i64 n := by kernel_rfl
theorem conv_3_5 (k : IntKind) (n : Int) : convV E 3 5 (.int k n) = intR .u8 n := by kernel_rfl
theorem conv_3_24 (k : IntKind) (n : Int) : convV E 3 24 (.int k n) = intR .u64 n := by kernel_rfl
theorem conv_3_37 (k : IntKind) (n : Int) : convV E 3 37 (.int k n) = intR .i64 n := by kernel_rfl
theorem conv_3_130 (k : IntKind) (n : Int) : convV E 3 130 (.int k n) = intR .u64 n := by kernel_rfl
theorem conv_5_2 (k : IntKind) (n : Int) : convV E 5 2 (.int k n) = intR .i64 n := by kernel_rfl
theorem conv_5_3 (k : IntKind) (n : Int) : convV E 5 3 (.int k n) = intR .i64 n := by kernel_rfl
theorem conv_5_5 (k : IntKind) (n : Int) : convV E 5 5 (.int k n) = intR .u8 n := by kernel_rfl
theorem conv_5_24 (k : IntKind) (n : Int) : convV E 5 24 (.int k n) = intR .u64 n := by kernel_rfl
theorem conv_5_37 (k : IntKind) (n : Int) : convV E 5 37 (.int k n) = intR .i64 n := by kernel_rfl
theorem conv_5_130 (k : IntKind) (n : Int) : convV E 5 130 (.int k n) = intR .u64 n := by kernel_rfl
theorem conv_24_2 (k : IntKind) (n : Int) : convV E 24 2 (.int k n) = intR .i64 n := by kernel_rfl
theorem conv_24_3 (k : IntKind) (n : Int) : convV E 24 3 (.int k n) = intR .i64 n := by kernel_rfl
theorem conv_24_5 (k : IntKind) (n : Int) : convV E 24 5 (.int k n) = intR .u8 n := by kernel_rfl
theorem conv_24_24 (k : IntKind) (n : Int) : convV E 24 24 (.int k n) = intR .u64 n := by kernel_rfl
theorem conv_24_37 (k : IntKind) (n : Int) : convV E 24 37 (.int k n) = intR .i64 n := by kernel_rfl
theorem conv_24_130 (k : IntKind) (n : Int) : convV E 24 130 (.int k n) = intR .u64 n := by kernel_rfl
theorem conv_37_2 (k : IntKind) (n : Int) : convV E 37 2 (.int k n) = intR .i64 n := by kernel_rfl
theorem conv_37_3 (k : IntKind) (n : Int) : convV E 37 3 (.int k n) = intR .i64 n := by kernel_rfl
theorem conv_37_5 (k : IntKind) (n : Int) : convV E 37 5 (.int k n) = intR .u8 n := by kernel_rfl
theorem conv_37_24 (k : IntKind) (n : Int) : convV E 37 24 (.int k n) = intR .u64 n := by kernel_rfl
theorem conv_37_37 (k : IntKind) (n : Int) : convV E 37 37 (.int k n) = intR .i64 n := by kernel_rfl
theorem conv_37_130 (k : IntKind) (n : Int) : convV E 37 130 (.int k n) = intR .u64 n := by kernel_rfl
theorem conv_130_2 (k : IntKind) (n : Int) : convV E 130 2 (.int k n) = intR .i64 n := by kernel_rfl
theorem conv_130_3 (k : IntKind) (n : Int) : convV E 130 3 (.int k n) = intR .i64 n := by kernel_rfl
theorem conv_130_5 (k : IntKind) (n : Int) : convV E 130 5 (.int k n) = intR .u8 n := by kernel_rfl
theorem conv_130_24 (k : IntKind) (n : Int) : convV E 130 24 (.int k n) = intR .u64 n := by kernel_rfl
theorem conv_130_37 (k : IntKind) (n : Int) : convV E 130 37 (.int k n) = intR .i64 n := by kernel_rfl
theorem conv_130_130 (k : IntKind) (n : Int) : convV E 130 130 (.int k n) = intR .u64 n := by kernel_rfl
set_option linter.defProp false
def st := (And.intro (And.intro (And.intro (And.intro (And.intro (And.intro (And.intro (And.intro @agg_2 (And.intro @size_2 @part_2)) (And.intro @zero_2 (And.intro @eq_2 @agg_3))) (And.intro (And.intro @size_3 (And.intro @part_3 @zero_3)) (And.intro @eq_3 (And.intro @agg_4 @size_4)))) (And.intro (And.intro (And.intro @part_4 (And.intro @zero_4 @eq_4)) (And.intro @agg_5 (And.intro @size_5 @part_5))) (And.intro (And.intro @zero_5 (And.intro @eq_5 @agg_23)) (And.intro (And.intro @size_23 @part_23) (And.intro @zero_23 @fa_23_0))))) (And.intro (And.intro (And.intro (And.intro @fv_23_0 (And.intro @fa_23_1 @fv_23_1)) (And.intro @lit_23 (And.intro @eq_23 @agg_24))) (And.intro (And.intro @size_24 (And.intro @part_24 @zero_24)) (And.intro @eq_24 (And.intro @agg_26 @size_26)))) (And.intro (And.intro (And.intro @part_26 (And.intro @zero_26 @fa_26_0)) (And.intro @fv_26_0 (And.intro @fa_26_1 @fv_26_1))) (And.intro (And.intro @fa_26_2 (And.intro @fv_26_2 @fa_26_3)) (And.intro (And.intro @fv_26_3 @fa_26_4) (And.intro @fv_26_4 @fa_26_5)))))) (And.intro (And.intro (And.intro (And.intro (And.intro @fv_26_5 (And.intro @fa_26_6 @fv_26_6)) (And.intro @fa_26_7 (And.intro @fv_26_7 @fa_26_8))) (And.intro (And.intro @fv_26_8 (And.intro @fa_26_9 @fv_26_9)) (And.intro @lit_26 (And.intro @eq_26 @agg_28)))) (And.intro (And.intro (And.intro @size_28 (And.intro @part_28 @zero_28)) (And.intro @fa_28_0 (And.intro @fv_28_0 @fa_28_1))) (And.intro (And.intro @fv_28_1 (And.intro @fa_28_2 @fv_28_2)) (And.intro (And.intro @fa_28_3 @fv_28_3) (And.intro @lit_28 @eq_28))))) (And.intro (And.intro (And.intro (And.intro @agg_29 (And.intro @size_29 @part_29)) (And.intro @zero_29 (And.intro @ia_29 @sc_29))) (And.intro (And.intro @len_29 (And.intro @app_29 @appT_29)) (And.intro (And.intro @bs_29 @eqnil_29) (And.intro @agg_30 @size_30)))) (And.intro (And.intro (And.intro @part_30 (And.intro @zero_30 @ia_30)) (And.intro @sc_30 (And.intro @len_30 @app_30))) (And.intro (And.intro @appT_30 (And.intro @bs_30 @eqnil_30)) (And.intro (And.intro @agg_31 @size_31) (And.intro @part_31 @zero_31))))))) (And.intro (And.intro (And.intro (And.intro (And.intro (And.intro @ia_31 (And.intro @sc_31 @len_31)) (And.intro @app_31 (And.intro @appT_31 @bs_31))) (And.intro (And.intro @eqnil_31 (And.intro @agg_33 @size_33)) (And.intro @part_33 (And.intro @zero_33 @fa_33_0)))) (And.intro (And.intro (And.intro @fv_33_0 (And.intro @fa_33_1 @fv_33_1)) (And.intro @fa_33_2 (And.intro @fv_33_2 @fa_33_3))) (And.intro (And.intro @fv_33_3 (And.intro @fa_33_4 @fv_33_4)) (And.intro (And.intro @fa_33_5 @fv_33_5) (And.intro @fa_33_6 @fv_33_6))))) (And.intro (And.intro (And.intro (And.intro @lit_33 (And.intro @eq_33 @agg_36)) (And.intro @size_36 (And.intro @part_36 @zero_36))) (And.intro (And.intro @eqpn_36 (And.intro @eqnn_36 @agg_37)) (And.intro (And.intro @size_37 @part_37) (And.intro @zero_37 @eq_37)))) (And.intro (And.intro (And.intro @agg_42 (And.intro @size_42 @part_42)) (And.intro @zero_42 (And.intro @fa_42_0 @fv_42_0))) (And.intro (And.intro @fa_42_1 (And.intro @fv_42_1 @fa_42_2)) (And.intro (And.intro @fv_42_2 @lit_42) (And.intro @eq_42 @agg_44)))))) (And.intro (And.intro (And.intro (And.intro (And.intro @size_44 (And.intro @part_44 @zero_44)) (And.intro @fa_44_0 (And.intro @fv_44_0 @fa_44_1))) (And.intro (And.intro @fv_44_1 (And.intro @fa_44_2 @fv_44_2)) (And.intro @fa_44_3 (And.intro @fv_44_3 @fa_44_4)))) (And.intro (And.intro (And.intro @fv_44_4 (And.intro @fa_44_5 @fv_44_5)) (And.intro @fa_44_6 (And.intro @fv_44_6 @fa_44_7))) (And.intro (And.intro @fv_44_7 (And.intro @lit_44 @eq_44)) (And.intro (And.intro @agg_46 @size_46) (And.intro @part_46 @zero_46))))) (And.intro (And.intro (And.intro (And.intro @fa_46_0 (And.intro @fv_46_0 @fa_46_1)) (And.intro @fv_46_1 (And.intro @fa_46_2 @fv_46_2))) (And.intro (And.intro @fa_46_3 (And.intro @fv_46_3 @fa_46_4)) (And.intro (And.intro @fv_46_4 @lit_46) (And.intro @eq_46 @agg_71)))) (And.intro (And.intro (And.intro @size_71 (And.intro @part_71 @zero_71)) (And.intro @eqpn_71 (And.intro @eqnn_71 @agg_80))) (And.intro (And.intro @size_80 (And.intro @part_80 @zero_80)) (And.intro (And.intro @fa_80_0 @fv_80_0) (And.intro @fa_80_1 @fv_80_1)))))))) (And.intro (And.intro (And.intro (And.intro (And.intro (And.intro (And.intro @fa_80_2 (And.intro @fv_80_2 @fa_80_3)) (And.intro @fv_80_3 (And.intro @fa_80_4 @fv_80_4))) (And.intro (And.intro @lit_80 (And.intro @eq_80 @agg_102)) (And.intro @size_102 (And.intro @part_102 @zero_102)))) (And.intro (And.intro (And.intro @fa_102_0 (And.intro @fv_102_0 @fa_102_1)) (And.intro @fv_102_1 (And.intro @lit_102 @eq_102))) (And.intro (And.intro @agg_105 (And.intro @size_105 @part_105)) (And.intro (And.intro @zero_105 @fa_105_0) (And.intro @fv_105_0 @fa_105_1))))) (And.intro (And.intro (And.intro (And.intro @fv_105_1 (And.intro @fa_105_2 @fv_105_2)) (And.intro @lit_105 (And.intro @eq_105 @agg_106))) (And.intro (And.intro @size_106 (And.intro @part_106 @zero_106)) (And.intro @eqpn_106 (And.intro @eqnn_106 @agg_107)))) (And.intro (And.intro (And.intro @size_107 (And.intro @part_107 @zero_107)) (And.intro @ia_107 (And.intro @sc_107 @len_107))) (And.intro (And.intro @app_107 (And.intro @appT_107 @bs_107)) (And.intro (And.intro @eqnil_107 @agg_108) (And.intro @size_108 @part_108)))))) (And.intro (And.intro (And.intro (And.intro (And.intro @zero_108 (And.intro @agg_110 @size_110)) (And.intro @part_110 (And.intro @zero_110 @fa_110_0))) (And.intro (And.intro @fv_110_0 (And.intro @fa_110_1 @fv_110_1)) (And.intro @fa_110_2 (And.intro @fv_110_2 @fa_110_3)))) (And.intro (And.intro (And.intro @fv_110_3 (And.intro @lit_110 @eq_110)) (And.intro @agg_111 (And.intro @size_111 @part_111))) (And.intro (And.intro @zero_111 (And.intro @ia_111 @sc_111)) (And.intro (And.intro @len_111 @app_111) (And.intro @appT_111 @bs_111))))) (And.intro (And.intro (And.intro (And.intro @eqnil_111 (And.intro @agg_114 @size_114)) (And.intro @part_114 (And.intro @zero_114 @agg_120))) (And.intro (And.intro @size_120 (And.intro @part_120 @zero_120)) (And.intro (And.intro @ia_120 @ix_120) (And.intro @lit_120 @agg_123)))) (And.intro (And.intro (And.intro @size_123 (And.intro @part_123 @zero_123)) (And.intro @fa_123_0 (And.intro @fv_123_0 @fa_123_1))) (And.intro (And.intro @fv_123_1 (And.intro @fa_123_2 @fv_123_2)) (And.intro (And.intro @lit_123 @eq_123) (And.intro @agg_124 @size_124))))))) (And.intro (And.intro (And.intro (And.intro (And.intro (And.intro @part_124 (And.intro @zero_124 @ia_124)) (And.intro @ix_124 (And.intro @lit_124 @agg_130))) (And.intro (And.intro @size_130 (And.intro @part_130 @zero_130)) (And.intro @eq_130 (And.intro @agg_154 @size_154)))) (And.intro (And.intro (And.intro @part_154 (And.intro @zero_154 @ia_154)) (And.intro @ix_154 (And.intro @lit_154 @agg_181))) (And.intro (And.intro @size_181 (And.intro @part_181 @zero_181)) (And.intro (And.intro @eqpn_181 @eqnn_181) (And.intro @agg_192 @size_192))))) (And.intro (And.intro (And.intro (And.intro @part_192 (And.intro @zero_192 @ia_192)) (And.intro @ix_192 (And.intro @lit_192 @agg_199))) (And.intro (And.intro @size_199 (And.intro @part_199 @zero_199)) (And.intro (And.intro @fa_199_0 @fv_199_0) (And.intro @fa_199_1 @fv_199_1)))) (And.intro (And.intro (And.intro @lit_199 (And.intro @eq_199 @agg_213)) (And.intro @size_213 (And.intro @part_213 @zero_213))) (And.intro (And.intro @fa_213_0 (And.intro @fv_213_0 @fa_213_1)) (And.intro (And.intro @fv_213_1 @fa_213_2) (And.intro @fv_213_2 @fa_213_3)))))) (And.intro (And.intro (And.intro (And.intro (And.intro @fv_213_3 (And.intro @lit_213 @eq_213)) (And.intro @agg_220 (And.intro @size_220 @part_220))) (And.intro (And.intro @zero_220 (And.intro @fa_220_0 @fv_220_0)) (And.intro @fa_220_1 (And.intro @fv_220_1 @fa_220_2)))) (And.intro (And.intro (And.intro @fv_220_2 (And.intro @lit_220 @eq_220)) (And.intro @conv_2_2 (And.intro @conv_2_3 @conv_2_5))) (And.intro (And.intro @conv_2_24 (And.intro @conv_2_37 @conv_2_130)) (And.intro (And.intro @conv_3_2 @conv_3_3) (And.intro @conv_3_5 @conv_3_24))))) (And.intro (And.intro (And.intro (And.intro @conv_3_37 (And.intro @conv_3_130 @conv_5_2)) (And.intro @conv_5_3 (And.intro @conv_5_5 @conv_5_24))) (And.intro (And.intro @conv_5_37 (And.intro @conv_5_130 @conv_24_2)) (And.intro (And.intro @conv_24_3 @conv_24_5) (And.intro @conv_24_24 @conv_24_37)))) (And.intro (And.intro (And.intro @conv_24_130 (And.intro @conv_37_2 @conv_37_3)) (And.intro @conv_37_5 (And.intro @conv_37_24 @conv_37_37))) (And.intro (And.intro @conv_37_130 (And.intro @conv_130_2 @conv_130_3)) (And.intro (And.intro @conv_130_5 @conv_130_24) (And.intro @conv_130_37 @conv_130_130)))))))))
end Go.AM
