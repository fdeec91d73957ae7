/-
  What operations come to at each type (letters allowed). Printed by a program of mine (Facts).
-/
import Derived.Test.YtfaplhodeekjnaaGreatAMc
import Derived.Test.YtfaplhodeekjnaaGreatChecked
import Derived.KernelRfl
set_option linter.unusedSimpArgs false
namespace Go.AM
attribute [local instance] fnMaps
open Go Go.Proofs
set_option maxRecDepth 100000
@[irreducible] noncomputable def tyT : Trie TI := @Env.ty trieMaps (@Env.of trieMaps Tryz.prog)
noncomputable def E : Env := ⟨Tryz.prog, fun k => Trie.get tyT k, fun k => Tryz.prog.funcs[k]?, orcOf [(4, .bool true)]⟩
theorem agg_2 : aggOf E 2 = some none := by kernel_rfl
theorem size_2 : E.size 2 = some 1 := by kernel_rfl
theorem part_2 (cs : List Value) (o : Nat) : partV E 2 cs o = cs[o]? := by kernel_rfl
theorem zero_2 : zeroOf E 2 = some (.int .i64 0) := by kernel_rfl
theorem eq_2 (d : Nat) (a b : Int) : eqV E (d + 1) 2 (.int .i64 a) (.int .i64 b) = some (eqI a b) := by kernel_rfl
theorem agg_3 : aggOf E 3 = some none := by kernel_rfl
theorem size_3 : E.size 3 = some 1 := by kernel_rfl
theorem part_3 (cs : List Value) (o : Nat) : partV E 3 cs o = cs[o]? := by kernel_rfl
theorem zero_3 : zeroOf E 3 = some (.int .i64 0) := by kernel_rfl
theorem eq_3 (d : Nat) (a b : Int) : eqV E (d + 1) 3 (.int .i64 a) (.int .i64 b) = some (eqI a b) := by kernel_rfl
theorem agg_4 : aggOf E 4 = some none := by kernel_rfl
theorem size_4 : E.size 4 = some 1 := by kernel_rfl
theorem part_4 (cs : List Value) (o : Nat) : partV E 4 cs o = cs[o]? := by kernel_rfl
theorem zero_4 : zeroOf E 4 = some (.bool false) := by kernel_rfl
theorem eq_4 (d : Nat) (a b : Bool) : eqV E (d + 1) 4 (.bool a) (.bool b) = some (a == b) := by kernel_rfl
theorem agg_24 : aggOf E 24 = some (some 4) := by kernel_rfl
theorem size_24 : E.size 24 = some 4 := by kernel_rfl
theorem part_24 (cs : List Value) (o : Nat) : partV E 24 cs o = (cut cs o 4).bind fun l => some (.agg l.toArray) := by kernel_rfl
theorem zero_24 : zeroOf E 24 = some (.agg #[(.int .i64 0), (.int .i64 0), (.int .i64 0), (.int .i64 0)]) := by kernel_rfl
theorem fa_24_0 (r o : Nat) : fieldAddrV E 24 (ptr r o) 0 = some (ptr r (o + 0)) := by kernel_rfl
theorem fv_24_0 (cs : Array Value) : fieldV E 24 (.agg cs) 0 = partV E 3 cs.toList 0 := by kernel_rfl
theorem fa_24_1 (r o : Nat) : fieldAddrV E 24 (ptr r o) 1 = some (ptr r (o + 1)) := by kernel_rfl
theorem fv_24_1 (cs : Array Value) : fieldV E 24 (.agg cs) 1 = partV E 3 cs.toList 1 := by kernel_rfl
theorem fa_24_2 (r o : Nat) : fieldAddrV E 24 (ptr r o) 2 = some (ptr r (o + 2)) := by kernel_rfl
theorem fv_24_2 (cs : Array Value) : fieldV E 24 (.agg cs) 2 = partV E 3 cs.toList 2 := by kernel_rfl
theorem fa_24_3 (r o : Nat) : fieldAddrV E 24 (ptr r o) 3 = some (ptr r (o + 3)) := by kernel_rfl
theorem fv_24_3 (cs : Array Value) : fieldV E 24 (.agg cs) 3 = partV E 3 cs.toList 3 := by kernel_rfl
theorem lit_24 (T : Tr Value) (ps : List (Nat × Operand)) : structLit E T 24 ps = (evParts T (fun k => [(0, 1), (1, 1), (2, 1), (3, 1)][k]?) ps).bind fun ps => (fillV [(.int .i64 0), (.int .i64 0), (.int .i64 0), (.int .i64 0)] ps).bind fun l => some (.agg l.toArray) := by kernel_rfl
theorem eq_24 (d : Nat) (xs ys : Array Value) : eqV E (d + 1) 24 (.agg xs) (.agg ys) = eqFields E (eqV E d) xs.toList ys.toList [(0, 3), (1, 3), (2, 3), (3, 3)] := by kernel_rfl
theorem agg_25 : aggOf E 25 = some none := by kernel_rfl
theorem size_25 : E.size 25 = some 1 := by kernel_rfl
theorem part_25 (cs : List Value) (o : Nat) : partV E 25 cs o = cs[o]? := by kernel_rfl
theorem zero_25 : zeroOf E 25 = some (.slice none 0 0) := by kernel_rfl
theorem ia_25 (r o n c : Nat) (k : IntKind) (i : Int) : indexAddrV E 25 (.slice (some ⟨r, o, none⟩) n c) (.int k i) = (at? i n).bind fun i => some (ptr r (o + i * 1)) := by kernel_rfl
theorem sc_25 (H : Heap) (r o n c : Nat) (lo hi mx : Option Value) : sliceV E H 25 (.slice (some ⟨r, o, none⟩) n c) lo hi mx = slS E H 1 r o n c lo hi mx := by kernel_rfl
theorem len_25 (H : Heap) (a : Option Addr) (n c : Nat) : builtinV E H .len [25] [.slice a n c] = some (.int .i64 n, H) := by kernel_rfl
theorem app_25 (H : Heap) (s : Value) (a : Option Addr) (n c : Nat) : builtinV E H .append [25, 25] [s, .slice a n c] = (cellsOf H (n * 1) (.slice a n c)).bind fun l => appendV E H 33 s n l := by kernel_rfl
theorem appT_25 (H : Heap) (s : Value) (k : Nat) (new : List Value) : appendV E H 33 s k new = appendT 1 8 H s k new := by kernel_rfl
theorem bs_25 (T : Tr Value) (H : Heap) (len : Nat) (ps : List (Nat × Operand)) : buildSliceV E T H 25 len ps = bif (!Nat.ble (len * 1) 10000000 || false) then none else (evParts T (fun k => some (k * 1, 1)) ps).bind fun ps => (fillV (repeatCells [(.int .u64 0)] len) ps).bind fun l => some (.slice (some ⟨H.next, 0, none⟩) len len, H.newRow l) := by kernel_rfl
theorem eqnil_25 (d : Nat) (a : Option Addr) (n c n' c' : Nat) : eqV E (d + 1) 25 (.slice none n c) (.slice a n' c') = some a.isNone := by kernel_rfl
theorem agg_26 : aggOf E 26 = some none := by kernel_rfl
theorem size_26 : E.size 26 = some 1 := by kernel_rfl
theorem part_26 (cs : List Value) (o : Nat) : partV E 26 cs o = cs[o]? := by kernel_rfl
theorem zero_26 : zeroOf E 26 = some (.slice none 0 0) := by kernel_rfl
theorem ia_26 (r o n c : Nat) (k : IntKind) (i : Int) : indexAddrV E 26 (.slice (some ⟨r, o, none⟩) n c) (.int k i) = (at? i n).bind fun i => some (ptr r (o + i * 2)) := by kernel_rfl
theorem sc_26 (H : Heap) (r o n c : Nat) (lo hi mx : Option Value) : sliceV E H 26 (.slice (some ⟨r, o, none⟩) n c) lo hi mx = slS E H 2 r o n c lo hi mx := by kernel_rfl
theorem len_26 (H : Heap) (a : Option Addr) (n c : Nat) : builtinV E H .len [26] [.slice a n c] = some (.int .i64 n, H) := by kernel_rfl
theorem app_26 (H : Heap) (s : Value) (a : Option Addr) (n c : Nat) : builtinV E H .append [26, 26] [s, .slice a n c] = (cellsOf H (n * 2) (.slice a n c)).bind fun l => appendV E H 55 s n l := by kernel_rfl
theorem appT_26 (H : Heap) (s : Value) (k : Nat) (new : List Value) : appendV E H 55 s k new = appendT 2 16 H s k new := by kernel_rfl
theorem bs_26 (T : Tr Value) (H : Heap) (len : Nat) (ps : List (Nat × Operand)) : buildSliceV E T H 26 len ps = bif (!Nat.ble (len * 2) 10000000 || false) then none else (evParts T (fun k => some (k * 2, 2)) ps).bind fun ps => (fillV (repeatCells [(.int .i64 0), (.int .i64 0)] len) ps).bind fun l => some (.slice (some ⟨H.next, 0, none⟩) len len, H.newRow l) := by kernel_rfl
theorem eqnil_26 (d : Nat) (a : Option Addr) (n c n' c' : Nat) : eqV E (d + 1) 26 (.slice none n c) (.slice a n' c') = some a.isNone := by kernel_rfl
theorem agg_27 : aggOf E 27 = some none := by kernel_rfl
theorem size_27 : E.size 27 = some 1 := by kernel_rfl
theorem part_27 (cs : List Value) (o : Nat) : partV E 27 cs o = cs[o]? := by kernel_rfl
theorem zero_27 : zeroOf E 27 = some (.slice none 0 0) := by kernel_rfl
theorem ia_27 (r o n c : Nat) (k : IntKind) (i : Int) : indexAddrV E 27 (.slice (some ⟨r, o, none⟩) n c) (.int k i) = (at? i n).bind fun i => some (ptr r (o + i * 3)) := by kernel_rfl
theorem sc_27 (H : Heap) (r o n c : Nat) (lo hi mx : Option Value) : sliceV E H 27 (.slice (some ⟨r, o, none⟩) n c) lo hi mx = slS E H 3 r o n c lo hi mx := by kernel_rfl
theorem len_27 (H : Heap) (a : Option Addr) (n c : Nat) : builtinV E H .len [27] [.slice a n c] = some (.int .i64 n, H) := by kernel_rfl
theorem app_27 (H : Heap) (s : Value) (a : Option Addr) (n c : Nat) : builtinV E H .append [27, 27] [s, .slice a n c] = (cellsOf H (n * 3) (.slice a n c)).bind fun l => appendV E H 40 s n l := by kernel_rfl
theorem appT_27 (H : Heap) (s : Value) (k : Nat) (new : List Value) : appendV E H 40 s k new = appendT 3 24 H s k new := by kernel_rfl
theorem bs_27 (T : Tr Value) (H : Heap) (len : Nat) (ps : List (Nat × Operand)) : buildSliceV E T H 27 len ps = bif (!Nat.ble (len * 3) 10000000 || false) then none else (evParts T (fun k => some (k * 3, 3)) ps).bind fun ps => (fillV (repeatCells [(.bool false), (.int .i64 0), (.int .u64 0)] len) ps).bind fun l => some (.slice (some ⟨H.next, 0, none⟩) len len, H.newRow l) := by kernel_rfl
theorem eqnil_27 (d : Nat) (a : Option Addr) (n c n' c' : Nat) : eqV E (d + 1) 27 (.slice none n c) (.slice a n' c') = some a.isNone := by kernel_rfl
theorem agg_29 : aggOf E 29 = some (some 10) := by kernel_rfl
theorem size_29 : E.size 29 = some 10 := by kernel_rfl
theorem part_29 (cs : List Value) (o : Nat) : partV E 29 cs o = (cut cs o 10).bind fun l => some (.agg l.toArray) := by kernel_rfl
theorem zero_29 : zeroOf E 29 = some (.agg #[(.int .i64 0), (.int .i64 0), (.int .i64 0), (.int .i64 0), (.bool false), (.slice none 0 0), (.int .i64 0), (.slice none 0 0), (.slice none 0 0), (.slice none 0 0)]) := by kernel_rfl
theorem fa_29_0 (r o : Nat) : fieldAddrV E 29 (ptr r o) 0 = some (ptr r (o + 0)) := by kernel_rfl
theorem fv_29_0 (cs : Array Value) : fieldV E 29 (.agg cs) 0 = partV E 24 cs.toList 0 := by kernel_rfl
theorem fa_29_1 (r o : Nat) : fieldAddrV E 29 (ptr r o) 1 = some (ptr r (o + 4)) := by kernel_rfl
theorem fv_29_1 (cs : Array Value) : fieldV E 29 (.agg cs) 1 = partV E 4 cs.toList 4 := by kernel_rfl
theorem fa_29_2 (r o : Nat) : fieldAddrV E 29 (ptr r o) 2 = some (ptr r (o + 5)) := by kernel_rfl
theorem fv_29_2 (cs : Array Value) : fieldV E 29 (.agg cs) 2 = partV E 25 cs.toList 5 := by kernel_rfl
theorem fa_29_3 (r o : Nat) : fieldAddrV E 29 (ptr r o) 3 = some (ptr r (o + 6)) := by kernel_rfl
theorem fv_29_3 (cs : Array Value) : fieldV E 29 (.agg cs) 3 = partV E 3 cs.toList 6 := by kernel_rfl
theorem fa_29_4 (r o : Nat) : fieldAddrV E 29 (ptr r o) 4 = some (ptr r (o + 7)) := by kernel_rfl
theorem fv_29_4 (cs : Array Value) : fieldV E 29 (.agg cs) 4 = partV E 26 cs.toList 7 := by kernel_rfl
theorem fa_29_5 (r o : Nat) : fieldAddrV E 29 (ptr r o) 5 = some (ptr r (o + 8)) := by kernel_rfl
theorem fv_29_5 (cs : Array Value) : fieldV E 29 (.agg cs) 5 = partV E 26 cs.toList 8 := by kernel_rfl
theorem fa_29_6 (r o : Nat) : fieldAddrV E 29 (ptr r o) 6 = some (ptr r (o + 9)) := by kernel_rfl
theorem fv_29_6 (cs : Array Value) : fieldV E 29 (.agg cs) 6 = partV E 27 cs.toList 9 := by kernel_rfl
theorem lit_29 (T : Tr Value) (ps : List (Nat × Operand)) : structLit E T 29 ps = (evParts T (fun k => [(0, 4), (4, 1), (5, 1), (6, 1), (7, 1), (8, 1), (9, 1)][k]?) ps).bind fun ps => (fillV [(.int .i64 0), (.int .i64 0), (.int .i64 0), (.int .i64 0), (.bool false), (.slice none 0 0), (.int .i64 0), (.slice none 0 0), (.slice none 0 0), (.slice none 0 0)] ps).bind fun l => some (.agg l.toArray) := by kernel_rfl
theorem eq_29 (d : Nat) (xs ys : Array Value) : eqV E (d + 1) 29 (.agg xs) (.agg ys) = eqFields E (eqV E d) xs.toList ys.toList [(0, 24), (4, 4), (5, 25), (6, 3), (7, 26), (8, 26), (9, 27)] := by kernel_rfl
theorem agg_30 : aggOf E 30 = some none := by kernel_rfl
theorem size_30 : E.size 30 = some 1 := by kernel_rfl
theorem part_30 (cs : List Value) (o : Nat) : partV E 30 cs o = cs[o]? := by kernel_rfl
theorem zero_30 : zeroOf E 30 = some (.int .i64 0) := by kernel_rfl
theorem eq_30 (d : Nat) (a b : Int) : eqV E (d + 1) 30 (.int .i64 a) (.int .i64 b) = some (eqI a b) := by kernel_rfl
theorem agg_33 : aggOf E 33 = some none := by kernel_rfl
theorem size_33 : E.size 33 = some 1 := by kernel_rfl
theorem part_33 (cs : List Value) (o : Nat) : partV E 33 cs o = cs[o]? := by kernel_rfl
theorem zero_33 : zeroOf E 33 = some (.int .u64 0) := by kernel_rfl
theorem eq_33 (d : Nat) (a b : Int) : eqV E (d + 1) 33 (.int .u64 a) (.int .u64 b) = some (eqI a b) := by kernel_rfl
theorem agg_37 : aggOf E 37 = some (some 5) := by kernel_rfl
theorem size_37 : E.size 37 = some 5 := by kernel_rfl
theorem part_37 (cs : List Value) (o : Nat) : partV E 37 cs o = (cut cs o 5).bind fun l => some (.agg l.toArray) := by kernel_rfl
theorem zero_37 : zeroOf E 37 = some (.agg #[(.int .i64 0), (.int .i64 0), (.int .i64 0), (.bool false), (.int .i64 0)]) := by kernel_rfl
theorem fa_37_0 (r o : Nat) : fieldAddrV E 37 (ptr r o) 0 = some (ptr r (o + 0)) := by kernel_rfl
theorem fv_37_0 (cs : Array Value) : fieldV E 37 (.agg cs) 0 = partV E 3 cs.toList 0 := by kernel_rfl
theorem fa_37_1 (r o : Nat) : fieldAddrV E 37 (ptr r o) 1 = some (ptr r (o + 1)) := by kernel_rfl
theorem fv_37_1 (cs : Array Value) : fieldV E 37 (.agg cs) 1 = partV E 3 cs.toList 1 := by kernel_rfl
theorem fa_37_2 (r o : Nat) : fieldAddrV E 37 (ptr r o) 2 = some (ptr r (o + 2)) := by kernel_rfl
theorem fv_37_2 (cs : Array Value) : fieldV E 37 (.agg cs) 2 = partV E 3 cs.toList 2 := by kernel_rfl
theorem fa_37_3 (r o : Nat) : fieldAddrV E 37 (ptr r o) 3 = some (ptr r (o + 3)) := by kernel_rfl
theorem fv_37_3 (cs : Array Value) : fieldV E 37 (.agg cs) 3 = partV E 4 cs.toList 3 := by kernel_rfl
theorem fa_37_4 (r o : Nat) : fieldAddrV E 37 (ptr r o) 4 = some (ptr r (o + 4)) := by kernel_rfl
theorem fv_37_4 (cs : Array Value) : fieldV E 37 (.agg cs) 4 = partV E 3 cs.toList 4 := by kernel_rfl
theorem lit_37 (T : Tr Value) (ps : List (Nat × Operand)) : structLit E T 37 ps = (evParts T (fun k => [(0, 1), (1, 1), (2, 1), (3, 1), (4, 1)][k]?) ps).bind fun ps => (fillV [(.int .i64 0), (.int .i64 0), (.int .i64 0), (.bool false), (.int .i64 0)] ps).bind fun l => some (.agg l.toArray) := by kernel_rfl
theorem eq_37 (d : Nat) (xs ys : Array Value) : eqV E (d + 1) 37 (.agg xs) (.agg ys) = eqFields E (eqV E d) xs.toList ys.toList [(0, 3), (1, 3), (2, 3), (3, 4), (4, 3)] := by kernel_rfl
theorem agg_38 : aggOf E 38 = some none := by kernel_rfl
theorem size_38 : E.size 38 = some 1 := by kernel_rfl
theorem part_38 (cs : List Value) (o : Nat) : partV E 38 cs o = cs[o]? := by kernel_rfl
theorem zero_38 : zeroOf E 38 = some (.int .u64 0) := by kernel_rfl
theorem eq_38 (d : Nat) (a b : Int) : eqV E (d + 1) 38 (.int .u64 a) (.int .u64 b) = some (eqI a b) := by kernel_rfl
theorem agg_40 : aggOf E 40 = some (some 3) := by kernel_rfl
theorem size_40 : E.size 40 = some 3 := by kernel_rfl
theorem part_40 (cs : List Value) (o : Nat) : partV E 40 cs o = (cut cs o 3).bind fun l => some (.agg l.toArray) := by kernel_rfl
theorem zero_40 : zeroOf E 40 = some (.agg #[(.bool false), (.int .i64 0), (.int .u64 0)]) := by kernel_rfl
theorem fa_40_0 (r o : Nat) : fieldAddrV E 40 (ptr r o) 0 = some (ptr r (o + 0)) := by kernel_rfl
theorem fv_40_0 (cs : Array Value) : fieldV E 40 (.agg cs) 0 = partV E 4 cs.toList 0 := by kernel_rfl
theorem fa_40_1 (r o : Nat) : fieldAddrV E 40 (ptr r o) 1 = some (ptr r (o + 1)) := by kernel_rfl
theorem fv_40_1 (cs : Array Value) : fieldV E 40 (.agg cs) 1 = partV E 3 cs.toList 1 := by kernel_rfl
theorem fa_40_2 (r o : Nat) : fieldAddrV E 40 (ptr r o) 2 = some (ptr r (o + 2)) := by kernel_rfl
theorem fv_40_2 (cs : Array Value) : fieldV E 40 (.agg cs) 2 = partV E 33 cs.toList 2 := by kernel_rfl
theorem lit_40 (T : Tr Value) (ps : List (Nat × Operand)) : structLit E T 40 ps = (evParts T (fun k => [(0, 1), (1, 1), (2, 1)][k]?) ps).bind fun ps => (fillV [(.bool false), (.int .i64 0), (.int .u64 0)] ps).bind fun l => some (.agg l.toArray) := by kernel_rfl
theorem eq_40 (d : Nat) (xs ys : Array Value) : eqV E (d + 1) 40 (.agg xs) (.agg ys) = eqFields E (eqV E d) xs.toList ys.toList [(0, 4), (1, 3), (2, 33)] := by kernel_rfl
theorem agg_41 : aggOf E 41 = some none := by kernel_rfl
theorem size_41 : E.size 41 = some 1 := by kernel_rfl
theorem part_41 (cs : List Value) (o : Nat) : partV E 41 cs o = cs[o]? := by kernel_rfl
theorem zero_41 : zeroOf E 41 = some (.pointer none) := by kernel_rfl
theorem eqpn_41 (d r o : Nat) : eqV E (d + 1) 41 (ptr r o) (.pointer none) = some false := by kernel_rfl
theorem eqnn_41 (d : Nat) : eqV E (d + 1) 41 (.pointer none) (.pointer none) = some true := by kernel_rfl
theorem agg_42 : aggOf E 42 = some none := by kernel_rfl
theorem size_42 : E.size 42 = some 1 := by kernel_rfl
theorem part_42 (cs : List Value) (o : Nat) : partV E 42 cs o = cs[o]? := by kernel_rfl
theorem zero_42 : zeroOf E 42 = some (.pointer none) := by kernel_rfl
theorem eqpn_42 (d r o : Nat) : eqV E (d + 1) 42 (ptr r o) (.pointer none) = some false := by kernel_rfl
theorem eqnn_42 (d : Nat) : eqV E (d + 1) 42 (.pointer none) (.pointer none) = some true := by kernel_rfl
theorem agg_43 : aggOf E 43 = some none := by kernel_rfl
theorem size_43 : E.size 43 = some 1 := by kernel_rfl
theorem part_43 (cs : List Value) (o : Nat) : partV E 43 cs o = cs[o]? := by kernel_rfl
theorem zero_43 : zeroOf E 43 = some (.pointer none) := by kernel_rfl
theorem eqpn_43 (d r o : Nat) : eqV E (d + 1) 43 (ptr r o) (.pointer none) = some false := by kernel_rfl
theorem eqnn_43 (d : Nat) : eqV E (d + 1) 43 (.pointer none) (.pointer none) = some true := by kernel_rfl
theorem agg_55 : aggOf E 55 = some (some 2) := by kernel_rfl
theorem size_55 : E.size 55 = some 2 := by kernel_rfl
theorem part_55 (cs : List Value) (o : Nat) : partV E 55 cs o = (cut cs o 2).bind fun l => some (.agg l.toArray) := by kernel_rfl
theorem zero_55 : zeroOf E 55 = some (.agg #[(.int .i64 0), (.int .i64 0)]) := by kernel_rfl
theorem fa_55_0 (r o : Nat) : fieldAddrV E 55 (ptr r o) 0 = some (ptr r (o + 0)) := by kernel_rfl
theorem fv_55_0 (cs : Array Value) : fieldV E 55 (.agg cs) 0 = partV E 3 cs.toList 0 := by kernel_rfl
theorem fa_55_1 (r o : Nat) : fieldAddrV E 55 (ptr r o) 1 = some (ptr r (o + 1)) := by kernel_rfl
theorem fv_55_1 (cs : Array Value) : fieldV E 55 (.agg cs) 1 = partV E 3 cs.toList 1 := by kernel_rfl
theorem lit_55 (T : Tr Value) (ps : List (Nat × Operand)) : structLit E T 55 ps = (evParts T (fun k => [(0, 1), (1, 1)][k]?) ps).bind fun ps => (fillV [(.int .i64 0), (.int .i64 0)] ps).bind fun l => some (.agg l.toArray) := by kernel_rfl
theorem eq_55 (d : Nat) (xs ys : Array Value) : eqV E (d + 1) 55 (.agg xs) (.agg ys) = eqFields E (eqV E d) xs.toList ys.toList [(0, 3), (1, 3)] := by kernel_rfl
theorem agg_59 : aggOf E 59 = some (some 5) := by kernel_rfl
theorem size_59 : E.size 59 = some 5 := by kernel_rfl
theorem part_59 (cs : List Value) (o : Nat) : partV E 59 cs o = (cut cs o 5).bind fun l => some (.agg l.toArray) := by kernel_rfl
theorem zero_59 : zeroOf E 59 = some (.agg #[(.int .i64 0), (.int .i64 0), (.int .i64 0), (.int .i64 0), (.int .i64 0)]) := by kernel_rfl
theorem ia_59 (r o : Nat) (k : IntKind) (i : Int) : indexAddrV E 59 (ptr r o) (.int k i) = (at? i 5).bind fun i => some (ptr r (o + i * 1)) := by kernel_rfl
theorem ix_59 (cs : Array Value) (k : IntKind) (i : Int) : indexV E 59 (.agg cs) (.int k i) = (at? i 5).bind fun i => partV E 3 cs.toList (i * 1) := by kernel_rfl
theorem lit_59 (T : Tr Value) (ps : List (Nat × Operand)) : structLit E T 59 ps = (evParts T (fun k => some (k * 1, 1)) ps).bind fun ps => (fillV [(.int .i64 0), (.int .i64 0), (.int .i64 0), (.int .i64 0), (.int .i64 0)] ps).bind fun l => some (.agg l.toArray) := by kernel_rfl
theorem agg_62 : aggOf E 62 = some (some 3) := by kernel_rfl
theorem size_62 : E.size 62 = some 3 := by kernel_rfl
theorem part_62 (cs : List Value) (o : Nat) : partV E 62 cs o = (cut cs o 3).bind fun l => some (.agg l.toArray) := by kernel_rfl
theorem zero_62 : zeroOf E 62 = some (.agg #[(.int .i64 0), (.int .i64 0), (.int .i64 0)]) := by kernel_rfl
theorem fa_62_0 (r o : Nat) : fieldAddrV E 62 (ptr r o) 0 = some (ptr r (o + 0)) := by kernel_rfl
theorem fv_62_0 (cs : Array Value) : fieldV E 62 (.agg cs) 0 = partV E 3 cs.toList 0 := by kernel_rfl
theorem fa_62_1 (r o : Nat) : fieldAddrV E 62 (ptr r o) 1 = some (ptr r (o + 1)) := by kernel_rfl
theorem fv_62_1 (cs : Array Value) : fieldV E 62 (.agg cs) 1 = partV E 3 cs.toList 1 := by kernel_rfl
theorem fa_62_2 (r o : Nat) : fieldAddrV E 62 (ptr r o) 2 = some (ptr r (o + 2)) := by kernel_rfl
theorem fv_62_2 (cs : Array Value) : fieldV E 62 (.agg cs) 2 = partV E 3 cs.toList 2 := by kernel_rfl
theorem lit_62 (T : Tr Value) (ps : List (Nat × Operand)) : structLit E T 62 ps = (evParts T (fun k => [(0, 1), (1, 1), (2, 1)][k]?) ps).bind fun ps => (fillV [(.int .i64 0), (.int .i64 0), (.int .i64 0)] ps).bind fun l => some (.agg l.toArray) := by kernel_rfl
theorem eq_62 (d : Nat) (xs ys : Array Value) : eqV E (d + 1) 62 (.agg xs) (.agg ys) = eqFields E (eqV E d) xs.toList ys.toList [(0, 3), (1, 3), (2, 3)] := by kernel_rfl
theorem agg_63 : aggOf E 63 = some (some 15) := by kernel_rfl
theorem size_63 : E.size 63 = some 15 := by kernel_rfl
theorem part_63 (cs : List Value) (o : Nat) : partV E 63 cs o = (cut cs o 15).bind fun l => some (.agg l.toArray) := by kernel_rfl
theorem zero_63 : zeroOf E 63 = some (.agg #[(.int .i64 0), (.int .i64 0), (.int .i64 0), (.int .i64 0), (.int .i64 0), (.int .i64 0), (.int .i64 0), (.int .i64 0), (.int .i64 0), (.int .i64 0), (.int .i64 0), (.int .i64 0), (.int .i64 0), (.int .i64 0), (.int .i64 0)]) := by kernel_rfl
theorem ia_63 (r o : Nat) (k : IntKind) (i : Int) : indexAddrV E 63 (ptr r o) (.int k i) = (at? i 5).bind fun i => some (ptr r (o + i * 3)) := by kernel_rfl
theorem ix_63 (cs : Array Value) (k : IntKind) (i : Int) : indexV E 63 (.agg cs) (.int k i) = (at? i 5).bind fun i => partV E 62 cs.toList (i * 3) := by kernel_rfl
theorem lit_63 (T : Tr Value) (ps : List (Nat × Operand)) : structLit E T 63 ps = (evParts T (fun k => some (k * 3, 3)) ps).bind fun ps => (fillV [(.int .i64 0), (.int .i64 0), (.int .i64 0), (.int .i64 0), (.int .i64 0), (.int .i64 0), (.int .i64 0), (.int .i64 0), (.int .i64 0), (.int .i64 0), (.int .i64 0), (.int .i64 0), (.int .i64 0), (.int .i64 0), (.int .i64 0)] ps).bind fun l => some (.agg l.toArray) := by kernel_rfl
theorem agg_82 : aggOf E 82 = some (some 2) := by kernel_rfl
theorem size_82 : E.size 82 = some 2 := by kernel_rfl
theorem part_82 (cs : List Value) (o : Nat) : partV E 82 cs o = (cut cs o 2).bind fun l => some (.agg l.toArray) := by kernel_rfl
theorem zero_82 : zeroOf E 82 = some (.agg #[(.bool false), (.slice none 0 0)]) := by kernel_rfl
theorem fa_82_0 (r o : Nat) : fieldAddrV E 82 (ptr r o) 0 = some (ptr r (o + 0)) := by kernel_rfl
theorem fv_82_0 (cs : Array Value) : fieldV E 82 (.agg cs) 0 = partV E 4 cs.toList 0 := by kernel_rfl
theorem fa_82_1 (r o : Nat) : fieldAddrV E 82 (ptr r o) 1 = some (ptr r (o + 1)) := by kernel_rfl
theorem fv_82_1 (cs : Array Value) : fieldV E 82 (.agg cs) 1 = partV E 25 cs.toList 1 := by kernel_rfl
theorem lit_82 (T : Tr Value) (ps : List (Nat × Operand)) : structLit E T 82 ps = (evParts T (fun k => [(0, 1), (1, 1)][k]?) ps).bind fun ps => (fillV [(.bool false), (.slice none 0 0)] ps).bind fun l => some (.agg l.toArray) := by kernel_rfl
theorem eq_82 (d : Nat) (xs ys : Array Value) : eqV E (d + 1) 82 (.agg xs) (.agg ys) = eqFields E (eqV E d) xs.toList ys.toList [(0, 4), (1, 25)] := by kernel_rfl
theorem agg_83 : aggOf E 83 = some none := by kernel_rfl
theorem size_83 : E.size 83 = some 1 := by kernel_rfl
theorem part_83 (cs : List Value) (o : Nat) : partV E 83 cs o = cs[o]? := by kernel_rfl
theorem zero_83 : zeroOf E 83 = some (.pointer none) := by kernel_rfl
theorem eqpn_83 (d r o : Nat) : eqV E (d + 1) 83 (ptr r o) (.pointer none) = some false := by kernel_rfl
theorem eqnn_83 (d : Nat) : eqV E (d + 1) 83 (.pointer none) (.pointer none) = some true := by kernel_rfl
theorem agg_85 : aggOf E 85 = some (some 5) := by kernel_rfl
theorem size_85 : E.size 85 = some 5 := by kernel_rfl
theorem part_85 (cs : List Value) (o : Nat) : partV E 85 cs o = (cut cs o 5).bind fun l => some (.agg l.toArray) := by kernel_rfl
theorem zero_85 : zeroOf E 85 = some (.agg #[(.int .i64 0), (.int .i64 0), (.int .i64 0), (.int .i64 0), (.int .i64 0)]) := by kernel_rfl
theorem fa_85_0 (r o : Nat) : fieldAddrV E 85 (ptr r o) 0 = some (ptr r (o + 0)) := by kernel_rfl
theorem fv_85_0 (cs : Array Value) : fieldV E 85 (.agg cs) 0 = partV E 3 cs.toList 0 := by kernel_rfl
theorem fa_85_1 (r o : Nat) : fieldAddrV E 85 (ptr r o) 1 = some (ptr r (o + 1)) := by kernel_rfl
theorem fv_85_1 (cs : Array Value) : fieldV E 85 (.agg cs) 1 = partV E 3 cs.toList 1 := by kernel_rfl
theorem fa_85_2 (r o : Nat) : fieldAddrV E 85 (ptr r o) 2 = some (ptr r (o + 2)) := by kernel_rfl
theorem fv_85_2 (cs : Array Value) : fieldV E 85 (.agg cs) 2 = partV E 3 cs.toList 2 := by kernel_rfl
theorem fa_85_3 (r o : Nat) : fieldAddrV E 85 (ptr r o) 3 = some (ptr r (o + 3)) := by kernel_rfl
theorem fv_85_3 (cs : Array Value) : fieldV E 85 (.agg cs) 3 = partV E 3 cs.toList 3 := by kernel_rfl
theorem fa_85_4 (r o : Nat) : fieldAddrV E 85 (ptr r o) 4 = some (ptr r (o + 4)) := by kernel_rfl
theorem fv_85_4 (cs : Array Value) : fieldV E 85 (.agg cs) 4 = partV E 3 cs.toList 4 := by kernel_rfl
theorem lit_85 (T : Tr Value) (ps : List (Nat × Operand)) : structLit E T 85 ps = (evParts T (fun k => [(0, 1), (1, 1), (2, 1), (3, 1), (4, 1)][k]?) ps).bind fun ps => (fillV [(.int .i64 0), (.int .i64 0), (.int .i64 0), (.int .i64 0), (.int .i64 0)] ps).bind fun l => some (.agg l.toArray) := by kernel_rfl
theorem eq_85 (d : Nat) (xs ys : Array Value) : eqV E (d + 1) 85 (.agg xs) (.agg ys) = eqFields E (eqV E d) xs.toList ys.toList [(0, 3), (1, 3), (2, 3), (3, 3), (4, 3)] := by kernel_rfl
theorem agg_87 : aggOf E 87 = some (some 14) := by kernel_rfl
theorem size_87 : E.size 87 = some 14 := by kernel_rfl
theorem part_87 (cs : List Value) (o : Nat) : partV E 87 cs o = (cut cs o 14).bind fun l => some (.agg l.toArray) := by kernel_rfl
theorem zero_87 : zeroOf E 87 = some (.agg #[(.bool false), (.pointer none), (.int .i64 0), (.int .i64 0), (.int .i64 0), (.int .i64 0), (.int .i64 0), (.pointer none), (.pointer none), (.int .i64 0), (.int .i64 0), (.int .i64 0), (.int .i64 0), (.int .i64 0)]) := by kernel_rfl
theorem fa_87_0 (r o : Nat) : fieldAddrV E 87 (ptr r o) 0 = some (ptr r (o + 0)) := by kernel_rfl
theorem fv_87_0 (cs : Array Value) : fieldV E 87 (.agg cs) 0 = partV E 4 cs.toList 0 := by kernel_rfl
theorem fa_87_1 (r o : Nat) : fieldAddrV E 87 (ptr r o) 1 = some (ptr r (o + 1)) := by kernel_rfl
theorem fv_87_1 (cs : Array Value) : fieldV E 87 (.agg cs) 1 = partV E 42 cs.toList 1 := by kernel_rfl
theorem fa_87_2 (r o : Nat) : fieldAddrV E 87 (ptr r o) 2 = some (ptr r (o + 2)) := by kernel_rfl
theorem fv_87_2 (cs : Array Value) : fieldV E 87 (.agg cs) 2 = partV E 55 cs.toList 2 := by kernel_rfl
theorem fa_87_3 (r o : Nat) : fieldAddrV E 87 (ptr r o) 3 = some (ptr r (o + 4)) := by kernel_rfl
theorem fv_87_3 (cs : Array Value) : fieldV E 87 (.agg cs) 3 = partV E 3 cs.toList 4 := by kernel_rfl
theorem fa_87_4 (r o : Nat) : fieldAddrV E 87 (ptr r o) 4 = some (ptr r (o + 5)) := by kernel_rfl
theorem fv_87_4 (cs : Array Value) : fieldV E 87 (.agg cs) 4 = partV E 55 cs.toList 5 := by kernel_rfl
theorem fa_87_5 (r o : Nat) : fieldAddrV E 87 (ptr r o) 5 = some (ptr r (o + 7)) := by kernel_rfl
theorem fv_87_5 (cs : Array Value) : fieldV E 87 (.agg cs) 5 = partV E 83 cs.toList 7 := by kernel_rfl
theorem fa_87_6 (r o : Nat) : fieldAddrV E 87 (ptr r o) 6 = some (ptr r (o + 8)) := by kernel_rfl
theorem fv_87_6 (cs : Array Value) : fieldV E 87 (.agg cs) 6 = partV E 43 cs.toList 8 := by kernel_rfl
theorem fa_87_7 (r o : Nat) : fieldAddrV E 87 (ptr r o) 7 = some (ptr r (o + 9)) := by kernel_rfl
theorem fv_87_7 (cs : Array Value) : fieldV E 87 (.agg cs) 7 = partV E 85 cs.toList 9 := by kernel_rfl
theorem lit_87 (T : Tr Value) (ps : List (Nat × Operand)) : structLit E T 87 ps = (evParts T (fun k => [(0, 1), (1, 1), (2, 2), (4, 1), (5, 2), (7, 1), (8, 1), (9, 5)][k]?) ps).bind fun ps => (fillV [(.bool false), (.pointer none), (.int .i64 0), (.int .i64 0), (.int .i64 0), (.int .i64 0), (.int .i64 0), (.pointer none), (.pointer none), (.int .i64 0), (.int .i64 0), (.int .i64 0), (.int .i64 0), (.int .i64 0)] ps).bind fun l => some (.agg l.toArray) := by kernel_rfl
theorem eq_87 (d : Nat) (xs ys : Array Value) : eqV E (d + 1) 87 (.agg xs) (.agg ys) = eqFields E (eqV E d) xs.toList ys.toList [(0, 4), (1, 42), (2, 55), (4, 3), (5, 55), (7, 83), (8, 43), (9, 85)] := by kernel_rfl
theorem agg_91 : aggOf E 91 = some (some 6) := by kernel_rfl
theorem size_91 : E.size 91 = some 6 := by kernel_rfl
theorem part_91 (cs : List Value) (o : Nat) : partV E 91 cs o = (cut cs o 6).bind fun l => some (.agg l.toArray) := by kernel_rfl
theorem zero_91 : zeroOf E 91 = some (.agg #[(.int .i64 0), (.int .i64 0), (.int .i64 0), (.int .i64 0), (.int .i64 0), (.int .i64 0)]) := by kernel_rfl
theorem ia_91 (r o : Nat) (k : IntKind) (i : Int) : indexAddrV E 91 (ptr r o) (.int k i) = (at? i 3).bind fun i => some (ptr r (o + i * 2)) := by kernel_rfl
theorem ix_91 (cs : Array Value) (k : IntKind) (i : Int) : indexV E 91 (.agg cs) (.int k i) = (at? i 3).bind fun i => partV E 55 cs.toList (i * 2) := by kernel_rfl
theorem lit_91 (T : Tr Value) (ps : List (Nat × Operand)) : structLit E T 91 ps = (evParts T (fun k => some (k * 2, 2)) ps).bind fun ps => (fillV [(.int .i64 0), (.int .i64 0), (.int .i64 0), (.int .i64 0), (.int .i64 0), (.int .i64 0)] ps).bind fun l => some (.agg l.toArray) := by kernel_rfl
theorem agg_102 : aggOf E 102 = some (some 5) := by kernel_rfl
theorem size_102 : E.size 102 = some 5 := by kernel_rfl
theorem part_102 (cs : List Value) (o : Nat) : partV E 102 cs o = (cut cs o 5).bind fun l => some (.agg l.toArray) := by kernel_rfl
theorem zero_102 : zeroOf E 102 = some (.agg #[(.bool false), (.pointer none), (.slice none 0 0), (.slice none 0 0), (.int .i64 0)]) := by kernel_rfl
theorem fa_102_0 (r o : Nat) : fieldAddrV E 102 (ptr r o) 0 = some (ptr r (o + 0)) := by kernel_rfl
theorem fv_102_0 (cs : Array Value) : fieldV E 102 (.agg cs) 0 = partV E 4 cs.toList 0 := by kernel_rfl
theorem fa_102_1 (r o : Nat) : fieldAddrV E 102 (ptr r o) 1 = some (ptr r (o + 1)) := by kernel_rfl
theorem fv_102_1 (cs : Array Value) : fieldV E 102 (.agg cs) 1 = partV E 42 cs.toList 1 := by kernel_rfl
theorem fa_102_2 (r o : Nat) : fieldAddrV E 102 (ptr r o) 2 = some (ptr r (o + 2)) := by kernel_rfl
theorem fv_102_2 (cs : Array Value) : fieldV E 102 (.agg cs) 2 = partV E 26 cs.toList 2 := by kernel_rfl
theorem fa_102_3 (r o : Nat) : fieldAddrV E 102 (ptr r o) 3 = some (ptr r (o + 3)) := by kernel_rfl
theorem fv_102_3 (cs : Array Value) : fieldV E 102 (.agg cs) 3 = partV E 26 cs.toList 3 := by kernel_rfl
theorem fa_102_4 (r o : Nat) : fieldAddrV E 102 (ptr r o) 4 = some (ptr r (o + 4)) := by kernel_rfl
theorem fv_102_4 (cs : Array Value) : fieldV E 102 (.agg cs) 4 = partV E 3 cs.toList 4 := by kernel_rfl
theorem lit_102 (T : Tr Value) (ps : List (Nat × Operand)) : structLit E T 102 ps = (evParts T (fun k => [(0, 1), (1, 1), (2, 1), (3, 1), (4, 1)][k]?) ps).bind fun ps => (fillV [(.bool false), (.pointer none), (.slice none 0 0), (.slice none 0 0), (.int .i64 0)] ps).bind fun l => some (.agg l.toArray) := by kernel_rfl
theorem eq_102 (d : Nat) (xs ys : Array Value) : eqV E (d + 1) 102 (.agg xs) (.agg ys) = eqFields E (eqV E d) xs.toList ys.toList [(0, 4), (1, 42), (2, 26), (3, 26), (4, 3)] := by kernel_rfl
theorem agg_114 : aggOf E 114 = some (some 4) := by kernel_rfl
theorem size_114 : E.size 114 = some 4 := by kernel_rfl
theorem part_114 (cs : List Value) (o : Nat) : partV E 114 cs o = (cut cs o 4).bind fun l => some (.agg l.toArray) := by kernel_rfl
theorem zero_114 : zeroOf E 114 = some (.agg #[(.bool false), (.int .i64 0), (.int .i64 0), (.int .i64 0)]) := by kernel_rfl
theorem fa_114_0 (r o : Nat) : fieldAddrV E 114 (ptr r o) 0 = some (ptr r (o + 0)) := by kernel_rfl
theorem fv_114_0 (cs : Array Value) : fieldV E 114 (.agg cs) 0 = partV E 4 cs.toList 0 := by kernel_rfl
theorem fa_114_1 (r o : Nat) : fieldAddrV E 114 (ptr r o) 1 = some (ptr r (o + 1)) := by kernel_rfl
theorem fv_114_1 (cs : Array Value) : fieldV E 114 (.agg cs) 1 = partV E 55 cs.toList 1 := by kernel_rfl
theorem fa_114_2 (r o : Nat) : fieldAddrV E 114 (ptr r o) 2 = some (ptr r (o + 3)) := by kernel_rfl
theorem fv_114_2 (cs : Array Value) : fieldV E 114 (.agg cs) 2 = partV E 3 cs.toList 3 := by kernel_rfl
theorem lit_114 (T : Tr Value) (ps : List (Nat × Operand)) : structLit E T 114 ps = (evParts T (fun k => [(0, 1), (1, 2), (3, 1)][k]?) ps).bind fun ps => (fillV [(.bool false), (.int .i64 0), (.int .i64 0), (.int .i64 0)] ps).bind fun l => some (.agg l.toArray) := by kernel_rfl
theorem eq_114 (d : Nat) (xs ys : Array Value) : eqV E (d + 1) 114 (.agg xs) (.agg ys) = eqFields E (eqV E d) xs.toList ys.toList [(0, 4), (1, 55), (3, 3)] := by kernel_rfl
theorem agg_115 : aggOf E 115 = some none := by kernel_rfl
theorem size_115 : E.size 115 = some 1 := by kernel_rfl
theorem part_115 (cs : List Value) (o : Nat) : partV E 115 cs o = cs[o]? := by kernel_rfl
theorem zero_115 : zeroOf E 115 = some (.slice none 0 0) := by kernel_rfl
theorem ia_115 (r o n c : Nat) (k : IntKind) (i : Int) : indexAddrV E 115 (.slice (some ⟨r, o, none⟩) n c) (.int k i) = (at? i n).bind fun i => some (ptr r (o + i * 1)) := by kernel_rfl
theorem sc_115 (H : Heap) (r o n c : Nat) (lo hi mx : Option Value) : sliceV E H 115 (.slice (some ⟨r, o, none⟩) n c) lo hi mx = slS E H 1 r o n c lo hi mx := by kernel_rfl
theorem len_115 (H : Heap) (a : Option Addr) (n c : Nat) : builtinV E H .len [115] [.slice a n c] = some (.int .i64 n, H) := by kernel_rfl
theorem app_115 (H : Heap) (s : Value) (a : Option Addr) (n c : Nat) : builtinV E H .append [115, 115] [s, .slice a n c] = (cellsOf H (n * 1) (.slice a n c)).bind fun l => appendV E H 3 s n l := by kernel_rfl
theorem appT_115 (H : Heap) (s : Value) (k : Nat) (new : List Value) : appendV E H 3 s k new = appendT 1 8 H s k new := by kernel_rfl
theorem bs_115 (T : Tr Value) (H : Heap) (len : Nat) (ps : List (Nat × Operand)) : buildSliceV E T H 115 len ps = bif (!Nat.ble (len * 1) 10000000 || false) then none else (evParts T (fun k => some (k * 1, 1)) ps).bind fun ps => (fillV (repeatCells [(.int .i64 0)] len) ps).bind fun l => some (.slice (some ⟨H.next, 0, none⟩) len len, H.newRow l) := by kernel_rfl
theorem eqnil_115 (d : Nat) (a : Option Addr) (n c n' c' : Nat) : eqV E (d + 1) 115 (.slice none n c) (.slice a n' c') = some a.isNone := by kernel_rfl
theorem agg_116 : aggOf E 116 = some none := by kernel_rfl
theorem size_116 : E.size 116 = some 1 := by kernel_rfl
theorem part_116 (cs : List Value) (o : Nat) : partV E 116 cs o = cs[o]? := by kernel_rfl
theorem zero_116 : zeroOf E 116 = some (.map none) := by kernel_rfl
theorem agg_118 : aggOf E 118 = some (some 13) := by kernel_rfl
theorem size_118 : E.size 118 = some 13 := by kernel_rfl
theorem part_118 (cs : List Value) (o : Nat) : partV E 118 cs o = (cut cs o 13).bind fun l => some (.agg l.toArray) := by kernel_rfl
theorem zero_118 : zeroOf E 118 = some (.agg #[(.int .i64 0), (.int .i64 0), (.int .i64 0), (.int .i64 0), (.bool false), (.slice none 0 0), (.int .i64 0), (.slice none 0 0), (.slice none 0 0), (.slice none 0 0), (.pointer none), (.slice none 0 0), (.map none)]) := by kernel_rfl
theorem fa_118_0 (r o : Nat) : fieldAddrV E 118 (ptr r o) 0 = some (ptr r (o + 0)) := by kernel_rfl
theorem fv_118_0 (cs : Array Value) : fieldV E 118 (.agg cs) 0 = partV E 29 cs.toList 0 := by kernel_rfl
theorem fa_118_1 (r o : Nat) : fieldAddrV E 118 (ptr r o) 1 = some (ptr r (o + 10)) := by kernel_rfl
theorem fv_118_1 (cs : Array Value) : fieldV E 118 (.agg cs) 1 = partV E 42 cs.toList 10 := by kernel_rfl
theorem fa_118_2 (r o : Nat) : fieldAddrV E 118 (ptr r o) 2 = some (ptr r (o + 11)) := by kernel_rfl
theorem fv_118_2 (cs : Array Value) : fieldV E 118 (.agg cs) 2 = partV E 115 cs.toList 11 := by kernel_rfl
theorem fa_118_3 (r o : Nat) : fieldAddrV E 118 (ptr r o) 3 = some (ptr r (o + 12)) := by kernel_rfl
theorem fv_118_3 (cs : Array Value) : fieldV E 118 (.agg cs) 3 = partV E 116 cs.toList 12 := by kernel_rfl
theorem lit_118 (T : Tr Value) (ps : List (Nat × Operand)) : structLit E T 118 ps = (evParts T (fun k => [(0, 10), (10, 1), (11, 1), (12, 1)][k]?) ps).bind fun ps => (fillV [(.int .i64 0), (.int .i64 0), (.int .i64 0), (.int .i64 0), (.bool false), (.slice none 0 0), (.int .i64 0), (.slice none 0 0), (.slice none 0 0), (.slice none 0 0), (.pointer none), (.slice none 0 0), (.map none)] ps).bind fun l => some (.agg l.toArray) := by kernel_rfl
theorem eq_118 (d : Nat) (xs ys : Array Value) : eqV E (d + 1) 118 (.agg xs) (.agg ys) = eqFields E (eqV E d) xs.toList ys.toList [(0, 29), (10, 42), (11, 115), (12, 116)] := by kernel_rfl
theorem agg_119 : aggOf E 119 = some none := by kernel_rfl
theorem size_119 : E.size 119 = some 1 := by kernel_rfl
theorem part_119 (cs : List Value) (o : Nat) : partV E 119 cs o = cs[o]? := by kernel_rfl
theorem zero_119 : zeroOf E 119 = some (.slice none 0 0) := by kernel_rfl
theorem ia_119 (r o n c : Nat) (k : IntKind) (i : Int) : indexAddrV E 119 (.slice (some ⟨r, o, none⟩) n c) (.int k i) = (at? i n).bind fun i => some (ptr r (o + i * 1)) := by kernel_rfl
theorem sc_119 (H : Heap) (r o n c : Nat) (lo hi mx : Option Value) : sliceV E H 119 (.slice (some ⟨r, o, none⟩) n c) lo hi mx = slS E H 1 r o n c lo hi mx := by kernel_rfl
theorem len_119 (H : Heap) (a : Option Addr) (n c : Nat) : builtinV E H .len [119] [.slice a n c] = some (.int .i64 n, H) := by kernel_rfl
theorem app_119 (H : Heap) (s : Value) (a : Option Addr) (n c : Nat) : builtinV E H .append [119, 119] [s, .slice a n c] = (cellsOf H (n * 1) (.slice a n c)).bind fun l => appendV E H 122 s n l := by kernel_rfl
theorem appT_119 (H : Heap) (s : Value) (k : Nat) (new : List Value) : appendV E H 122 s k new = appendT 1 8 H s k new := by kernel_rfl
theorem bs_119 (T : Tr Value) (H : Heap) (len : Nat) (ps : List (Nat × Operand)) : buildSliceV E T H 119 len ps = bif (!Nat.ble (len * 1) 10000000 || false) then none else (evParts T (fun k => some (k * 1, 1)) ps).bind fun ps => (fillV (repeatCells [.nilFunc] len) ps).bind fun l => some (.slice (some ⟨H.next, 0, none⟩) len len, H.newRow l) := by kernel_rfl
theorem eqnil_119 (d : Nat) (a : Option Addr) (n c n' c' : Nat) : eqV E (d + 1) 119 (.slice none n c) (.slice a n' c') = some a.isNone := by kernel_rfl
theorem agg_122 : aggOf E 122 = some none := by kernel_rfl
theorem size_122 : E.size 122 = some 1 := by kernel_rfl
theorem part_122 (cs : List Value) (o : Nat) : partV E 122 cs o = cs[o]? := by kernel_rfl
theorem zero_122 : zeroOf E 122 = some .nilFunc := by kernel_rfl
theorem agg_123 : aggOf E 123 = some (some 4) := by kernel_rfl
theorem size_123 : E.size 123 = some 4 := by kernel_rfl
theorem part_123 (cs : List Value) (o : Nat) : partV E 123 cs o = (cut cs o 4).bind fun l => some (.agg l.toArray) := by kernel_rfl
theorem zero_123 : zeroOf E 123 = some (.agg #[(.int .i64 0), (.int .i64 0), (.int .i64 0), (.int .i64 0)]) := by kernel_rfl
theorem ia_123 (r o : Nat) (k : IntKind) (i : Int) : indexAddrV E 123 (ptr r o) (.int k i) = (at? i 2).bind fun i => some (ptr r (o + i * 2)) := by kernel_rfl
theorem ix_123 (cs : Array Value) (k : IntKind) (i : Int) : indexV E 123 (.agg cs) (.int k i) = (at? i 2).bind fun i => partV E 55 cs.toList (i * 2) := by kernel_rfl
theorem lit_123 (T : Tr Value) (ps : List (Nat × Operand)) : structLit E T 123 ps = (evParts T (fun k => some (k * 2, 2)) ps).bind fun ps => (fillV [(.int .i64 0), (.int .i64 0), (.int .i64 0), (.int .i64 0)] ps).bind fun l => some (.agg l.toArray) := by kernel_rfl
theorem agg_135 : aggOf E 135 = some (some 2) := by kernel_rfl
theorem size_135 : E.size 135 = some 2 := by kernel_rfl
theorem part_135 (cs : List Value) (o : Nat) : partV E 135 cs o = (cut cs o 2).bind fun l => some (.agg l.toArray) := by kernel_rfl
theorem zero_135 : zeroOf E 135 = some (.agg #[(.int .i64 0), (.int .i64 0)]) := by kernel_rfl
theorem fa_135_0 (r o : Nat) : fieldAddrV E 135 (ptr r o) 0 = some (ptr r (o + 0)) := by kernel_rfl
theorem fv_135_0 (cs : Array Value) : fieldV E 135 (.agg cs) 0 = partV E 3 cs.toList 0 := by kernel_rfl
theorem fa_135_1 (r o : Nat) : fieldAddrV E 135 (ptr r o) 1 = some (ptr r (o + 1)) := by kernel_rfl
theorem fv_135_1 (cs : Array Value) : fieldV E 135 (.agg cs) 1 = partV E 2 cs.toList 1 := by kernel_rfl
theorem lit_135 (T : Tr Value) (ps : List (Nat × Operand)) : structLit E T 135 ps = (evParts T (fun k => [(0, 1), (1, 1)][k]?) ps).bind fun ps => (fillV [(.int .i64 0), (.int .i64 0)] ps).bind fun l => some (.agg l.toArray) := by kernel_rfl
theorem eq_135 (d : Nat) (xs ys : Array Value) : eqV E (d + 1) 135 (.agg xs) (.agg ys) = eqFields E (eqV E d) xs.toList ys.toList [(0, 3), (1, 2)] := by kernel_rfl
theorem agg_140 : aggOf E 140 = some (some 4) := by kernel_rfl
theorem size_140 : E.size 140 = some 4 := by kernel_rfl
theorem part_140 (cs : List Value) (o : Nat) : partV E 140 cs o = (cut cs o 4).bind fun l => some (.agg l.toArray) := by kernel_rfl
theorem zero_140 : zeroOf E 140 = some (.agg #[(.pointer none), (.int .i64 0), (.int .u64 0), (.int .i64 0)]) := by kernel_rfl
theorem fa_140_0 (r o : Nat) : fieldAddrV E 140 (ptr r o) 0 = some (ptr r (o + 0)) := by kernel_rfl
theorem fv_140_0 (cs : Array Value) : fieldV E 140 (.agg cs) 0 = partV E 41 cs.toList 0 := by kernel_rfl
theorem fa_140_1 (r o : Nat) : fieldAddrV E 140 (ptr r o) 1 = some (ptr r (o + 1)) := by kernel_rfl
theorem fv_140_1 (cs : Array Value) : fieldV E 140 (.agg cs) 1 = partV E 3 cs.toList 1 := by kernel_rfl
theorem fa_140_2 (r o : Nat) : fieldAddrV E 140 (ptr r o) 2 = some (ptr r (o + 2)) := by kernel_rfl
theorem fv_140_2 (cs : Array Value) : fieldV E 140 (.agg cs) 2 = partV E 33 cs.toList 2 := by kernel_rfl
theorem fa_140_3 (r o : Nat) : fieldAddrV E 140 (ptr r o) 3 = some (ptr r (o + 3)) := by kernel_rfl
theorem fv_140_3 (cs : Array Value) : fieldV E 140 (.agg cs) 3 = partV E 30 cs.toList 3 := by kernel_rfl
theorem lit_140 (T : Tr Value) (ps : List (Nat × Operand)) : structLit E T 140 ps = (evParts T (fun k => [(0, 1), (1, 1), (2, 1), (3, 1)][k]?) ps).bind fun ps => (fillV [(.pointer none), (.int .i64 0), (.int .u64 0), (.int .i64 0)] ps).bind fun l => some (.agg l.toArray) := by kernel_rfl
theorem eq_140 (d : Nat) (xs ys : Array Value) : eqV E (d + 1) 140 (.agg xs) (.agg ys) = eqFields E (eqV E d) xs.toList ys.toList [(0, 41), (1, 3), (2, 33), (3, 30)] := by kernel_rfl
theorem agg_172 : aggOf E 172 = some (some 8) := by kernel_rfl
theorem size_172 : E.size 172 = some 8 := by kernel_rfl
theorem part_172 (cs : List Value) (o : Nat) : partV E 172 cs o = (cut cs o 8).bind fun l => some (.agg l.toArray) := by kernel_rfl
theorem zero_172 : zeroOf E 172 = some (.agg #[(.int .i64 0), (.int .i64 0), (.int .i64 0), (.int .i64 0), (.bool false), (.int .i64 0), (.int .i64 0), (.bool false)]) := by kernel_rfl
theorem fa_172_0 (r o : Nat) : fieldAddrV E 172 (ptr r o) 0 = some (ptr r (o + 0)) := by kernel_rfl
theorem fv_172_0 (cs : Array Value) : fieldV E 172 (.agg cs) 0 = partV E 3 cs.toList 0 := by kernel_rfl
theorem fa_172_1 (r o : Nat) : fieldAddrV E 172 (ptr r o) 1 = some (ptr r (o + 1)) := by kernel_rfl
theorem fv_172_1 (cs : Array Value) : fieldV E 172 (.agg cs) 1 = partV E 37 cs.toList 1 := by kernel_rfl
theorem fa_172_2 (r o : Nat) : fieldAddrV E 172 (ptr r o) 2 = some (ptr r (o + 6)) := by kernel_rfl
theorem fv_172_2 (cs : Array Value) : fieldV E 172 (.agg cs) 2 = partV E 30 cs.toList 6 := by kernel_rfl
theorem fa_172_3 (r o : Nat) : fieldAddrV E 172 (ptr r o) 3 = some (ptr r (o + 7)) := by kernel_rfl
theorem fv_172_3 (cs : Array Value) : fieldV E 172 (.agg cs) 3 = partV E 4 cs.toList 7 := by kernel_rfl
theorem lit_172 (T : Tr Value) (ps : List (Nat × Operand)) : structLit E T 172 ps = (evParts T (fun k => [(0, 1), (1, 5), (6, 1), (7, 1)][k]?) ps).bind fun ps => (fillV [(.int .i64 0), (.int .i64 0), (.int .i64 0), (.int .i64 0), (.bool false), (.int .i64 0), (.int .i64 0), (.bool false)] ps).bind fun l => some (.agg l.toArray) := by kernel_rfl
theorem eq_172 (d : Nat) (xs ys : Array Value) : eqV E (d + 1) 172 (.agg xs) (.agg ys) = eqFields E (eqV E d) xs.toList ys.toList [(0, 3), (1, 37), (6, 30), (7, 4)] := by kernel_rfl
theorem conv_2_2 (k : IntKind) (n : Int) : convV E 2 2 (.int k n) = intR .i64 n := by kernel_rfl
theorem conv_2_3 (k : IntKind) (n : Int) : convV E 2 3 (.int k n) = intR .i64 n := by kernel_rfl
theorem conv_2_30 (k : IntKind) (n : Int) : convV E 2 30 (.int k n) = intR .i64 n := by kernel_rfl
theorem conv_2_33 (k : IntKind) (n : Int) : convV E 2 33 (.int k n) = intR .u64 n := by kernel_rfl
theorem conv_2_38 (k : IntKind) (n : Int) : convV E 2 38 (.int k n) = intR .u64 n := by kernel_rfl
theorem conv_3_2 (k : IntKind) (n : Int) : convV E 3 2 (.int k n) = intR .i64 n := by kernel_rfl
theorem conv_3_3 (k : IntKind) (n : Int) : convV E 3 3 (.int k n) = intR .i64 n := by kernel_rfl
theorem conv_3_30 (k : IntKind) (n : Int) : convV E 3 30 (.int k n) = intR .i64 n := by kernel_rfl
theorem conv_3_33 (k : IntKind) (n : Int) : convV E 3 33 (.int k n) = intR .u64 n := by kernel_rfl
theorem conv_3_38 (k : IntKind) (n : Int) : convV E 3 38 (.int k n) = intR .u64 n := by kernel_rfl
theorem conv_30_2 (k : IntKind) (n : Int) : convV E 30 2 (.int k n) = intR .i64 n := by kernel_rfl
theorem conv_30_3 (k : IntKind) (n : Int) : convV E 30 3 (.int k n) = intR .i64 n := by kernel_rfl
theorem conv_30_30 (k : IntKind) (n : Int) : convV E 30 30 (.int k n) = intR .i64 n := by kernel_rfl
theorem conv_30_33 (k : IntKind) (n : Int) : convV E 30 33 (.int k n) = intR .u64 n := by kernel_rfl
theorem conv_30_38 (k : IntKind) (n : Int) : convV E 30 38 (.int k n) = intR .u64 n := by kernel_rfl
theorem conv_33_2 (k : IntKind) (n : Int) : convV E 33 2 (.int k n) = intR .i64 n := by kernel_rfl
theorem conv_33_3 (k : IntKind) (n : Int) : convV E 33 3 (.int k n) = intR .i64 n := by kernel_rfl
theorem conv_33_30 (k : IntKind) (n : Int) : convV E 33 30 (.int k n) = intR .i64 n := by kernel_rfl
theorem conv_33_33 (k : IntKind) (n : Int) : convV E 33 33 (.int k n) = intR .u64 n := by kernel_rfl
theorem conv_33_38 (k : IntKind) (n : Int) : convV E 33 38 (.int k n) = intR .u64 n := by kernel_rfl
theorem conv_38_2 (k : IntKind) (n : Int) : convV E 38 2 (.int k n) = intR .i64 n := by kernel_rfl
theorem conv_38_3 (k : IntKind) (n : Int) : convV E 38 3 (.int k n) = intR .i64 n := by kernel_rfl
theorem conv_38_30 (k : IntKind) (n : Int) : convV E 38 30 (.int k n) = intR .i64 n := by kernel_rfl
theorem conv_38_33 (k : IntKind) (n : Int) : convV E 38 33 (.int k n) = intR .u64 n := by kernel_rfl
theorem conv_38_38 (k : IntKind) (n : Int) : convV E 38 38 (.int k n) = intR .u64 n := by kernel_rfl
set_option linter.defProp false
def st := (And.intro (And.intro (And.intro (And.intro (And.intro (And.intro (And.intro (And.intro @agg_2 @size_2) (And.intro @part_2 (And.intro @zero_2 @eq_2))) (And.intro (And.intro @agg_3 (And.intro @size_3 @part_3)) (And.intro @zero_3 (And.intro @eq_3 @agg_4)))) (And.intro (And.intro (And.intro @size_4 (And.intro @part_4 @zero_4)) (And.intro @eq_4 (And.intro @agg_24 @size_24))) (And.intro (And.intro @part_24 (And.intro @zero_24 @fa_24_0)) (And.intro @fv_24_0 (And.intro @fa_24_1 @fv_24_1))))) (And.intro (And.intro (And.intro (And.intro @fa_24_2 (And.intro @fv_24_2 @fa_24_3)) (And.intro @fv_24_3 (And.intro @lit_24 @eq_24))) (And.intro (And.intro @agg_25 (And.intro @size_25 @part_25)) (And.intro @zero_25 (And.intro @ia_25 @sc_25)))) (And.intro (And.intro (And.intro @len_25 (And.intro @app_25 @appT_25)) (And.intro @bs_25 (And.intro @eqnil_25 @agg_26))) (And.intro (And.intro @size_26 (And.intro @part_26 @zero_26)) (And.intro @ia_26 (And.intro @sc_26 @len_26)))))) (And.intro (And.intro (And.intro (And.intro (And.intro @app_26 (And.intro @appT_26 @bs_26)) (And.intro @eqnil_26 (And.intro @agg_27 @size_27))) (And.intro (And.intro @part_27 (And.intro @zero_27 @ia_27)) (And.intro @sc_27 (And.intro @len_27 @app_27)))) (And.intro (And.intro (And.intro @appT_27 (And.intro @bs_27 @eqnil_27)) (And.intro @agg_29 (And.intro @size_29 @part_29))) (And.intro (And.intro @zero_29 (And.intro @fa_29_0 @fv_29_0)) (And.intro @fa_29_1 (And.intro @fv_29_1 @fa_29_2))))) (And.intro (And.intro (And.intro (And.intro @fv_29_2 (And.intro @fa_29_3 @fv_29_3)) (And.intro @fa_29_4 (And.intro @fv_29_4 @fa_29_5))) (And.intro (And.intro @fv_29_5 (And.intro @fa_29_6 @fv_29_6)) (And.intro @lit_29 (And.intro @eq_29 @agg_30)))) (And.intro (And.intro (And.intro @size_30 (And.intro @part_30 @zero_30)) (And.intro @eq_30 (And.intro @agg_33 @size_33))) (And.intro (And.intro @part_33 (And.intro @zero_33 @eq_33)) (And.intro @agg_37 (And.intro @size_37 @part_37))))))) (And.intro (And.intro (And.intro (And.intro (And.intro (And.intro @zero_37 (And.intro @fa_37_0 @fv_37_0)) (And.intro @fa_37_1 (And.intro @fv_37_1 @fa_37_2))) (And.intro (And.intro @fv_37_2 (And.intro @fa_37_3 @fv_37_3)) (And.intro @fa_37_4 (And.intro @fv_37_4 @lit_37)))) (And.intro (And.intro (And.intro @eq_37 (And.intro @agg_38 @size_38)) (And.intro @part_38 (And.intro @zero_38 @eq_38))) (And.intro (And.intro @agg_40 (And.intro @size_40 @part_40)) (And.intro @zero_40 (And.intro @fa_40_0 @fv_40_0))))) (And.intro (And.intro (And.intro (And.intro @fa_40_1 (And.intro @fv_40_1 @fa_40_2)) (And.intro @fv_40_2 (And.intro @lit_40 @eq_40))) (And.intro (And.intro @agg_41 (And.intro @size_41 @part_41)) (And.intro @zero_41 (And.intro @eqpn_41 @eqnn_41)))) (And.intro (And.intro (And.intro @agg_42 (And.intro @size_42 @part_42)) (And.intro @zero_42 (And.intro @eqpn_42 @eqnn_42))) (And.intro (And.intro @agg_43 (And.intro @size_43 @part_43)) (And.intro @zero_43 (And.intro @eqpn_43 @eqnn_43)))))) (And.intro (And.intro (And.intro (And.intro (And.intro @agg_55 (And.intro @size_55 @part_55)) (And.intro @zero_55 (And.intro @fa_55_0 @fv_55_0))) (And.intro (And.intro @fa_55_1 (And.intro @fv_55_1 @lit_55)) (And.intro @eq_55 (And.intro @agg_59 @size_59)))) (And.intro (And.intro (And.intro @part_59 (And.intro @zero_59 @ia_59)) (And.intro @ix_59 (And.intro @lit_59 @agg_62))) (And.intro (And.intro @size_62 (And.intro @part_62 @zero_62)) (And.intro @fa_62_0 (And.intro @fv_62_0 @fa_62_1))))) (And.intro (And.intro (And.intro (And.intro @fv_62_1 (And.intro @fa_62_2 @fv_62_2)) (And.intro @lit_62 (And.intro @eq_62 @agg_63))) (And.intro (And.intro @size_63 (And.intro @part_63 @zero_63)) (And.intro @ia_63 (And.intro @ix_63 @lit_63)))) (And.intro (And.intro (And.intro @agg_82 (And.intro @size_82 @part_82)) (And.intro @zero_82 (And.intro @fa_82_0 @fv_82_0))) (And.intro (And.intro @fa_82_1 (And.intro @fv_82_1 @lit_82)) (And.intro @eq_82 (And.intro @agg_83 @size_83)))))))) (And.intro (And.intro (And.intro (And.intro (And.intro (And.intro (And.intro @part_83 @zero_83) (And.intro @eqpn_83 (And.intro @eqnn_83 @agg_85))) (And.intro (And.intro @size_85 (And.intro @part_85 @zero_85)) (And.intro @fa_85_0 (And.intro @fv_85_0 @fa_85_1)))) (And.intro (And.intro (And.intro @fv_85_1 (And.intro @fa_85_2 @fv_85_2)) (And.intro @fa_85_3 (And.intro @fv_85_3 @fa_85_4))) (And.intro (And.intro @fv_85_4 (And.intro @lit_85 @eq_85)) (And.intro @agg_87 (And.intro @size_87 @part_87))))) (And.intro (And.intro (And.intro (And.intro @zero_87 (And.intro @fa_87_0 @fv_87_0)) (And.intro @fa_87_1 (And.intro @fv_87_1 @fa_87_2))) (And.intro (And.intro @fv_87_2 (And.intro @fa_87_3 @fv_87_3)) (And.intro @fa_87_4 (And.intro @fv_87_4 @fa_87_5)))) (And.intro (And.intro (And.intro @fv_87_5 (And.intro @fa_87_6 @fv_87_6)) (And.intro @fa_87_7 (And.intro @fv_87_7 @lit_87))) (And.intro (And.intro @eq_87 (And.intro @agg_91 @size_91)) (And.intro @part_91 (And.intro @zero_91 @ia_91)))))) (And.intro (And.intro (And.intro (And.intro (And.intro @ix_91 (And.intro @lit_91 @agg_102)) (And.intro @size_102 (And.intro @part_102 @zero_102))) (And.intro (And.intro @fa_102_0 (And.intro @fv_102_0 @fa_102_1)) (And.intro @fv_102_1 (And.intro @fa_102_2 @fv_102_2)))) (And.intro (And.intro (And.intro @fa_102_3 (And.intro @fv_102_3 @fa_102_4)) (And.intro @fv_102_4 (And.intro @lit_102 @eq_102))) (And.intro (And.intro @agg_114 (And.intro @size_114 @part_114)) (And.intro @zero_114 (And.intro @fa_114_0 @fv_114_0))))) (And.intro (And.intro (And.intro (And.intro @fa_114_1 (And.intro @fv_114_1 @fa_114_2)) (And.intro @fv_114_2 (And.intro @lit_114 @eq_114))) (And.intro (And.intro @agg_115 (And.intro @size_115 @part_115)) (And.intro @zero_115 (And.intro @ia_115 @sc_115)))) (And.intro (And.intro (And.intro @len_115 (And.intro @app_115 @appT_115)) (And.intro @bs_115 (And.intro @eqnil_115 @agg_116))) (And.intro (And.intro @size_116 (And.intro @part_116 @zero_116)) (And.intro @agg_118 (And.intro @size_118 @part_118))))))) (And.intro (And.intro (And.intro (And.intro (And.intro (And.intro @zero_118 (And.intro @fa_118_0 @fv_118_0)) (And.intro @fa_118_1 (And.intro @fv_118_1 @fa_118_2))) (And.intro (And.intro @fv_118_2 (And.intro @fa_118_3 @fv_118_3)) (And.intro @lit_118 (And.intro @eq_118 @agg_119)))) (And.intro (And.intro (And.intro @size_119 (And.intro @part_119 @zero_119)) (And.intro @ia_119 (And.intro @sc_119 @len_119))) (And.intro (And.intro @app_119 (And.intro @appT_119 @bs_119)) (And.intro @eqnil_119 (And.intro @agg_122 @size_122))))) (And.intro (And.intro (And.intro (And.intro @part_122 (And.intro @zero_122 @agg_123)) (And.intro @size_123 (And.intro @part_123 @zero_123))) (And.intro (And.intro @ia_123 (And.intro @ix_123 @lit_123)) (And.intro @agg_135 (And.intro @size_135 @part_135)))) (And.intro (And.intro (And.intro @zero_135 (And.intro @fa_135_0 @fv_135_0)) (And.intro @fa_135_1 (And.intro @fv_135_1 @lit_135))) (And.intro (And.intro @eq_135 (And.intro @agg_140 @size_140)) (And.intro @part_140 (And.intro @zero_140 @fa_140_0)))))) (And.intro (And.intro (And.intro (And.intro (And.intro @fv_140_0 (And.intro @fa_140_1 @fv_140_1)) (And.intro @fa_140_2 (And.intro @fv_140_2 @fa_140_3))) (And.intro (And.intro @fv_140_3 (And.intro @lit_140 @eq_140)) (And.intro @agg_172 (And.intro @size_172 @part_172)))) (And.intro (And.intro (And.intro @zero_172 (And.intro @fa_172_0 @fv_172_0)) (And.intro @fa_172_1 (And.intro @fv_172_1 @fa_172_2))) (And.intro (And.intro @fv_172_2 (And.intro @fa_172_3 @fv_172_3)) (And.intro @lit_172 (And.intro @eq_172 @conv_2_2))))) (And.intro (And.intro (And.intro (And.intro @conv_2_3 (And.intro @conv_2_30 @conv_2_33)) (And.intro @conv_2_38 (And.intro @conv_3_2 @conv_3_3))) (And.intro (And.intro @conv_3_30 (And.intro @conv_3_33 @conv_3_38)) (And.intro @conv_30_2 (And.intro @conv_30_3 @conv_30_30)))) (And.intro (And.intro (And.intro @conv_30_33 (And.intro @conv_30_38 @conv_33_2)) (And.intro @conv_33_3 (And.intro @conv_33_30 @conv_33_33))) (And.intro (And.intro @conv_33_38 (And.intro @conv_38_2 @conv_38_3)) (And.intro @conv_38_30 (And.intro @conv_38_33 @conv_38_38)))))))))
end Go.AM
