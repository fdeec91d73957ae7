/-
  What operations come to at each type (letters allowed). Printed by a program of mine (Facts).
-/
import Derived.Test.YtcickfcjdmolcaaAMc
import Derived.Test.YtcickfcjdmolcaaChecked
import Derived.KernelRfl
namespace Go.AM
attribute [local instance] fnMaps
open Go Go.Proofs
set_option maxRecDepth 100000
@[irreducible] noncomputable def tyT : Trie TI := @Env.ty trieMaps (@Env.of trieMaps Try.prog)
noncomputable def E : Env := ⟨Try.prog, fun k => Trie.get tyT k, fun k => Try.prog.funcs[k]?, orcOf [(5, .bool true)]⟩
theorem agg_2 : aggOf E 2 = some none := by kernel_rfl
theorem size_2 : E.size 2 = some 1 := by kernel_rfl
theorem part_2 (cs : List Value) (o : Nat) : partV E 2 cs o = cs[o]? := by kernel_rfl
theorem zero_2 : zeroOf E 2 = some (.int .i64 0) := by kernel_rfl
theorem eq_2 (d : Nat) (a b : Int) : eqV E (d + 1) 2 (.int .i64 a) (.int .i64 b) = some (eqI a b) := by kernel_rfl
theorem agg_3 : aggOf E 3 = some none := by kernel_rfl
theorem size_3 : E.size 3 = some 1 := by kernel_rfl
theorem part_3 (cs : List Value) (o : Nat) : partV E 3 cs o = cs[o]? := by kernel_rfl
theorem zero_3 : zeroOf E 3 = some (.int .i64 0) := by kernel_rfl
theorem eq_3 (d : Nat) (a b : Int) : eqV E (d + 1) 3 (.int .i64 a) (.int .i64 b) = some (eqI a b) := by kernel_rfl
theorem agg_4 : aggOf E 4 = some none := by kernel_rfl
theorem size_4 : E.size 4 = some 1 := by kernel_rfl
theorem part_4 (cs : List Value) (o : Nat) : partV E 4 cs o = cs[o]? := by kernel_rfl
theorem zero_4 : zeroOf E 4 = some (.bool false) := by kernel_rfl
theorem eq_4 (d : Nat) (a b : Bool) : eqV E (d + 1) 4 (.bool a) (.bool b) = some (a == b) := by kernel_rfl
theorem agg_5 : aggOf E 5 = some none := by kernel_rfl
theorem size_5 : E.size 5 = some 1 := by kernel_rfl
theorem part_5 (cs : List Value) (o : Nat) : partV E 5 cs o = cs[o]? := by kernel_rfl
theorem zero_5 : zeroOf E 5 = some (.int .u8 0) := by kernel_rfl
theorem eq_5 (d : Nat) (a b : Int) : eqV E (d + 1) 5 (.int .u8 a) (.int .u8 b) = some (eqI a b) := by kernel_rfl
theorem agg_9 : aggOf E 9 = some none := by kernel_rfl
theorem size_9 : E.size 9 = some 1 := by kernel_rfl
theorem part_9 (cs : List Value) (o : Nat) : partV E 9 cs o = cs[o]? := by kernel_rfl
theorem zero_9 : zeroOf E 9 = some (.string ⟨#[]⟩) := by kernel_rfl
theorem eq_9 (d : Nat) (a b : ByteArray) : eqV E (d + 1) 9 (.string a) (.string b) = some (eqBytes a b) := by kernel_rfl
theorem len_9 (H : Heap) (s : ByteArray) : builtinV E H .len [9] [.string s] = some (.int .i64 s.size, H) := by kernel_rfl
theorem agg_12 : aggOf E 12 = some none := by kernel_rfl
theorem size_12 : E.size 12 = some 1 := by kernel_rfl
theorem part_12 (cs : List Value) (o : Nat) : partV E 12 cs o = cs[o]? := by kernel_rfl
theorem zero_12 : zeroOf E 12 = some (.int .u64 0) := by kernel_rfl
theorem eq_12 (d : Nat) (a b : Int) : eqV E (d + 1) 12 (.int .u64 a) (.int .u64 b) = some (eqI a b) := by kernel_rfl
theorem agg_20 : aggOf E 20 = some none := by kernel_rfl
theorem size_20 : E.size 20 = some 1 := by kernel_rfl
theorem part_20 (cs : List Value) (o : Nat) : partV E 20 cs o = cs[o]? := by kernel_rfl
theorem zero_20 : zeroOf E 20 = some .nilIface := by kernel_rfl
theorem agg_21 : aggOf E 21 = some none := by kernel_rfl
theorem size_21 : E.size 21 = some 1 := by kernel_rfl
theorem part_21 (cs : List Value) (o : Nat) : partV E 21 cs o = cs[o]? := by kernel_rfl
theorem zero_21 : zeroOf E 21 = some (.int .i32 0) := by kernel_rfl
theorem eq_21 (d : Nat) (a b : Int) : eqV E (d + 1) 21 (.int .i32 a) (.int .i32 b) = some (eqI a b) := by kernel_rfl
theorem agg_24 : aggOf E 24 = some none := by kernel_rfl
theorem size_24 : E.size 24 = some 1 := by kernel_rfl
theorem part_24 (cs : List Value) (o : Nat) : partV E 24 cs o = cs[o]? := by kernel_rfl
theorem zero_24 : zeroOf E 24 = some (.slice none 0 0) := by kernel_rfl
theorem ia_24 (r o n c : Nat) (k : IntKind) (i : Int) : indexAddrV E 24 (.slice (some ⟨r, o, none⟩) n c) (.int k i) = (at? i n).bind fun i => some (ptr r (o + i * 3)) := by kernel_rfl
theorem len_24 (H : Heap) (a : Option Addr) (n c : Nat) : builtinV E H .len [24] [.slice a n c] = some (.int .i64 n, H) := by kernel_rfl
theorem app_24 (H : Heap) (s : Value) (a : Option Addr) (n c : Nat) : builtinV E H .append [24, 24] [s, .slice a n c] = (cellsOf H (n * 3) (.slice a n c)).bind fun l => appendV E H 46 s n l := by kernel_rfl
theorem appT_24 (H : Heap) (s : Value) (k : Nat) (new : List Value) : appendV E H 46 s k new = appendT 3 56 H s k new := by kernel_rfl
theorem bs_24 (T : Tr Value) (H : Heap) (len : Nat) (ps : List (Nat × Operand)) : buildSliceV E T H 24 len ps = bif (!Nat.ble (len * 3) 10000000 || false) then none else (evParts T (fun k => some (k * 3, 3)) ps).bind fun ps => (fillV (repeatCells [(.int .i64 0), (.slice none 0 0), (.slice none 0 0)] len) ps).bind fun l => some (.slice (some ⟨H.next, 0, none⟩) len len, H.newRow l) := by kernel_rfl
theorem eqnil_24 (d : Nat) (a : Option Addr) (n c n' c' : Nat) : eqV E (d + 1) 24 (.slice none n c) (.slice a n' c') = some a.isNone := by kernel_rfl
theorem agg_25 : aggOf E 25 = some none := by kernel_rfl
theorem size_25 : E.size 25 = some 1 := by kernel_rfl
theorem part_25 (cs : List Value) (o : Nat) : partV E 25 cs o = cs[o]? := by kernel_rfl
theorem zero_25 : zeroOf E 25 = some (.slice none 0 0) := by kernel_rfl
theorem ia_25 (r o n c : Nat) (k : IntKind) (i : Int) : indexAddrV E 25 (.slice (some ⟨r, o, none⟩) n c) (.int k i) = (at? i n).bind fun i => some (ptr r (o + i * 2)) := by kernel_rfl
theorem len_25 (H : Heap) (a : Option Addr) (n c : Nat) : builtinV E H .len [25] [.slice a n c] = some (.int .i64 n, H) := by kernel_rfl
theorem app_25 (H : Heap) (s : Value) (a : Option Addr) (n c : Nat) : builtinV E H .append [25, 25] [s, .slice a n c] = (cellsOf H (n * 2) (.slice a n c)).bind fun l => appendV E H 34 s n l := by kernel_rfl
theorem appT_25 (H : Heap) (s : Value) (k : Nat) (new : List Value) : appendV E H 34 s k new = appendT 2 16 H s k new := by kernel_rfl
theorem bs_25 (T : Tr Value) (H : Heap) (len : Nat) (ps : List (Nat × Operand)) : buildSliceV E T H 25 len ps = bif (!Nat.ble (len * 2) 10000000 || false) then none else (evParts T (fun k => some (k * 2, 2)) ps).bind fun ps => (fillV (repeatCells [(.int .i64 0), (.int .i64 0)] len) ps).bind fun l => some (.slice (some ⟨H.next, 0, none⟩) len len, H.newRow l) := by kernel_rfl
theorem eqnil_25 (d : Nat) (a : Option Addr) (n c n' c' : Nat) : eqV E (d + 1) 25 (.slice none n c) (.slice a n' c') = some a.isNone := by kernel_rfl
theorem agg_27 : aggOf E 27 = some (some 2) := by kernel_rfl
theorem size_27 : E.size 27 = some 2 := by kernel_rfl
theorem part_27 (cs : List Value) (o : Nat) : partV E 27 cs o = (cut cs o 2).bind fun l => some (.agg l.toArray) := by kernel_rfl
theorem zero_27 : zeroOf E 27 = some (.agg #[(.slice none 0 0), (.slice none 0 0)]) := by kernel_rfl
theorem fa_27_0 (r o : Nat) : fieldAddrV E 27 (ptr r o) 0 = some (ptr r (o + 0)) := by kernel_rfl
theorem fv_27_0 (cs : Array Value) : fieldV E 27 (.agg cs) 0 = partV E 24 cs.toList 0 := by kernel_rfl
theorem fa_27_1 (r o : Nat) : fieldAddrV E 27 (ptr r o) 1 = some (ptr r (o + 1)) := by kernel_rfl
theorem fv_27_1 (cs : Array Value) : fieldV E 27 (.agg cs) 1 = partV E 25 cs.toList 1 := by kernel_rfl
theorem lit_27 (T : Tr Value) (ps : List (Nat × Operand)) : structLit E T 27 ps = (evParts T (fun k => [(0, 1), (1, 1)][k]?) ps).bind fun ps => (fillV [(.slice none 0 0), (.slice none 0 0)] ps).bind fun l => some (.agg l.toArray) := by kernel_rfl
theorem eq_27 (d : Nat) (xs ys : Array Value) : eqV E (d + 1) 27 (.agg xs) (.agg ys) = eqFields E (eqV E d) xs.toList ys.toList [(0, 24), (1, 25)] := by kernel_rfl
theorem agg_34 : aggOf E 34 = some (some 2) := by kernel_rfl
theorem size_34 : E.size 34 = some 2 := by kernel_rfl
theorem part_34 (cs : List Value) (o : Nat) : partV E 34 cs o = (cut cs o 2).bind fun l => some (.agg l.toArray) := by kernel_rfl
theorem zero_34 : zeroOf E 34 = some (.agg #[(.int .i64 0), (.int .i64 0)]) := by kernel_rfl
theorem fa_34_0 (r o : Nat) : fieldAddrV E 34 (ptr r o) 0 = some (ptr r (o + 0)) := by kernel_rfl
theorem fv_34_0 (cs : Array Value) : fieldV E 34 (.agg cs) 0 = partV E 3 cs.toList 0 := by kernel_rfl
theorem fa_34_1 (r o : Nat) : fieldAddrV E 34 (ptr r o) 1 = some (ptr r (o + 1)) := by kernel_rfl
theorem fv_34_1 (cs : Array Value) : fieldV E 34 (.agg cs) 1 = partV E 2 cs.toList 1 := by kernel_rfl
theorem lit_34 (T : Tr Value) (ps : List (Nat × Operand)) : structLit E T 34 ps = (evParts T (fun k => [(0, 1), (1, 1)][k]?) ps).bind fun ps => (fillV [(.int .i64 0), (.int .i64 0)] ps).bind fun l => some (.agg l.toArray) := by kernel_rfl
theorem eq_34 (d : Nat) (xs ys : Array Value) : eqV E (d + 1) 34 (.agg xs) (.agg ys) = eqFields E (eqV E d) xs.toList ys.toList [(0, 3), (1, 2)] := by kernel_rfl
theorem agg_35 : aggOf E 35 = some none := by kernel_rfl
theorem size_35 : E.size 35 = some 1 := by kernel_rfl
theorem part_35 (cs : List Value) (o : Nat) : partV E 35 cs o = cs[o]? := by kernel_rfl
theorem zero_35 : zeroOf E 35 = some (.slice none 0 0) := by kernel_rfl
theorem ia_35 (r o n c : Nat) (k : IntKind) (i : Int) : indexAddrV E 35 (.slice (some ⟨r, o, none⟩) n c) (.int k i) = (at? i n).bind fun i => some (ptr r (o + i * 11)) := by kernel_rfl
theorem len_35 (H : Heap) (a : Option Addr) (n c : Nat) : builtinV E H .len [35] [.slice a n c] = some (.int .i64 n, H) := by kernel_rfl
theorem app_35 (H : Heap) (s : Value) (a : Option Addr) (n c : Nat) : builtinV E H .append [35, 35] [s, .slice a n c] = (cellsOf H (n * 11) (.slice a n c)).bind fun l => appendV E H 42 s n l := by kernel_rfl
theorem appT_35 (H : Heap) (s : Value) (k : Nat) (new : List Value) : appendV E H 42 s k new = appendT 11 88 H s k new := by kernel_rfl
theorem bs_35 (T : Tr Value) (H : Heap) (len : Nat) (ps : List (Nat × Operand)) : buildSliceV E T H 35 len ps = bif (!Nat.ble (len * 11) 10000000 || false) then none else (evParts T (fun k => some (k * 11, 11)) ps).bind fun ps => (fillV (repeatCells [(.int .i64 0), (.int .i64 0), (.int .i64 0), (.int .i64 0), (.int .i64 0), (.int .i64 0), (.int .u64 0), (.int .i64 0), (.int .i64 0), (.int .i64 0), (.int .u8 0)] len) ps).bind fun l => some (.slice (some ⟨H.next, 0, none⟩) len len, H.newRow l) := by kernel_rfl
theorem eqnil_35 (d : Nat) (a : Option Addr) (n c n' c' : Nat) : eqV E (d + 1) 35 (.slice none n c) (.slice a n' c') = some a.isNone := by kernel_rfl
theorem agg_36 : aggOf E 36 = some none := by kernel_rfl
theorem size_36 : E.size 36 = some 1 := by kernel_rfl
theorem part_36 (cs : List Value) (o : Nat) : partV E 36 cs o = cs[o]? := by kernel_rfl
theorem zero_36 : zeroOf E 36 = some (.int .i64 0) := by kernel_rfl
theorem eq_36 (d : Nat) (a b : Int) : eqV E (d + 1) 36 (.int .i64 a) (.int .i64 b) = some (eqI a b) := by kernel_rfl
theorem agg_40 : aggOf E 40 = some none := by kernel_rfl
theorem size_40 : E.size 40 = some 1 := by kernel_rfl
theorem part_40 (cs : List Value) (o : Nat) : partV E 40 cs o = cs[o]? := by kernel_rfl
theorem zero_40 : zeroOf E 40 = some (.int .u64 0) := by kernel_rfl
theorem eq_40 (d : Nat) (a b : Int) : eqV E (d + 1) 40 (.int .u64 a) (.int .u64 b) = some (eqI a b) := by kernel_rfl
theorem agg_42 : aggOf E 42 = some (some 11) := by kernel_rfl
theorem size_42 : E.size 42 = some 11 := by kernel_rfl
theorem part_42 (cs : List Value) (o : Nat) : partV E 42 cs o = (cut cs o 11).bind fun l => some (.agg l.toArray) := by kernel_rfl
theorem zero_42 : zeroOf E 42 = some (.agg #[(.int .i64 0), (.int .i64 0), (.int .i64 0), (.int .i64 0), (.int .i64 0), (.int .i64 0), (.int .u64 0), (.int .i64 0), (.int .i64 0), (.int .i64 0), (.int .u8 0)]) := by kernel_rfl
theorem fa_42_0 (r o : Nat) : fieldAddrV E 42 (ptr r o) 0 = some (ptr r (o + 0)) := by kernel_rfl
theorem fv_42_0 (cs : Array Value) : fieldV E 42 (.agg cs) 0 = partV E 3 cs.toList 0 := by kernel_rfl
theorem fa_42_1 (r o : Nat) : fieldAddrV E 42 (ptr r o) 1 = some (ptr r (o + 1)) := by kernel_rfl
theorem fv_42_1 (cs : Array Value) : fieldV E 42 (.agg cs) 1 = partV E 3 cs.toList 1 := by kernel_rfl
theorem fa_42_2 (r o : Nat) : fieldAddrV E 42 (ptr r o) 2 = some (ptr r (o + 2)) := by kernel_rfl
theorem fv_42_2 (cs : Array Value) : fieldV E 42 (.agg cs) 2 = partV E 3 cs.toList 2 := by kernel_rfl
theorem fa_42_3 (r o : Nat) : fieldAddrV E 42 (ptr r o) 3 = some (ptr r (o + 3)) := by kernel_rfl
theorem fv_42_3 (cs : Array Value) : fieldV E 42 (.agg cs) 3 = partV E 3 cs.toList 3 := by kernel_rfl
theorem fa_42_4 (r o : Nat) : fieldAddrV E 42 (ptr r o) 4 = some (ptr r (o + 4)) := by kernel_rfl
theorem fv_42_4 (cs : Array Value) : fieldV E 42 (.agg cs) 4 = partV E 34 cs.toList 4 := by kernel_rfl
theorem fa_42_5 (r o : Nat) : fieldAddrV E 42 (ptr r o) 5 = some (ptr r (o + 6)) := by kernel_rfl
theorem fv_42_5 (cs : Array Value) : fieldV E 42 (.agg cs) 5 = partV E 40 cs.toList 6 := by kernel_rfl
theorem fa_42_6 (r o : Nat) : fieldAddrV E 42 (ptr r o) 6 = some (ptr r (o + 7)) := by kernel_rfl
theorem fv_42_6 (cs : Array Value) : fieldV E 42 (.agg cs) 6 = partV E 3 cs.toList 7 := by kernel_rfl
theorem fa_42_7 (r o : Nat) : fieldAddrV E 42 (ptr r o) 7 = some (ptr r (o + 8)) := by kernel_rfl
theorem fv_42_7 (cs : Array Value) : fieldV E 42 (.agg cs) 7 = partV E 3 cs.toList 8 := by kernel_rfl
theorem fa_42_8 (r o : Nat) : fieldAddrV E 42 (ptr r o) 8 = some (ptr r (o + 9)) := by kernel_rfl
theorem fv_42_8 (cs : Array Value) : fieldV E 42 (.agg cs) 8 = partV E 3 cs.toList 9 := by kernel_rfl
theorem fa_42_9 (r o : Nat) : fieldAddrV E 42 (ptr r o) 9 = some (ptr r (o + 10)) := by kernel_rfl
theorem fv_42_9 (cs : Array Value) : fieldV E 42 (.agg cs) 9 = partV E 5 cs.toList 10 := by kernel_rfl
theorem lit_42 (T : Tr Value) (ps : List (Nat × Operand)) : structLit E T 42 ps = (evParts T (fun k => [(0, 1), (1, 1), (2, 1), (3, 1), (4, 2), (6, 1), (7, 1), (8, 1), (9, 1), (10, 1)][k]?) ps).bind fun ps => (fillV [(.int .i64 0), (.int .i64 0), (.int .i64 0), (.int .i64 0), (.int .i64 0), (.int .i64 0), (.int .u64 0), (.int .i64 0), (.int .i64 0), (.int .i64 0), (.int .u8 0)] ps).bind fun l => some (.agg l.toArray) := by kernel_rfl
theorem eq_42 (d : Nat) (xs ys : Array Value) : eqV E (d + 1) 42 (.agg xs) (.agg ys) = eqFields E (eqV E d) xs.toList ys.toList [(0, 3), (1, 3), (2, 3), (3, 3), (4, 34), (6, 40), (7, 3), (8, 3), (9, 3), (10, 5)] := by kernel_rfl
theorem agg_44 : aggOf E 44 = some none := by kernel_rfl
theorem size_44 : E.size 44 = some 1 := by kernel_rfl
theorem part_44 (cs : List Value) (o : Nat) : partV E 44 cs o = cs[o]? := by kernel_rfl
theorem zero_44 : zeroOf E 44 = some (.slice none 0 0) := by kernel_rfl
theorem ia_44 (r o n c : Nat) (k : IntKind) (i : Int) : indexAddrV E 44 (.slice (some ⟨r, o, none⟩) n c) (.int k i) = (at? i n).bind fun i => some (ptr r (o + i * 1)) := by kernel_rfl
theorem len_44 (H : Heap) (a : Option Addr) (n c : Nat) : builtinV E H .len [44] [.slice a n c] = some (.int .i64 n, H) := by kernel_rfl
theorem app_44 (H : Heap) (s : Value) (a : Option Addr) (n c : Nat) : builtinV E H .append [44, 44] [s, .slice a n c] = (cellsOf H (n * 1) (.slice a n c)).bind fun l => appendV E H 40 s n l := by kernel_rfl
theorem appT_44 (H : Heap) (s : Value) (k : Nat) (new : List Value) : appendV E H 40 s k new = appendT 1 8 H s k new := by kernel_rfl
theorem bs_44 (T : Tr Value) (H : Heap) (len : Nat) (ps : List (Nat × Operand)) : buildSliceV E T H 44 len ps = bif (!Nat.ble (len * 1) 10000000 || false) then none else (evParts T (fun k => some (k * 1, 1)) ps).bind fun ps => (fillV (repeatCells [(.int .u64 0)] len) ps).bind fun l => some (.slice (some ⟨H.next, 0, none⟩) len len, H.newRow l) := by kernel_rfl
theorem eqnil_44 (d : Nat) (a : Option Addr) (n c n' c' : Nat) : eqV E (d + 1) 44 (.slice none n c) (.slice a n' c') = some a.isNone := by kernel_rfl
theorem agg_46 : aggOf E 46 = some (some 3) := by kernel_rfl
theorem size_46 : E.size 46 = some 3 := by kernel_rfl
theorem part_46 (cs : List Value) (o : Nat) : partV E 46 cs o = (cut cs o 3).bind fun l => some (.agg l.toArray) := by kernel_rfl
theorem zero_46 : zeroOf E 46 = some (.agg #[(.int .i64 0), (.slice none 0 0), (.slice none 0 0)]) := by kernel_rfl
theorem fa_46_0 (r o : Nat) : fieldAddrV E 46 (ptr r o) 0 = some (ptr r (o + 0)) := by kernel_rfl
theorem fv_46_0 (cs : Array Value) : fieldV E 46 (.agg cs) 0 = partV E 3 cs.toList 0 := by kernel_rfl
theorem fa_46_1 (r o : Nat) : fieldAddrV E 46 (ptr r o) 1 = some (ptr r (o + 1)) := by kernel_rfl
theorem fv_46_1 (cs : Array Value) : fieldV E 46 (.agg cs) 1 = partV E 25 cs.toList 1 := by kernel_rfl
theorem fa_46_2 (r o : Nat) : fieldAddrV E 46 (ptr r o) 2 = some (ptr r (o + 2)) := by kernel_rfl
theorem fv_46_2 (cs : Array Value) : fieldV E 46 (.agg cs) 2 = partV E 44 cs.toList 2 := by kernel_rfl
theorem lit_46 (T : Tr Value) (ps : List (Nat × Operand)) : structLit E T 46 ps = (evParts T (fun k => [(0, 1), (1, 1), (2, 1)][k]?) ps).bind fun ps => (fillV [(.int .i64 0), (.slice none 0 0), (.slice none 0 0)] ps).bind fun l => some (.agg l.toArray) := by kernel_rfl
theorem eq_46 (d : Nat) (xs ys : Array Value) : eqV E (d + 1) 46 (.agg xs) (.agg ys) = eqFields E (eqV E d) xs.toList ys.toList [(0, 3), (1, 25), (2, 44)] := by kernel_rfl
theorem agg_51 : aggOf E 51 = some none := by kernel_rfl
theorem size_51 : E.size 51 = some 1 := by kernel_rfl
theorem part_51 (cs : List Value) (o : Nat) : partV E 51 cs o = cs[o]? := by kernel_rfl
theorem zero_51 : zeroOf E 51 = some (.slice none 0 0) := by kernel_rfl
theorem ia_51 (r o n c : Nat) (k : IntKind) (i : Int) : indexAddrV E 51 (.slice (some ⟨r, o, none⟩) n c) (.int k i) = (at? i n).bind fun i => some (ptr r (o + i * 1)) := by kernel_rfl
theorem len_51 (H : Heap) (a : Option Addr) (n c : Nat) : builtinV E H .len [51] [.slice a n c] = some (.int .i64 n, H) := by kernel_rfl
theorem app_51 (H : Heap) (s : Value) (a : Option Addr) (n c : Nat) : builtinV E H .append [51, 51] [s, .slice a n c] = (cellsOf H (n * 1) (.slice a n c)).bind fun l => appendV E H 3 s n l := by kernel_rfl
theorem appT_51 (H : Heap) (s : Value) (k : Nat) (new : List Value) : appendV E H 3 s k new = appendT 1 8 H s k new := by kernel_rfl
theorem bs_51 (T : Tr Value) (H : Heap) (len : Nat) (ps : List (Nat × Operand)) : buildSliceV E T H 51 len ps = bif (!Nat.ble (len * 1) 10000000 || false) then none else (evParts T (fun k => some (k * 1, 1)) ps).bind fun ps => (fillV (repeatCells [(.int .i64 0)] len) ps).bind fun l => some (.slice (some ⟨H.next, 0, none⟩) len len, H.newRow l) := by kernel_rfl
theorem eqnil_51 (d : Nat) (a : Option Addr) (n c n' c' : Nat) : eqV E (d + 1) 51 (.slice none n c) (.slice a n' c') = some a.isNone := by kernel_rfl
theorem agg_63 : aggOf E 63 = some none := by kernel_rfl
theorem size_63 : E.size 63 = some 1 := by kernel_rfl
theorem part_63 (cs : List Value) (o : Nat) : partV E 63 cs o = cs[o]? := by kernel_rfl
theorem zero_63 : zeroOf E 63 = some (.int .u64 0) := by kernel_rfl
theorem eq_63 (d : Nat) (a b : Int) : eqV E (d + 1) 63 (.int .u64 a) (.int .u64 b) = some (eqI a b) := by kernel_rfl
theorem agg_67 : aggOf E 67 = some (some 0) := by kernel_rfl
theorem size_67 : E.size 67 = some 0 := by kernel_rfl
theorem part_67 (cs : List Value) (o : Nat) : partV E 67 cs o = (cut cs o 0).bind fun l => some (.agg l.toArray) := by kernel_rfl
theorem zero_67 : zeroOf E 67 = some (.agg #[]) := by kernel_rfl
theorem ia_67 (r o : Nat) (k : IntKind) (i : Int) : indexAddrV E 67 (ptr r o) (.int k i) = (at? i 0).bind fun i => some (ptr r (o + i * 1)) := by kernel_rfl
theorem agg_71 : aggOf E 71 = some none := by kernel_rfl
theorem size_71 : E.size 71 = some 1 := by kernel_rfl
theorem part_71 (cs : List Value) (o : Nat) : partV E 71 cs o = cs[o]? := by kernel_rfl
theorem zero_71 : zeroOf E 71 = some (.int .u32 0) := by kernel_rfl
theorem eq_71 (d : Nat) (a b : Int) : eqV E (d + 1) 71 (.int .u32 a) (.int .u32 b) = some (eqI a b) := by kernel_rfl
theorem agg_75 : aggOf E 75 = some none := by kernel_rfl
theorem size_75 : E.size 75 = some 1 := by kernel_rfl
theorem part_75 (cs : List Value) (o : Nat) : partV E 75 cs o = cs[o]? := by kernel_rfl
theorem zero_75 : zeroOf E 75 = some (.pointer none) := by kernel_rfl
theorem agg_80 : aggOf E 80 = some none := by kernel_rfl
theorem size_80 : E.size 80 = some 1 := by kernel_rfl
theorem part_80 (cs : List Value) (o : Nat) : partV E 80 cs o = cs[o]? := by kernel_rfl
theorem zero_80 : zeroOf E 80 = some (.pointer none) := by kernel_rfl
theorem conv_2_2 (k : IntKind) (n : Int) : convV E 2 2 (.int k n) = intR .i64 n := by kernel_rfl
theorem conv_2_3 (k : IntKind) (n : Int) : convV E 2 3 (.int k n) = intR .i64 n := by kernel_rfl
theorem conv_2_5 (k : IntKind) (n : Int) : convV E 2 5 (.int k n) = intR .u8 n := by kernel_rfl
theorem conv_2_12 (k : IntKind) (n : Int) : convV E 2 12 (.int k n) = intR .u64 n := by kernel_rfl
theorem conv_2_21 (k : IntKind) (n : Int) : convV E 2 21 (.int k n) = intR .i32 n := by kernel_rfl
theorem conv_2_36 (k : IntKind) (n : Int) : convV E 2 36 (.int k n) = intR .i64 n := by kernel_rfl
theorem conv_2_40 (k : IntKind) (n : Int) : convV E 2 40 (.int k n) = intR .u64 n := by kernel_rfl
theorem conv_2_63 (k : IntKind) (n : Int) : convV E 2 63 (.int k n) = intR .u64 n := by kernel_rfl
theorem conv_2_71 (k : IntKind) (n : Int) : convV E 2 71 (.int k n) = intR .u32 n := by kernel_rfl
theorem conv_3_2 (k : IntKind) (n : Int) : convV E 3 2 (.int k n) = intR .i64 n := by kernel_rfl
theorem conv_3_3 (k : IntKind) (n : Int) : convV E 3 3 (.int k n) = intR .i64 n := by kernel_rfl
theorem conv_3_5 (k : IntKind) (n : Int) : convV E 3 5 (.int k n) = intR .u8 n := by kernel_rfl
theorem conv_3_12 (k : IntKind) (n : Int) : convV E 3 12 (.int k n) = intR .u64 n := by kernel_rfl
theorem conv_3_21 (k : IntKind) (n : Int) : convV E 3 21 (.int k n) = intR .i32 n := by kernel_rfl
theorem conv_3_36 (k : IntKind) (n : Int) : convV E 3 36 (.int k n) = intR .i64 n := by kernel_rfl
theorem conv_3_40 (k : IntKind) (n : Int) : convV E 3 40 (.int k n) = intR .u64 n := by kernel_rfl
theorem conv_3_63 (k : IntKind) (n : Int) : convV E 3 63 (.int k n) = intR .u64 n := by kernel_rfl
theorem conv_3_71 (k : IntKind) (n : Int) : convV E 3 71 (.int k n) = intR .u32 n := by kernel_rfl
theorem conv_5_2 (k : IntKind) (n : Int) : convV E 5 2 (.int k n) = intR .i64 n := by kernel_rfl
theorem conv_5_3 (k : IntKind) (n : Int) : convV E 5 3 (.int k n) = intR .i64 n := by kernel_rfl
theorem conv_5_5 (k : IntKind) (n : Int) : convV E 5 5 (.int k n) = intR .u8 n := by kernel_rfl
theorem conv_5_12 (k : IntKind) (n : Int) : convV E 5 12 (.int k n) = intR .u64 n := by kernel_rfl
theorem conv_5_21 (k : IntKind) (n : Int) : convV E 5 21 (.int k n) = intR .i32 n := by kernel_rfl
theorem conv_5_36 (k : IntKind) (n : Int) : convV E 5 36 (.int k n) = intR .i64 n := by kernel_rfl
theorem conv_5_40 (k : IntKind) (n : Int) : convV E 5 40 (.int k n) = intR .u64 n := by kernel_rfl
theorem conv_5_63 (k : IntKind) (n : Int) : convV E 5 63 (.int k n) = intR .u64 n := by kernel_rfl
theorem conv_5_71 (k : IntKind) (n : Int) : convV E 5 71 (.int k n) = intR .u32 n := by kernel_rfl
theorem conv_12_2 (k : IntKind) (n : Int) : convV E 12 2 (.int k n) = intR .i64 n := by kernel_rfl
theorem conv_12_3 (k : IntKind) (n : Int) : convV E 12 3 (.int k n) = intR .i64 n := by kernel_rfl
theorem conv_12_5 (k : IntKind) (n : Int) : convV E 12 5 (.int k n) = intR .u8 n := by kernel_rfl
theorem conv_12_12 (k : IntKind) (n : Int) : convV E 12 12 (.int k n) = intR .u64 n := by kernel_rfl
theorem conv_12_21 (k : IntKind) (n : Int) : convV E 12 21 (.int k n) = intR .i32 n := by kernel_rfl
theorem conv_12_36 (k : IntKind) (n : Int) : convV E 12 36 (.int k n) = intR .i64 n := by kernel_rfl
theorem conv_12_40 (k : IntKind) (n : Int) : convV E 12 40 (.int k n) = intR .u64 n := by kernel_rfl
theorem conv_12_63 (k : IntKind) (n : Int) : convV E 12 63 (.int k n) = intR .u64 n := by kernel_rfl
theorem conv_12_71 (k : IntKind) (n : Int) : convV E 12 71 (.int k n) = intR .u32 n := by kernel_rfl
theorem conv_21_2 (k : IntKind) (n : Int) : convV E 21 2 (.int k n) = intR .i64 n := by kernel_rfl
theorem conv_21_3 (k : IntKind) (n : Int) : convV E 21 3 (.int k n) = intR .i64 n := by kernel_rfl
theorem conv_21_5 (k : IntKind) (n : Int) : convV E 21 5 (.int k n) = intR .u8 n := by kernel_rfl
theorem conv_21_12 (k : IntKind) (n : Int) : convV E 21 12 (.int k n) = intR .u64 n := by kernel_rfl
theorem conv_21_21 (k : IntKind) (n : Int) : convV E 21 21 (.int k n) = intR .i32 n := by kernel_rfl
theorem conv_21_36 (k : IntKind) (n : Int) : convV E 21 36 (.int k n) = intR .i64 n := by kernel_rfl
theorem conv_21_40 (k : IntKind) (n : Int) : convV E 21 40 (.int k n) = intR .u64 n := by kernel_rfl
theorem conv_21_63 (k : IntKind) (n : Int) : convV E 21 63 (.int k n) = intR .u64 n := by kernel_rfl
theorem conv_21_71 (k : IntKind) (n : Int) : convV E 21 71 (.int k n) = intR .u32 n := by kernel_rfl
theorem conv_36_2 (k : IntKind) (n : Int) : convV E 36 2 (.int k n) = intR .i64 n := by kernel_rfl
theorem conv_36_3 (k : IntKind) (n : Int) : convV E 36 3 (.int k n) = intR .i64 n := by kernel_rfl
theorem conv_36_5 (k : IntKind) (n : Int) : convV E 36 5 (.int k n) = intR .u8 n := by kernel_rfl
theorem conv_36_12 (k : IntKind) (n : Int) : convV E 36 12 (.int k n) = intR .u64 n := by kernel_rfl
theorem conv_36_21 (k : IntKind) (n : Int) : convV E 36 21 (.int k n) = intR .i32 n := by kernel_rfl
theorem conv_36_36 (k : IntKind) (n : Int) : convV E 36 36 (.int k n) = intR .i64 n := by kernel_rfl
theorem conv_36_40 (k : IntKind) (n : Int) : convV E 36 40 (.int k n) = intR .u64 n := by kernel_rfl
theorem conv_36_63 (k : IntKind) (n : Int) : convV E 36 63 (.int k n) = intR .u64 n := by kernel_rfl
theorem conv_36_71 (k : IntKind) (n : Int) : convV E 36 71 (.int k n) = intR .u32 n := by kernel_rfl
theorem conv_40_2 (k : IntKind) (n : Int) : convV E 40 2 (.int k n) = intR .i64 n := by kernel_rfl
theorem conv_40_3 (k : IntKind) (n : Int) : convV E 40 3 (.int k n) = intR .i64 n := by kernel_rfl
theorem conv_40_5 (k : IntKind) (n : Int) : convV E 40 5 (.int k n) = intR .u8 n := by kernel_rfl
theorem conv_40_12 (k : IntKind) (n : Int) : convV E 40 12 (.int k n) = intR .u64 n := by kernel_rfl
theorem conv_40_21 (k : IntKind) (n : Int) : convV E 40 21 (.int k n) = intR .i32 n := by kernel_rfl
theorem conv_40_36 (k : IntKind) (n : Int) : convV E 40 36 (.int k n) = intR .i64 n := by kernel_rfl
theorem conv_40_40 (k : IntKind) (n : Int) : convV E 40 40 (.int k n) = intR .u64 n := by kernel_rfl
theorem conv_40_63 (k : IntKind) (n : Int) : convV E 40 63 (.int k n) = intR .u64 n := by kernel_rfl
theorem conv_40_71 (k : IntKind) (n : Int) : convV E 40 71 (.int k n) = intR .u32 n := by kernel_rfl
theorem conv_63_2 (k : IntKind) (n : Int) : convV E 63 2 (.int k n) = intR .i64 n := by kernel_rfl
theorem conv_63_3 (k : IntKind) (n : Int) : convV E 63 3 (.int k n) = intR .i64 n := by kernel_rfl
theorem conv_63_5 (k : IntKind) (n : Int) : convV E 63 5 (.int k n) = intR .u8 n := by kernel_rfl
theorem conv_63_12 (k : IntKind) (n : Int) : convV E 63 12 (.int k n) = intR .u64 n := by kernel_rfl
theorem conv_63_21 (k : IntKind) (n : Int) : convV E 63 21 (.int k n) = intR .i32 n := by kernel_rfl
theorem conv_63_36 (k : IntKind) (n : Int) : convV E 63 36 (.int k n) = intR .i64 n := by kernel_rfl
theorem conv_63_40 (k : IntKind) (n : Int) : convV E 63 40 (.int k n) = intR .u64 n := by kernel_rfl
theorem conv_63_63 (k : IntKind) (n : Int) : convV E 63 63 (.int k n) = intR .u64 n := by kernel_rfl
theorem conv_63_71 (k : IntKind) (n : Int) : convV E 63 71 (.int k n) = intR .u32 n := by kernel_rfl
theorem conv_71_2 (k : IntKind) (n : Int) : convV E 71 2 (.int k n) = intR .i64 n := by kernel_rfl
theorem conv_71_3 (k : IntKind) (n : Int) : convV E 71 3 (.int k n) = intR .i64 n := by kernel_rfl
theorem conv_71_5 (k : IntKind) (n : Int) : convV E 71 5 (.int k n) = intR .u8 n := by kernel_rfl
theorem conv_71_12 (k : IntKind) (n : Int) : convV E 71 12 (.int k n) = intR .u64 n := by kernel_rfl
theorem conv_71_21 (k : IntKind) (n : Int) : convV E 71 21 (.int k n) = intR .i32 n := by kernel_rfl
theorem conv_71_36 (k : IntKind) (n : Int) : convV E 71 36 (.int k n) = intR .i64 n := by kernel_rfl
theorem conv_71_40 (k : IntKind) (n : Int) : convV E 71 40 (.int k n) = intR .u64 n := by kernel_rfl
theorem conv_71_63 (k : IntKind) (n : Int) : convV E 71 63 (.int k n) = intR .u64 n := by kernel_rfl
theorem conv_71_71 (k : IntKind) (n : Int) : convV E 71 71 (.int k n) = intR .u32 n := by kernel_rfl
end Go.AM
