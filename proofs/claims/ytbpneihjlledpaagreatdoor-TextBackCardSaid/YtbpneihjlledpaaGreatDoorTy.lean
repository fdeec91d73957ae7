/-
  What operations come to at each type (letters allowed). Printed by a program of mine (Facts).
-/
import Derived.Test.YtbpneihjlledpaaGreatDoorAMc
import Derived.Test.YtbpneihjlledpaaGreatDoorTT0
import Derived.Test.YtbpneihjlledpaaGreatDoorChecked
import Derived.KernelRfl
set_option linter.unusedSimpArgs false
set_option linter.unusedVariables false
set_option linter.unusedSectionVars false
namespace Go.AM
attribute [local instance] fnMaps
open Go Go.Proofs
set_option maxRecDepth 100000
@[irreducible] noncomputable def tyT : Trie TI := @Env.ty trieMaps (@Env.of trieMaps Tryz.prog)
class Orc13 where
  ans : List Value → Heap → Option (Value × Heap)
variable [Orc13]
noncomputable def E : Env := ⟨Tryz.prog, fun k => Trie.get tyT k, fun k => Tryz.prog.funcs[k]?, orcT (⟨6, fun args H => match args with | [] => some (.bool true, H) | _ => none⟩ :: ⟨13, Orc13.ans⟩ :: tolds)⟩
theorem agg_2 : aggOf E 2 = some none := by kernel_rfl
theorem size_2 : E.size 2 = some 1 := by kernel_rfl
theorem part_2 (cs : List Value) (o : Nat) : partV E 2 cs o = cs[o]? := by kernel_rfl
theorem zero_2 : zeroOf E 2 = some (.int .i64 0) := by kernel_rfl
theorem eq_2 (d : Nat) (a b : Int) : eqV E (d + 1) 2 (.int .i64 a) (.int .i64 b) = some (eqI a b) := by kernel_rfl
theorem agg_3 : aggOf E 3 = some none := by kernel_rfl
theorem size_3 : E.size 3 = some 1 := by kernel_rfl
theorem part_3 (cs : List Value) (o : Nat) : partV E 3 cs o = cs[o]? := by kernel_rfl
theorem zero_3 : zeroOf E 3 = some (.int .i64 0) := by kernel_rfl
theorem eq_3 (d : Nat) (a b : Int) : eqV E (d + 1) 3 (.int .i64 a) (.int .i64 b) = some (eqI a b) := by kernel_rfl
theorem agg_4 : aggOf E 4 = some none := by kernel_rfl
theorem size_4 : E.size 4 = some 1 := by kernel_rfl
theorem part_4 (cs : List Value) (o : Nat) : partV E 4 cs o = cs[o]? := by kernel_rfl
theorem zero_4 : zeroOf E 4 = some (.bool false) := by kernel_rfl
theorem eq_4 (d : Nat) (a b : Bool) : eqV E (d + 1) 4 (.bool a) (.bool b) = some (a == b) := by kernel_rfl
theorem agg_5 : aggOf E 5 = some none := by kernel_rfl
theorem size_5 : E.size 5 = some 1 := by kernel_rfl
theorem part_5 (cs : List Value) (o : Nat) : partV E 5 cs o = cs[o]? := by kernel_rfl
theorem zero_5 : zeroOf E 5 = some (.int .u8 0) := by kernel_rfl
theorem eq_5 (d : Nat) (a b : Int) : eqV E (d + 1) 5 (.int .u8 a) (.int .u8 b) = some (eqI a b) := by kernel_rfl
theorem agg_9 : aggOf E 9 = some none := by kernel_rfl
theorem size_9 : E.size 9 = some 1 := by kernel_rfl
theorem part_9 (cs : List Value) (o : Nat) : partV E 9 cs o = cs[o]? := by kernel_rfl
theorem zero_9 : zeroOf E 9 = some (.string ⟨#[]⟩) := by kernel_rfl
theorem eq_9 (d : Nat) (a b : ByteArray) : eqV E (d + 1) 9 (.string a) (.string b) = some (eqBytes a b) := by kernel_rfl
theorem len_9 (H : Heap) (s : ByteArray) : builtinV E H .len [9] [.string s] = some (.int .i64 s.size, H) := by kernel_rfl
theorem agg_21 : aggOf E 21 = some none := by kernel_rfl
theorem size_21 : E.size 21 = some 1 := by kernel_rfl
theorem part_21 (cs : List Value) (o : Nat) : partV E 21 cs o = cs[o]? := by kernel_rfl
theorem zero_21 : zeroOf E 21 = some (.int .i32 0) := by kernel_rfl
theorem eq_21 (d : Nat) (a b : Int) : eqV E (d + 1) 21 (.int .i32 a) (.int .i32 b) = some (eqI a b) := by kernel_rfl
theorem agg_23 : aggOf E 23 = some (some 2) := by kernel_rfl
theorem size_23 : E.size 23 = some 2 := by kernel_rfl
theorem part_23 (cs : List Value) (o : Nat) : partV E 23 cs o = (cut cs o 2).bind fun l => some (.agg l.toArray) := by kernel_rfl
theorem zero_23 : zeroOf E 23 = some (.agg #[(.int .i64 0), (.int .i64 0)]) := by kernel_rfl
theorem fa_23_0 (r o : Nat) : fieldAddrV E 23 (ptr r o) 0 = some (ptr r (o + 0)) := by kernel_rfl
theorem fv_23_0 (cs : Array Value) : fieldV E 23 (.agg cs) 0 = partV E 3 cs.toList 0 := by kernel_rfl
theorem fa_23_1 (r o : Nat) : fieldAddrV E 23 (ptr r o) 1 = some (ptr r (o + 1)) := by kernel_rfl
theorem fv_23_1 (cs : Array Value) : fieldV E 23 (.agg cs) 1 = partV E 2 cs.toList 1 := by kernel_rfl
theorem lit_23 (T : Tr Value) (ps : List (Nat × Operand)) : structLit E T 23 ps = (evParts T (fun k => [(0, 1), (1, 1)][k]?) ps).bind fun ps => (fillV [(.int .i64 0), (.int .i64 0)] ps).bind fun l => some (.agg l.toArray) := by kernel_rfl
theorem eq_23 (d : Nat) (xs ys : Array Value) : eqV E (d + 1) 23 (.agg xs) (.agg ys) = eqFields E (eqV E d) xs.toList ys.toList [(0, 3), (1, 2)] := by kernel_rfl
theorem agg_24 : aggOf E 24 = some none := by kernel_rfl
theorem size_24 : E.size 24 = some 1 := by kernel_rfl
theorem part_24 (cs : List Value) (o : Nat) : partV E 24 cs o = cs[o]? := by kernel_rfl
theorem zero_24 : zeroOf E 24 = some (.int .u64 0) := by kernel_rfl
theorem eq_24 (d : Nat) (a b : Int) : eqV E (d + 1) 24 (.int .u64 a) (.int .u64 b) = some (eqI a b) := by kernel_rfl
theorem agg_26 : aggOf E 26 = some (some 11) := by kernel_rfl
theorem size_26 : E.size 26 = some 11 := by kernel_rfl
theorem part_26 (cs : List Value) (o : Nat) : partV E 26 cs o = (cut cs o 11).bind fun l => some (.agg l.toArray) := by kernel_rfl
theorem zero_26 : zeroOf E 26 = some (.agg #[(.int .i64 0), (.int .i64 0), (.int .i64 0), (.int .i64 0), (.int .i64 0), (.int .i64 0), (.int .u64 0), (.int .i64 0), (.int .i64 0), (.int .i64 0), (.int .u8 0)]) := by kernel_rfl
theorem fa_26_0 (r o : Nat) : fieldAddrV E 26 (ptr r o) 0 = some (ptr r (o + 0)) := by kernel_rfl
theorem fv_26_0 (cs : Array Value) : fieldV E 26 (.agg cs) 0 = partV E 3 cs.toList 0 := by kernel_rfl
theorem fa_26_1 (r o : Nat) : fieldAddrV E 26 (ptr r o) 1 = some (ptr r (o + 1)) := by kernel_rfl
theorem fv_26_1 (cs : Array Value) : fieldV E 26 (.agg cs) 1 = partV E 3 cs.toList 1 := by kernel_rfl
theorem fa_26_2 (r o : Nat) : fieldAddrV E 26 (ptr r o) 2 = some (ptr r (o + 2)) := by kernel_rfl
theorem fv_26_2 (cs : Array Value) : fieldV E 26 (.agg cs) 2 = partV E 3 cs.toList 2 := by kernel_rfl
theorem fa_26_3 (r o : Nat) : fieldAddrV E 26 (ptr r o) 3 = some (ptr r (o + 3)) := by kernel_rfl
theorem fv_26_3 (cs : Array Value) : fieldV E 26 (.agg cs) 3 = partV E 3 cs.toList 3 := by kernel_rfl
theorem fa_26_4 (r o : Nat) : fieldAddrV E 26 (ptr r o) 4 = some (ptr r (o + 4)) := by kernel_rfl
theorem fv_26_4 (cs : Array Value) : fieldV E 26 (.agg cs) 4 = partV E 23 cs.toList 4 := by kernel_rfl
theorem fa_26_5 (r o : Nat) : fieldAddrV E 26 (ptr r o) 5 = some (ptr r (o + 6)) := by kernel_rfl
theorem fv_26_5 (cs : Array Value) : fieldV E 26 (.agg cs) 5 = partV E 24 cs.toList 6 := by kernel_rfl
theorem fa_26_6 (r o : Nat) : fieldAddrV E 26 (ptr r o) 6 = some (ptr r (o + 7)) := by kernel_rfl
theorem fv_26_6 (cs : Array Value) : fieldV E 26 (.agg cs) 6 = partV E 3 cs.toList 7 := by kernel_rfl
theorem fa_26_7 (r o : Nat) : fieldAddrV E 26 (ptr r o) 7 = some (ptr r (o + 8)) := by kernel_rfl
theorem fv_26_7 (cs : Array Value) : fieldV E 26 (.agg cs) 7 = partV E 3 cs.toList 8 := by kernel_rfl
theorem fa_26_8 (r o : Nat) : fieldAddrV E 26 (ptr r o) 8 = some (ptr r (o + 9)) := by kernel_rfl
theorem fv_26_8 (cs : Array Value) : fieldV E 26 (.agg cs) 8 = partV E 3 cs.toList 9 := by kernel_rfl
theorem fa_26_9 (r o : Nat) : fieldAddrV E 26 (ptr r o) 9 = some (ptr r (o + 10)) := by kernel_rfl
theorem fv_26_9 (cs : Array Value) : fieldV E 26 (.agg cs) 9 = partV E 5 cs.toList 10 := by kernel_rfl
theorem lit_26 (T : Tr Value) (ps : List (Nat × Operand)) : structLit E T 26 ps = (evParts T (fun k => [(0, 1), (1, 1), (2, 1), (3, 1), (4, 2), (6, 1), (7, 1), (8, 1), (9, 1), (10, 1)][k]?) ps).bind fun ps => (fillV [(.int .i64 0), (.int .i64 0), (.int .i64 0), (.int .i64 0), (.int .i64 0), (.int .i64 0), (.int .u64 0), (.int .i64 0), (.int .i64 0), (.int .i64 0), (.int .u8 0)] ps).bind fun l => some (.agg l.toArray) := by kernel_rfl
theorem eq_26 (d : Nat) (xs ys : Array Value) : eqV E (d + 1) 26 (.agg xs) (.agg ys) = eqFields E (eqV E d) xs.toList ys.toList [(0, 3), (1, 3), (2, 3), (3, 3), (4, 23), (6, 24), (7, 3), (8, 3), (9, 3), (10, 5)] := by kernel_rfl
theorem agg_27 : aggOf E 27 = some none := by kernel_rfl
theorem size_27 : E.size 27 = some 1 := by kernel_rfl
theorem part_27 (cs : List Value) (o : Nat) : partV E 27 cs o = cs[o]? := by kernel_rfl
theorem zero_27 : zeroOf E 27 = some (.int .i64 0) := by kernel_rfl
theorem eq_27 (d : Nat) (a b : Int) : eqV E (d + 1) 27 (.int .i64 a) (.int .i64 b) = some (eqI a b) := by kernel_rfl
theorem agg_29 : aggOf E 29 = some (some 9) := by kernel_rfl
theorem size_29 : E.size 29 = some 9 := by kernel_rfl
theorem part_29 (cs : List Value) (o : Nat) : partV E 29 cs o = (cut cs o 9).bind fun l => some (.agg l.toArray) := by kernel_rfl
theorem zero_29 : zeroOf E 29 = some (.agg #[(.int .i64 0), (.int .i64 0), (.int .i64 0), (.int .i64 0), (.int .u64 0), (.bool false), (.int .i64 0), (.int .i64 0), (.int .i64 0)]) := by kernel_rfl
theorem fa_29_0 (r o : Nat) : fieldAddrV E 29 (ptr r o) 0 = some (ptr r (o + 0)) := by kernel_rfl
theorem fv_29_0 (cs : Array Value) : fieldV E 29 (.agg cs) 0 = partV E 27 cs.toList 0 := by kernel_rfl
theorem fa_29_1 (r o : Nat) : fieldAddrV E 29 (ptr r o) 1 = some (ptr r (o + 1)) := by kernel_rfl
theorem fv_29_1 (cs : Array Value) : fieldV E 29 (.agg cs) 1 = partV E 3 cs.toList 1 := by kernel_rfl
theorem fa_29_2 (r o : Nat) : fieldAddrV E 29 (ptr r o) 2 = some (ptr r (o + 2)) := by kernel_rfl
theorem fv_29_2 (cs : Array Value) : fieldV E 29 (.agg cs) 2 = partV E 23 cs.toList 2 := by kernel_rfl
theorem fa_29_3 (r o : Nat) : fieldAddrV E 29 (ptr r o) 3 = some (ptr r (o + 4)) := by kernel_rfl
theorem fv_29_3 (cs : Array Value) : fieldV E 29 (.agg cs) 3 = partV E 24 cs.toList 4 := by kernel_rfl
theorem fa_29_4 (r o : Nat) : fieldAddrV E 29 (ptr r o) 4 = some (ptr r (o + 5)) := by kernel_rfl
theorem fv_29_4 (cs : Array Value) : fieldV E 29 (.agg cs) 4 = partV E 4 cs.toList 5 := by kernel_rfl
theorem fa_29_5 (r o : Nat) : fieldAddrV E 29 (ptr r o) 5 = some (ptr r (o + 6)) := by kernel_rfl
theorem fv_29_5 (cs : Array Value) : fieldV E 29 (.agg cs) 5 = partV E 3 cs.toList 6 := by kernel_rfl
theorem fa_29_6 (r o : Nat) : fieldAddrV E 29 (ptr r o) 6 = some (ptr r (o + 7)) := by kernel_rfl
theorem fv_29_6 (cs : Array Value) : fieldV E 29 (.agg cs) 6 = partV E 3 cs.toList 7 := by kernel_rfl
theorem fa_29_7 (r o : Nat) : fieldAddrV E 29 (ptr r o) 7 = some (ptr r (o + 8)) := by kernel_rfl
theorem fv_29_7 (cs : Array Value) : fieldV E 29 (.agg cs) 7 = partV E 3 cs.toList 8 := by kernel_rfl
theorem lit_29 (T : Tr Value) (ps : List (Nat × Operand)) : structLit E T 29 ps = (evParts T (fun k => [(0, 1), (1, 1), (2, 2), (4, 1), (5, 1), (6, 1), (7, 1), (8, 1)][k]?) ps).bind fun ps => (fillV [(.int .i64 0), (.int .i64 0), (.int .i64 0), (.int .i64 0), (.int .u64 0), (.bool false), (.int .i64 0), (.int .i64 0), (.int .i64 0)] ps).bind fun l => some (.agg l.toArray) := by kernel_rfl
theorem eq_29 (d : Nat) (xs ys : Array Value) : eqV E (d + 1) 29 (.agg xs) (.agg ys) = eqFields E (eqV E d) xs.toList ys.toList [(0, 27), (1, 3), (2, 23), (4, 24), (5, 4), (6, 3), (7, 3), (8, 3)] := by kernel_rfl
theorem agg_37 : aggOf E 37 = some none := by kernel_rfl
theorem size_37 : E.size 37 = some 1 := by kernel_rfl
theorem part_37 (cs : List Value) (o : Nat) : partV E 37 cs o = cs[o]? := by kernel_rfl
theorem zero_37 : zeroOf E 37 = some (.slice none 0 0) := by kernel_rfl
theorem ia_37 (r o n c : Nat) (k : IntKind) (i : Int) : indexAddrV E 37 (.slice (some ⟨r, o, none⟩) n c) (.int k i) = (at? i n).bind fun i => some (ptr r (o + i * 11)) := by kernel_rfl
theorem sc_37 (H : Heap) (r o n c : Nat) (lo hi mx : Option Value) : sliceV E H 37 (.slice (some ⟨r, o, none⟩) n c) lo hi mx = slS E H 11 r o n c lo hi mx := by kernel_rfl
theorem len_37 (H : Heap) (a : Option Addr) (n c : Nat) : builtinV E H .len [37] [.slice a n c] = some (.int .i64 n, H) := by kernel_rfl
theorem app_37 (H : Heap) (s : Value) (a : Option Addr) (n c : Nat) : builtinV E H .append [37, 37] [s, .slice a n c] = (cellsOf H (n * 11) (.slice a n c)).bind fun l => appendV E H 26 s n l := by kernel_rfl
theorem appT_37 (H : Heap) (s : Value) (k : Nat) (new : List Value) : appendV E H 26 s k new = appendT 11 88 H s k new := by kernel_rfl
theorem bs_37 (T : Tr Value) (H : Heap) (len : Nat) (ps : List (Nat × Operand)) : buildSliceV E T H 37 len ps = bif (!Nat.ble (len * 11) 10000000 || false) then none else (evParts T (fun k => some (k * 11, 11)) ps).bind fun ps => (fillV (repeatCells [(.int .i64 0), (.int .i64 0), (.int .i64 0), (.int .i64 0), (.int .i64 0), (.int .i64 0), (.int .u64 0), (.int .i64 0), (.int .i64 0), (.int .i64 0), (.int .u8 0)] len) ps).bind fun l => some (.slice (some ⟨H.next, 0, none⟩) len len, H.newRow l) := by kernel_rfl
theorem eqnil_37 (d : Nat) (a : Option Addr) (n c n' c' : Nat) : eqV E (d + 1) 37 (.slice none n c) (.slice a n' c') = some a.isNone := by kernel_rfl
theorem agg_46 : aggOf E 46 = some none := by kernel_rfl
theorem size_46 : E.size 46 = some 1 := by kernel_rfl
theorem part_46 (cs : List Value) (o : Nat) : partV E 46 cs o = cs[o]? := by kernel_rfl
theorem zero_46 : zeroOf E 46 = some (.slice none 0 0) := by kernel_rfl
theorem ia_46 (r o n c : Nat) (k : IntKind) (i : Int) : indexAddrV E 46 (.slice (some ⟨r, o, none⟩) n c) (.int k i) = (at? i n).bind fun i => some (ptr r (o + i * 1)) := by kernel_rfl
theorem sc_46 (H : Heap) (r o n c : Nat) (lo hi mx : Option Value) : sliceV E H 46 (.slice (some ⟨r, o, none⟩) n c) lo hi mx = slS E H 1 r o n c lo hi mx := by kernel_rfl
theorem len_46 (H : Heap) (a : Option Addr) (n c : Nat) : builtinV E H .len [46] [.slice a n c] = some (.int .i64 n, H) := by kernel_rfl
theorem app_46 (H : Heap) (s : Value) (a : Option Addr) (n c : Nat) : builtinV E H .append [46, 46] [s, .slice a n c] = (cellsOf H (n * 1) (.slice a n c)).bind fun l => appendV E H 9 s n l := by kernel_rfl
theorem appT_46 (H : Heap) (s : Value) (k : Nat) (new : List Value) : appendV E H 9 s k new = appendT 1 16 H s k new := by kernel_rfl
theorem bs_46 (T : Tr Value) (H : Heap) (len : Nat) (ps : List (Nat × Operand)) : buildSliceV E T H 46 len ps = bif (!Nat.ble (len * 1) 10000000 || false) then none else (evParts T (fun k => some (k * 1, 1)) ps).bind fun ps => (fillV (repeatCells [(.string ⟨#[]⟩)] len) ps).bind fun l => some (.slice (some ⟨H.next, 0, none⟩) len len, H.newRow l) := by kernel_rfl
theorem eqnil_46 (d : Nat) (a : Option Addr) (n c n' c' : Nat) : eqV E (d + 1) 46 (.slice none n c) (.slice a n' c') = some a.isNone := by kernel_rfl
theorem agg_58 : aggOf E 58 = some none := by kernel_rfl
theorem size_58 : E.size 58 = some 1 := by kernel_rfl
theorem part_58 (cs : List Value) (o : Nat) : partV E 58 cs o = cs[o]? := by kernel_rfl
theorem zero_58 : zeroOf E 58 = some (.pointer none) := by kernel_rfl
theorem eqpn_58 (d r o : Nat) : eqV E (d + 1) 58 (ptr r o) (.pointer none) = some false := by kernel_rfl
theorem eqnn_58 (d : Nat) : eqV E (d + 1) 58 (.pointer none) (.pointer none) = some true := by kernel_rfl
theorem agg_67 : aggOf E 67 = some none := by kernel_rfl
theorem size_67 : E.size 67 = some 1 := by kernel_rfl
theorem part_67 (cs : List Value) (o : Nat) : partV E 67 cs o = cs[o]? := by kernel_rfl
theorem zero_67 : zeroOf E 67 = some (.pointer none) := by kernel_rfl
theorem eqpn_67 (d r o : Nat) : eqV E (d + 1) 67 (ptr r o) (.pointer none) = some false := by kernel_rfl
theorem eqnn_67 (d : Nat) : eqV E (d + 1) 67 (.pointer none) (.pointer none) = some true := by kernel_rfl
theorem agg_68 : aggOf E 68 = some none := by kernel_rfl
theorem size_68 : E.size 68 = some 1 := by kernel_rfl
theorem part_68 (cs : List Value) (o : Nat) : partV E 68 cs o = cs[o]? := by kernel_rfl
theorem zero_68 : zeroOf E 68 = some (.slice none 0 0) := by kernel_rfl
theorem ia_68 (r o n c : Nat) (k : IntKind) (i : Int) : indexAddrV E 68 (.slice (some ⟨r, o, none⟩) n c) (.int k i) = (at? i n).bind fun i => some (ptr r (o + i * 1)) := by kernel_rfl
theorem sc_68 (H : Heap) (r o n c : Nat) (lo hi mx : Option Value) : sliceV E H 68 (.slice (some ⟨r, o, none⟩) n c) lo hi mx = slS E H 1 r o n c lo hi mx := by kernel_rfl
theorem len_68 (H : Heap) (a : Option Addr) (n c : Nat) : builtinV E H .len [68] [.slice a n c] = some (.int .i64 n, H) := by kernel_rfl
theorem app_68 (H : Heap) (s : Value) (a : Option Addr) (n c : Nat) : builtinV E H .append [68, 68] [s, .slice a n c] = (cellsOf H (n * 1) (.slice a n c)).bind fun l => appendV E H 5 s n l := by kernel_rfl
theorem appT_68 (H : Heap) (s : Value) (k : Nat) (new : List Value) : appendV E H 5 s k new = appendT 1 1 H s k new := by kernel_rfl
theorem bs_68 (T : Tr Value) (H : Heap) (len : Nat) (ps : List (Nat × Operand)) : buildSliceV E T H 68 len ps = bif (!Nat.ble (len * 1) 10000000 || false) then none else (evParts T (fun k => some (k * 1, 1)) ps).bind fun ps => (fillV (repeatCells [(.int .u8 0)] len) ps).bind fun l => some (.slice (some ⟨H.next, 0, none⟩) len len, H.newRow l) := by kernel_rfl
theorem eqnil_68 (d : Nat) (a : Option Addr) (n c n' c' : Nat) : eqV E (d + 1) 68 (.slice none n c) (.slice a n' c') = some a.isNone := by kernel_rfl
theorem agg_70 : aggOf E 70 = some (some 2) := by kernel_rfl
theorem size_70 : E.size 70 = some 2 := by kernel_rfl
theorem part_70 (cs : List Value) (o : Nat) : partV E 70 cs o = (cut cs o 2).bind fun l => some (.agg l.toArray) := by kernel_rfl
theorem zero_70 : zeroOf E 70 = some (.agg #[(.pointer none), (.slice none 0 0)]) := by kernel_rfl
theorem fa_70_0 (r o : Nat) : fieldAddrV E 70 (ptr r o) 0 = some (ptr r (o + 0)) := by kernel_rfl
theorem fv_70_0 (cs : Array Value) : fieldV E 70 (.agg cs) 0 = partV E 67 cs.toList 0 := by kernel_rfl
theorem fa_70_1 (r o : Nat) : fieldAddrV E 70 (ptr r o) 1 = some (ptr r (o + 1)) := by kernel_rfl
theorem fv_70_1 (cs : Array Value) : fieldV E 70 (.agg cs) 1 = partV E 68 cs.toList 1 := by kernel_rfl
theorem lit_70 (T : Tr Value) (ps : List (Nat × Operand)) : structLit E T 70 ps = (evParts T (fun k => [(0, 1), (1, 1)][k]?) ps).bind fun ps => (fillV [(.pointer none), (.slice none 0 0)] ps).bind fun l => some (.agg l.toArray) := by kernel_rfl
theorem eq_70 (d : Nat) (xs ys : Array Value) : eqV E (d + 1) 70 (.agg xs) (.agg ys) = eqFields E (eqV E d) xs.toList ys.toList [(0, 67), (1, 68)] := by kernel_rfl
theorem agg_72 : aggOf E 72 = some none := by kernel_rfl
theorem size_72 : E.size 72 = some 1 := by kernel_rfl
theorem part_72 (cs : List Value) (o : Nat) : partV E 72 cs o = cs[o]? := by kernel_rfl
theorem zero_72 : zeroOf E 72 = some .nilIface := by kernel_rfl
theorem agg_78 : aggOf E 78 = some (some 3) := by kernel_rfl
theorem size_78 : E.size 78 = some 3 := by kernel_rfl
theorem part_78 (cs : List Value) (o : Nat) : partV E 78 cs o = (cut cs o 3).bind fun l => some (.agg l.toArray) := by kernel_rfl
theorem zero_78 : zeroOf E 78 = some (.agg #[(.string ⟨#[]⟩), (.string ⟨#[]⟩), .nilFunc]) := by kernel_rfl
theorem fa_78_0 (r o : Nat) : fieldAddrV E 78 (ptr r o) 0 = some (ptr r (o + 0)) := by kernel_rfl
theorem fv_78_0 (cs : Array Value) : fieldV E 78 (.agg cs) 0 = partV E 9 cs.toList 0 := by kernel_rfl
theorem fa_78_1 (r o : Nat) : fieldAddrV E 78 (ptr r o) 1 = some (ptr r (o + 1)) := by kernel_rfl
theorem fv_78_1 (cs : Array Value) : fieldV E 78 (.agg cs) 1 = partV E 9 cs.toList 1 := by kernel_rfl
theorem fa_78_2 (r o : Nat) : fieldAddrV E 78 (ptr r o) 2 = some (ptr r (o + 2)) := by kernel_rfl
theorem fv_78_2 (cs : Array Value) : fieldV E 78 (.agg cs) 2 = partV E 76 cs.toList 2 := by kernel_rfl
theorem lit_78 (T : Tr Value) (ps : List (Nat × Operand)) : structLit E T 78 ps = (evParts T (fun k => [(0, 1), (1, 1), (2, 1)][k]?) ps).bind fun ps => (fillV [(.string ⟨#[]⟩), (.string ⟨#[]⟩), .nilFunc] ps).bind fun l => some (.agg l.toArray) := by kernel_rfl
theorem eq_78 (d : Nat) (xs ys : Array Value) : eqV E (d + 1) 78 (.agg xs) (.agg ys) = eqFields E (eqV E d) xs.toList ys.toList [(0, 9), (1, 9), (2, 76)] := by kernel_rfl
theorem agg_81 : aggOf E 81 = some none := by kernel_rfl
theorem size_81 : E.size 81 = some 1 := by kernel_rfl
theorem part_81 (cs : List Value) (o : Nat) : partV E 81 cs o = cs[o]? := by kernel_rfl
theorem zero_81 : zeroOf E 81 = some (.pointer none) := by kernel_rfl
theorem eqpn_81 (d r o : Nat) : eqV E (d + 1) 81 (ptr r o) (.pointer none) = some false := by kernel_rfl
theorem eqnn_81 (d : Nat) : eqV E (d + 1) 81 (.pointer none) (.pointer none) = some true := by kernel_rfl
theorem agg_86 : aggOf E 86 = some none := by kernel_rfl
theorem size_86 : E.size 86 = some 1 := by kernel_rfl
theorem part_86 (cs : List Value) (o : Nat) : partV E 86 cs o = cs[o]? := by kernel_rfl
theorem zero_86 : zeroOf E 86 = some (.slice none 0 0) := by kernel_rfl
theorem ia_86 (r o n c : Nat) (k : IntKind) (i : Int) : indexAddrV E 86 (.slice (some ⟨r, o, none⟩) n c) (.int k i) = (at? i n).bind fun i => some (ptr r (o + i * 3)) := by kernel_rfl
theorem sc_86 (H : Heap) (r o n c : Nat) (lo hi mx : Option Value) : sliceV E H 86 (.slice (some ⟨r, o, none⟩) n c) lo hi mx = slS E H 3 r o n c lo hi mx := by kernel_rfl
theorem len_86 (H : Heap) (a : Option Addr) (n c : Nat) : builtinV E H .len [86] [.slice a n c] = some (.int .i64 n, H) := by kernel_rfl
theorem app_86 (H : Heap) (s : Value) (a : Option Addr) (n c : Nat) : builtinV E H .append [86, 86] [s, .slice a n c] = (cellsOf H (n * 3) (.slice a n c)).bind fun l => appendV E H 78 s n l := by kernel_rfl
theorem appT_86 (H : Heap) (s : Value) (k : Nat) (new : List Value) : appendV E H 78 s k new = appendT 3 40 H s k new := by kernel_rfl
theorem bs_86 (T : Tr Value) (H : Heap) (len : Nat) (ps : List (Nat × Operand)) : buildSliceV E T H 86 len ps = bif (!Nat.ble (len * 3) 10000000 || false) then none else (evParts T (fun k => some (k * 3, 3)) ps).bind fun ps => (fillV (repeatCells [(.string ⟨#[]⟩), (.string ⟨#[]⟩), .nilFunc] len) ps).bind fun l => some (.slice (some ⟨H.next, 0, none⟩) len len, H.newRow l) := by kernel_rfl
theorem eqnil_86 (d : Nat) (a : Option Addr) (n c n' c' : Nat) : eqV E (d + 1) 86 (.slice none n c) (.slice a n' c') = some a.isNone := by kernel_rfl
theorem agg_91 : aggOf E 91 = some (some 3) := by kernel_rfl
theorem size_91 : E.size 91 = some 3 := by kernel_rfl
theorem part_91 (cs : List Value) (o : Nat) : partV E 91 cs o = (cut cs o 3).bind fun l => some (.agg l.toArray) := by kernel_rfl
theorem zero_91 : zeroOf E 91 = some (.agg #[(.string ⟨#[]⟩), (.string ⟨#[]⟩), (.string ⟨#[]⟩)]) := by kernel_rfl
theorem ia_91 (r o : Nat) (k : IntKind) (i : Int) : indexAddrV E 91 (ptr r o) (.int k i) = (at? i 3).bind fun i => some (ptr r (o + i * 1)) := by kernel_rfl
theorem ix_91 (cs : Array Value) (k : IntKind) (i : Int) : indexV E 91 (.agg cs) (.int k i) = (at? i 3).bind fun i => partV E 9 cs.toList (i * 1) := by kernel_rfl
theorem lit_91 (T : Tr Value) (ps : List (Nat × Operand)) : structLit E T 91 ps = (evParts T (fun k => some (k * 1, 1)) ps).bind fun ps => (fillV [(.string ⟨#[]⟩), (.string ⟨#[]⟩), (.string ⟨#[]⟩)] ps).bind fun l => some (.agg l.toArray) := by kernel_rfl
theorem agg_92 : aggOf E 92 = some (some 16) := by kernel_rfl
theorem size_92 : E.size 92 = some 16 := by kernel_rfl
theorem part_92 (cs : List Value) (o : Nat) : partV E 92 cs o = (cut cs o 16).bind fun l => some (.agg l.toArray) := by kernel_rfl
theorem zero_92 : zeroOf E 92 = some (.agg #[(.int .u8 0), (.int .u8 0), (.int .u8 0), (.int .u8 0), (.int .u8 0), (.int .u8 0), (.int .u8 0), (.int .u8 0), (.int .u8 0), (.int .u8 0), (.int .u8 0), (.int .u8 0), (.int .u8 0), (.int .u8 0), (.int .u8 0), (.int .u8 0)]) := by kernel_rfl
theorem ia_92 (r o : Nat) (k : IntKind) (i : Int) : indexAddrV E 92 (ptr r o) (.int k i) = (at? i 16).bind fun i => some (ptr r (o + i * 1)) := by kernel_rfl
theorem ix_92 (cs : Array Value) (k : IntKind) (i : Int) : indexV E 92 (.agg cs) (.int k i) = (at? i 16).bind fun i => partV E 5 cs.toList (i * 1) := by kernel_rfl
theorem lit_92 (T : Tr Value) (ps : List (Nat × Operand)) : structLit E T 92 ps = (evParts T (fun k => some (k * 1, 1)) ps).bind fun ps => (fillV [(.int .u8 0), (.int .u8 0), (.int .u8 0), (.int .u8 0), (.int .u8 0), (.int .u8 0), (.int .u8 0), (.int .u8 0), (.int .u8 0), (.int .u8 0), (.int .u8 0), (.int .u8 0), (.int .u8 0), (.int .u8 0), (.int .u8 0), (.int .u8 0)] ps).bind fun l => some (.agg l.toArray) := by kernel_rfl
theorem eqi_72 (d : Nat) (t : TypeId) (v : Value) : eqV E (d + 1) 72 (.iface t v) .nilIface = some false := by kernel_rfl
theorem eqn_72 (x y : Operand) : binV E .eql 72 x (.const .nilIface) .nilIface .nilIface = some (.bool true) := by cases x <;> kernel_rfl
theorem cstr_68 (H : Heap) (r o n c : Nat) : cvV E H 68 9 (.slice (some ⟨r, o, none⟩) n c) = (cellsOf H n (.slice (some ⟨r, o, none⟩) n c)).bind fun l => (bytesOf l).bind fun ns => some (.string (bytesV ns)) := by kernel_rfl
theorem conv_2_2 (H : Heap) (k : IntKind) (n : Int) : cvV E H 2 2 (.int k n) = intR .i64 n := by kernel_rfl
theorem conv_2_3 (H : Heap) (k : IntKind) (n : Int) : cvV E H 2 3 (.int k n) = intR .i64 n := by kernel_rfl
theorem conv_2_5 (H : Heap) (k : IntKind) (n : Int) : cvV E H 2 5 (.int k n) = intR .u8 n := by kernel_rfl
theorem conv_2_21 (H : Heap) (k : IntKind) (n : Int) : cvV E H 2 21 (.int k n) = intR .i32 n := by kernel_rfl
theorem conv_2_24 (H : Heap) (k : IntKind) (n : Int) : cvV E H 2 24 (.int k n) = intR .u64 n := by kernel_rfl
theorem conv_2_27 (H : Heap) (k : IntKind) (n : Int) : cvV E H 2 27 (.int k n) = intR .i64 n := by kernel_rfl
theorem conv_3_2 (H : Heap) (k : IntKind) (n : Int) : cvV E H 3 2 (.int k n) = intR .i64 n := by kernel_rfl
theorem conv_3_3 (H : Heap) (k : IntKind) (n : Int) : cvV E H 3 3 (.int k n) = intR .i64 n := by kernel_rfl
theorem conv_3_5 (H : Heap) (k : IntKind) (n : Int) : cvV E H 3 5 (.int k n) = intR .u8 n := by kernel_rfl
theorem conv_3_21 (H : Heap) (k : IntKind) (n : Int) : cvV E H 3 21 (.int k n) = intR .i32 n := by kernel_rfl
theorem conv_3_24 (H : Heap) (k : IntKind) (n : Int) : cvV E H 3 24 (.int k n) = intR .u64 n := by kernel_rfl
theorem conv_3_27 (H : Heap) (k : IntKind) (n : Int) : cvV E H 3 27 (.int k n) = intR .i64 n := by kernel_rfl
theorem conv_5_2 (H : Heap) (k : IntKind) (n : Int) : cvV E H 5 2 (.int k n) = intR .i64 n := by kernel_rfl
theorem conv_5_3 (H : Heap) (k : IntKind) (n : Int) : cvV E H 5 3 (.int k n) = intR .i64 n := by kernel_rfl
theorem conv_5_5 (H : Heap) (k : IntKind) (n : Int) : cvV E H 5 5 (.int k n) = intR .u8 n := by kernel_rfl
theorem conv_5_21 (H : Heap) (k : IntKind) (n : Int) : cvV E H 5 21 (.int k n) = intR .i32 n := by kernel_rfl
theorem conv_5_24 (H : Heap) (k : IntKind) (n : Int) : cvV E H 5 24 (.int k n) = intR .u64 n := by kernel_rfl
theorem conv_5_27 (H : Heap) (k : IntKind) (n : Int) : cvV E H 5 27 (.int k n) = intR .i64 n := by kernel_rfl
theorem conv_21_2 (H : Heap) (k : IntKind) (n : Int) : cvV E H 21 2 (.int k n) = intR .i64 n := by kernel_rfl
theorem conv_21_3 (H : Heap) (k : IntKind) (n : Int) : cvV E H 21 3 (.int k n) = intR .i64 n := by kernel_rfl
theorem conv_21_5 (H : Heap) (k : IntKind) (n : Int) : cvV E H 21 5 (.int k n) = intR .u8 n := by kernel_rfl
theorem conv_21_21 (H : Heap) (k : IntKind) (n : Int) : cvV E H 21 21 (.int k n) = intR .i32 n := by kernel_rfl
theorem conv_21_24 (H : Heap) (k : IntKind) (n : Int) : cvV E H 21 24 (.int k n) = intR .u64 n := by kernel_rfl
theorem conv_21_27 (H : Heap) (k : IntKind) (n : Int) : cvV E H 21 27 (.int k n) = intR .i64 n := by kernel_rfl
theorem conv_24_2 (H : Heap) (k : IntKind) (n : Int) : cvV E H 24 2 (.int k n) = intR .i64 n := by kernel_rfl
theorem conv_24_3 (H : Heap) (k : IntKind) (n : Int) : cvV E H 24 3 (.int k n) = intR .i64 n := by kernel_rfl
theorem conv_24_5 (H : Heap) (k : IntKind) (n : Int) : cvV E H 24 5 (.int k n) = intR .u8 n := by kernel_rfl
theorem conv_24_21 (H : Heap) (k : IntKind) (n : Int) : cvV E H 24 21 (.int k n) = intR .i32 n := by kernel_rfl
theorem conv_24_24 (H : Heap) (k : IntKind) (n : Int) : cvV E H 24 24 (.int k n) = intR .u64 n := by kernel_rfl
theorem conv_24_27 (H : Heap) (k : IntKind) (n : Int) : cvV E H 24 27 (.int k n) = intR .i64 n := by kernel_rfl
theorem conv_27_2 (H : Heap) (k : IntKind) (n : Int) : cvV E H 27 2 (.int k n) = intR .i64 n := by kernel_rfl
theorem conv_27_3 (H : Heap) (k : IntKind) (n : Int) : cvV E H 27 3 (.int k n) = intR .i64 n := by kernel_rfl
theorem conv_27_5 (H : Heap) (k : IntKind) (n : Int) : cvV E H 27 5 (.int k n) = intR .u8 n := by kernel_rfl
theorem conv_27_21 (H : Heap) (k : IntKind) (n : Int) : cvV E H 27 21 (.int k n) = intR .i32 n := by kernel_rfl
theorem conv_27_24 (H : Heap) (k : IntKind) (n : Int) : cvV E H 27 24 (.int k n) = intR .u64 n := by kernel_rfl
theorem conv_27_27 (H : Heap) (k : IntKind) (n : Int) : cvV E H 27 27 (.int k n) = intR .i64 n := by kernel_rfl
set_option linter.defProp false
def st := (And.intro (And.intro (And.intro (And.intro (And.intro (And.intro (And.intro @agg_2 (And.intro @size_2 @part_2)) (And.intro (And.intro @zero_2 @eq_2) (And.intro @agg_3 @size_3))) (And.intro (And.intro (And.intro @part_3 @zero_3) (And.intro @eq_3 @agg_4)) (And.intro (And.intro @size_4 @part_4) (And.intro @zero_4 @eq_4)))) (And.intro (And.intro (And.intro @agg_5 (And.intro @size_5 @part_5)) (And.intro (And.intro @zero_5 @eq_5) (And.intro @agg_9 @size_9))) (And.intro (And.intro (And.intro @part_9 @zero_9) (And.intro @eq_9 @len_9)) (And.intro (And.intro @agg_21 @size_21) (And.intro @part_21 @zero_21))))) (And.intro (And.intro (And.intro (And.intro @eq_21 (And.intro @agg_23 @size_23)) (And.intro (And.intro @part_23 @zero_23) (And.intro @fa_23_0 @fv_23_0))) (And.intro (And.intro (And.intro @fa_23_1 @fv_23_1) (And.intro @lit_23 @eq_23)) (And.intro (And.intro @agg_24 @size_24) (And.intro @part_24 @zero_24)))) (And.intro (And.intro (And.intro @eq_24 (And.intro @agg_26 @size_26)) (And.intro (And.intro @part_26 @zero_26) (And.intro @fa_26_0 @fv_26_0))) (And.intro (And.intro (And.intro @fa_26_1 @fv_26_1) (And.intro @fa_26_2 @fv_26_2)) (And.intro (And.intro @fa_26_3 @fv_26_3) (And.intro @fa_26_4 @fv_26_4)))))) (And.intro (And.intro (And.intro (And.intro (And.intro @fa_26_5 (And.intro @fv_26_5 @fa_26_6)) (And.intro (And.intro @fv_26_6 @fa_26_7) (And.intro @fv_26_7 @fa_26_8))) (And.intro (And.intro (And.intro @fv_26_8 @fa_26_9) (And.intro @fv_26_9 @lit_26)) (And.intro (And.intro @eq_26 @agg_27) (And.intro @size_27 @part_27)))) (And.intro (And.intro (And.intro @zero_27 (And.intro @eq_27 @agg_29)) (And.intro (And.intro @size_29 @part_29) (And.intro @zero_29 @fa_29_0))) (And.intro (And.intro (And.intro @fv_29_0 @fa_29_1) (And.intro @fv_29_1 @fa_29_2)) (And.intro (And.intro @fv_29_2 @fa_29_3) (And.intro @fv_29_3 @fa_29_4))))) (And.intro (And.intro (And.intro (And.intro @fv_29_4 (And.intro @fa_29_5 @fv_29_5)) (And.intro (And.intro @fa_29_6 @fv_29_6) (And.intro @fa_29_7 @fv_29_7))) (And.intro (And.intro (And.intro @lit_29 @eq_29) (And.intro @agg_37 @size_37)) (And.intro (And.intro @part_37 @zero_37) (And.intro @ia_37 @sc_37)))) (And.intro (And.intro (And.intro @len_37 (And.intro @app_37 @appT_37)) (And.intro (And.intro @bs_37 @eqnil_37) (And.intro @agg_46 @size_46))) (And.intro (And.intro (And.intro @part_46 @zero_46) (And.intro @ia_46 @sc_46)) (And.intro (And.intro @len_46 @app_46) (And.intro @appT_46 @bs_46))))))) (And.intro (And.intro (And.intro (And.intro (And.intro (And.intro @eqnil_46 (And.intro @agg_58 @size_58)) (And.intro (And.intro @part_58 @zero_58) (And.intro @eqpn_58 @eqnn_58))) (And.intro (And.intro (And.intro @agg_67 @size_67) (And.intro @part_67 @zero_67)) (And.intro (And.intro @eqpn_67 @eqnn_67) (And.intro @agg_68 @size_68)))) (And.intro (And.intro (And.intro @part_68 (And.intro @zero_68 @ia_68)) (And.intro (And.intro @sc_68 @len_68) (And.intro @app_68 @appT_68))) (And.intro (And.intro (And.intro @bs_68 @eqnil_68) (And.intro @agg_70 @size_70)) (And.intro (And.intro @part_70 @zero_70) (And.intro @fa_70_0 @fv_70_0))))) (And.intro (And.intro (And.intro (And.intro @fa_70_1 (And.intro @fv_70_1 @lit_70)) (And.intro (And.intro @eq_70 @agg_72) (And.intro @size_72 @part_72))) (And.intro (And.intro (And.intro @zero_72 @agg_78) (And.intro @size_78 @part_78)) (And.intro (And.intro @zero_78 @fa_78_0) (And.intro @fv_78_0 @fa_78_1)))) (And.intro (And.intro (And.intro @fv_78_1 (And.intro @fa_78_2 @fv_78_2)) (And.intro (And.intro @lit_78 @eq_78) (And.intro @agg_81 @size_81))) (And.intro (And.intro (And.intro @part_81 @zero_81) (And.intro @eqpn_81 @eqnn_81)) (And.intro (And.intro @agg_86 @size_86) (And.intro @part_86 @zero_86)))))) (And.intro (And.intro (And.intro (And.intro (And.intro @ia_86 (And.intro @sc_86 @len_86)) (And.intro (And.intro @app_86 @appT_86) (And.intro @bs_86 @eqnil_86))) (And.intro (And.intro (And.intro @agg_91 @size_91) (And.intro @part_91 @zero_91)) (And.intro (And.intro @ia_91 @ix_91) (And.intro @lit_91 @agg_92)))) (And.intro (And.intro (And.intro @size_92 (And.intro @part_92 @zero_92)) (And.intro (And.intro @ia_92 @ix_92) (And.intro @lit_92 @eqi_72))) (And.intro (And.intro (And.intro @eqn_72 @cstr_68) (And.intro @conv_2_2 @conv_2_3)) (And.intro (And.intro @conv_2_5 @conv_2_21) (And.intro @conv_2_24 @conv_2_27))))) (And.intro (And.intro (And.intro (And.intro @conv_3_2 (And.intro @conv_3_3 @conv_3_5)) (And.intro (And.intro @conv_3_21 @conv_3_24) (And.intro @conv_3_27 @conv_5_2))) (And.intro (And.intro (And.intro @conv_5_3 @conv_5_5) (And.intro @conv_5_21 @conv_5_24)) (And.intro (And.intro @conv_5_27 @conv_21_2) (And.intro @conv_21_3 @conv_21_5)))) (And.intro (And.intro (And.intro @conv_21_21 (And.intro @conv_21_24 @conv_21_27)) (And.intro (And.intro @conv_24_2 @conv_24_3) (And.intro @conv_24_5 @conv_24_21))) (And.intro (And.intro (And.intro @conv_24_24 @conv_24_27) (And.intro @conv_27_2 @conv_27_3)) (And.intro (And.intro @conv_27_5 @conv_27_21) (And.intro @conv_27_24 @conv_27_27))))))))
end Go.AM
