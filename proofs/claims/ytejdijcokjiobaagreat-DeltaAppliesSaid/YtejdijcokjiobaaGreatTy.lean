/-
  What operations come to at each type (letters allowed). Printed by a program of mine (Facts).
-/
import Derived.Test.YtejdijcokjiobaaGreatAMc
import Derived.Test.YtejdijcokjiobaaGreatProg
import Derived.KernelRfl
namespace Go.AM
attribute [local instance] fnMaps
open Go Go.Proofs
set_option maxRecDepth 100000
@[irreducible] noncomputable def tyT : Trie TI := @Env.ty trieMaps (@Env.of trieMaps Tryz.prog)
noncomputable def E : Env := ⟨Tryz.prog, fun k => Trie.get tyT k, fun k => Tryz.prog.funcs[k]?, orcOf [(6, .bool true)]⟩
theorem agg_3 : aggOf E 3 = some none := by kernel_rfl
theorem part_3 (cs : List Value) (o : Nat) : partV E 3 cs o = cs[o]? := by kernel_rfl
theorem eq_3 (d : Nat) (a b : Int) : eqV E (d + 1) 3 (.int .i64 a) (.int .i64 b) = some (eqI a b) := by kernel_rfl
theorem agg_4 : aggOf E 4 = some none := by kernel_rfl
theorem part_4 (cs : List Value) (o : Nat) : partV E 4 cs o = cs[o]? := by kernel_rfl
theorem eq_4 (d : Nat) (a b : Bool) : eqV E (d + 1) 4 (.bool a) (.bool b) = some (a == b) := by kernel_rfl
theorem agg_23 : aggOf E 23 = some (some 4) := by kernel_rfl
theorem size_23 : E.size 23 = some 4 := by kernel_rfl
theorem eq_23 (d : Nat) (xs ys : Array Value) : eqV E (d + 1) 23 (.agg xs) (.agg ys) = eqFields E (eqV E d) xs.toList ys.toList [(0, 3), (1, 3), (2, 3), (3, 3)] := by kernel_rfl
theorem agg_24 : aggOf E 24 = some none := by kernel_rfl
theorem size_24 : E.size 24 = some 1 := by kernel_rfl
theorem ia_24 (r o n c : Nat) (k : IntKind) (i : Int) : indexAddrV E 24 (.slice (some ⟨r, o, none⟩) n c) (.int k i) = (at? i n).bind fun i => some (ptr r (o + i * 1)) := by kernel_rfl
theorem len_24 (H : Heap) (a : Option Addr) (n c : Nat) : builtinV E H .len [24] [.slice a n c] = some (.int .i64 n, H) := by kernel_rfl
theorem app_24 (H : Heap) (s : Value) (a : Option Addr) (n c : Nat) : builtinV E H .append [24, 24] [s, .slice a n c] = (cellsOf H (n * 1) (.slice a n c)).bind fun l => appendV E H 41 s n l := by kernel_rfl
theorem appT_24 (H : Heap) (s : Value) (k : Nat) (new : List Value) : appendV E H 41 s k new = appendT 1 8 H s k new := by kernel_rfl
theorem bs_24 (T : Tr Value) (H : Heap) (len : Nat) (ps : List (Nat × Operand)) : buildSliceV E T H 24 len ps = bif (!Nat.ble (len * 1) 10000000 || false) then none else (evParts T (fun k => some (k * 1, 1)) ps).bind fun ps => (fillV (repeatCells [(.int .u64 0)] len) ps).bind fun l => some (.slice (some ⟨H.next, 0, none⟩) len len, H.newRow l) := by kernel_rfl
theorem agg_25 : aggOf E 25 = some none := by kernel_rfl
theorem size_25 : E.size 25 = some 1 := by kernel_rfl
theorem ia_25 (r o n c : Nat) (k : IntKind) (i : Int) : indexAddrV E 25 (.slice (some ⟨r, o, none⟩) n c) (.int k i) = (at? i n).bind fun i => some (ptr r (o + i * 2)) := by kernel_rfl
theorem len_25 (H : Heap) (a : Option Addr) (n c : Nat) : builtinV E H .len [25] [.slice a n c] = some (.int .i64 n, H) := by kernel_rfl
theorem app_25 (H : Heap) (s : Value) (a : Option Addr) (n c : Nat) : builtinV E H .append [25, 25] [s, .slice a n c] = (cellsOf H (n * 2) (.slice a n c)).bind fun l => appendV E H 65 s n l := by kernel_rfl
theorem appT_25 (H : Heap) (s : Value) (k : Nat) (new : List Value) : appendV E H 65 s k new = appendT 2 16 H s k new := by kernel_rfl
theorem bs_25 (T : Tr Value) (H : Heap) (len : Nat) (ps : List (Nat × Operand)) : buildSliceV E T H 25 len ps = bif (!Nat.ble (len * 2) 10000000 || false) then none else (evParts T (fun k => some (k * 2, 2)) ps).bind fun ps => (fillV (repeatCells [(.int .i64 0), (.int .i64 0)] len) ps).bind fun l => some (.slice (some ⟨H.next, 0, none⟩) len len, H.newRow l) := by kernel_rfl
theorem eqnil_25 (d : Nat) (a : Option Addr) (n c n' c' : Nat) : eqV E (d + 1) 25 (.slice none n c) (.slice a n' c') = some a.isNone := by kernel_rfl
theorem agg_26 : aggOf E 26 = some none := by kernel_rfl
theorem size_26 : E.size 26 = some 1 := by kernel_rfl
theorem ia_26 (r o n c : Nat) (k : IntKind) (i : Int) : indexAddrV E 26 (.slice (some ⟨r, o, none⟩) n c) (.int k i) = (at? i n).bind fun i => some (ptr r (o + i * 3)) := by kernel_rfl
theorem len_26 (H : Heap) (a : Option Addr) (n c : Nat) : builtinV E H .len [26] [.slice a n c] = some (.int .i64 n, H) := by kernel_rfl
theorem app_26 (H : Heap) (s : Value) (a : Option Addr) (n c : Nat) : builtinV E H .append [26, 26] [s, .slice a n c] = (cellsOf H (n * 3) (.slice a n c)).bind fun l => appendV E H 68 s n l := by kernel_rfl
theorem appT_26 (H : Heap) (s : Value) (k : Nat) (new : List Value) : appendV E H 68 s k new = appendT 3 24 H s k new := by kernel_rfl
theorem bs_26 (T : Tr Value) (H : Heap) (len : Nat) (ps : List (Nat × Operand)) : buildSliceV E T H 26 len ps = bif (!Nat.ble (len * 3) 10000000 || false) then none else (evParts T (fun k => some (k * 3, 3)) ps).bind fun ps => (fillV (repeatCells [(.bool false), (.int .i64 0), (.int .u64 0)] len) ps).bind fun l => some (.slice (some ⟨H.next, 0, none⟩) len len, H.newRow l) := by kernel_rfl
theorem eqnil_26 (d : Nat) (a : Option Addr) (n c n' c' : Nat) : eqV E (d + 1) 26 (.slice none n c) (.slice a n' c') = some a.isNone := by kernel_rfl
theorem agg_28 : aggOf E 28 = some (some 10) := by kernel_rfl
theorem size_28 : E.size 28 = some 10 := by kernel_rfl
theorem zero_28 : zeroOf E 28 = some (.agg #[(.int .i64 0), (.int .i64 0), (.int .i64 0), (.int .i64 0), (.bool false), (.slice none 0 0), (.int .i64 0), (.slice none 0 0), (.slice none 0 0), (.slice none 0 0)]) := by kernel_rfl
theorem fa_28_0 (r o : Nat) : fieldAddrV E 28 (ptr r o) 0 = some (ptr r (o + 0)) := by kernel_rfl
theorem fa_28_1 (r o : Nat) : fieldAddrV E 28 (ptr r o) 1 = some (ptr r (o + 4)) := by kernel_rfl
theorem fa_28_2 (r o : Nat) : fieldAddrV E 28 (ptr r o) 2 = some (ptr r (o + 5)) := by kernel_rfl
theorem fa_28_3 (r o : Nat) : fieldAddrV E 28 (ptr r o) 3 = some (ptr r (o + 6)) := by kernel_rfl
theorem fa_28_4 (r o : Nat) : fieldAddrV E 28 (ptr r o) 4 = some (ptr r (o + 7)) := by kernel_rfl
theorem fa_28_5 (r o : Nat) : fieldAddrV E 28 (ptr r o) 5 = some (ptr r (o + 8)) := by kernel_rfl
theorem fa_28_6 (r o : Nat) : fieldAddrV E 28 (ptr r o) 6 = some (ptr r (o + 9)) := by kernel_rfl
theorem lit_28 (T : Tr Value) (ps : List (Nat × Operand)) : structLit E T 28 ps = (evParts T (fun k => [(0, 4), (4, 1), (5, 1), (6, 1), (7, 1), (8, 1), (9, 1)][k]?) ps).bind fun ps => (fillV [(.int .i64 0), (.int .i64 0), (.int .i64 0), (.int .i64 0), (.bool false), (.slice none 0 0), (.int .i64 0), (.slice none 0 0), (.slice none 0 0), (.slice none 0 0)] ps).bind fun l => some (.agg l.toArray) := by kernel_rfl
theorem agg_31 : aggOf E 31 = some none := by kernel_rfl
theorem size_31 : E.size 31 = some 1 := by kernel_rfl
theorem ia_31 (r o n c : Nat) (k : IntKind) (i : Int) : indexAddrV E 31 (.slice (some ⟨r, o, none⟩) n c) (.int k i) = (at? i n).bind fun i => some (ptr r (o + i * 2)) := by kernel_rfl
theorem len_31 (H : Heap) (a : Option Addr) (n c : Nat) : builtinV E H .len [31] [.slice a n c] = some (.int .i64 n, H) := by kernel_rfl
theorem app_31 (H : Heap) (s : Value) (a : Option Addr) (n c : Nat) : builtinV E H .append [31, 31] [s, .slice a n c] = (cellsOf H (n * 2) (.slice a n c)).bind fun l => appendV E H 43 s n l := by kernel_rfl
theorem appT_31 (H : Heap) (s : Value) (k : Nat) (new : List Value) : appendV E H 43 s k new = appendT 2 16 H s k new := by kernel_rfl
theorem bs_31 (T : Tr Value) (H : Heap) (len : Nat) (ps : List (Nat × Operand)) : buildSliceV E T H 31 len ps = bif (!Nat.ble (len * 2) 10000000 || false) then none else (evParts T (fun k => some (k * 2, 2)) ps).bind fun ps => (fillV (repeatCells [(.int .i64 0), (.int .u64 0)] len) ps).bind fun l => some (.slice (some ⟨H.next, 0, none⟩) len len, H.newRow l) := by kernel_rfl
theorem agg_33 : aggOf E 33 = some (some 11) := by kernel_rfl
theorem size_33 : E.size 33 = some 11 := by kernel_rfl
theorem zero_33 : zeroOf E 33 = some (.agg #[(.int .i64 0), (.int .i64 0), (.int .i64 0), (.int .i64 0), (.bool false), (.int .i64 0), (.int .i64 0), (.slice none 0 0), (.slice none 0 0), (.slice none 0 0), (.slice none 0 0)]) := by kernel_rfl
theorem fa_33_0 (r o : Nat) : fieldAddrV E 33 (ptr r o) 0 = some (ptr r (o + 0)) := by kernel_rfl
theorem fa_33_1 (r o : Nat) : fieldAddrV E 33 (ptr r o) 1 = some (ptr r (o + 4)) := by kernel_rfl
theorem fa_33_2 (r o : Nat) : fieldAddrV E 33 (ptr r o) 2 = some (ptr r (o + 5)) := by kernel_rfl
theorem fa_33_3 (r o : Nat) : fieldAddrV E 33 (ptr r o) 3 = some (ptr r (o + 6)) := by kernel_rfl
theorem fa_33_4 (r o : Nat) : fieldAddrV E 33 (ptr r o) 4 = some (ptr r (o + 7)) := by kernel_rfl
theorem fa_33_5 (r o : Nat) : fieldAddrV E 33 (ptr r o) 5 = some (ptr r (o + 8)) := by kernel_rfl
theorem fa_33_6 (r o : Nat) : fieldAddrV E 33 (ptr r o) 6 = some (ptr r (o + 9)) := by kernel_rfl
theorem fa_33_7 (r o : Nat) : fieldAddrV E 33 (ptr r o) 7 = some (ptr r (o + 10)) := by kernel_rfl
theorem lit_33 (T : Tr Value) (ps : List (Nat × Operand)) : structLit E T 33 ps = (evParts T (fun k => [(0, 4), (4, 1), (5, 1), (6, 1), (7, 1), (8, 1), (9, 1), (10, 1)][k]?) ps).bind fun ps => (fillV [(.int .i64 0), (.int .i64 0), (.int .i64 0), (.int .i64 0), (.bool false), (.int .i64 0), (.int .i64 0), (.slice none 0 0), (.slice none 0 0), (.slice none 0 0), (.slice none 0 0)] ps).bind fun l => some (.agg l.toArray) := by kernel_rfl
theorem ia_40 (r o n c : Nat) (k : IntKind) (i : Int) : indexAddrV E 40 (.slice (some ⟨r, o, none⟩) n c) (.int k i) = (at? i n).bind fun i => some (ptr r (o + i * 1)) := by kernel_rfl
theorem len_40 (H : Heap) (a : Option Addr) (n c : Nat) : builtinV E H .len [40] [.slice a n c] = some (.int .i64 n, H) := by kernel_rfl
theorem app_40 (H : Heap) (s : Value) (a : Option Addr) (n c : Nat) : builtinV E H .append [40, 40] [s, .slice a n c] = (cellsOf H (n * 1) (.slice a n c)).bind fun l => appendV E H 3 s n l := by kernel_rfl
theorem appT_40 (H : Heap) (s : Value) (k : Nat) (new : List Value) : appendV E H 3 s k new = appendT 1 8 H s k new := by kernel_rfl
theorem bs_40 (T : Tr Value) (H : Heap) (len : Nat) (ps : List (Nat × Operand)) : buildSliceV E T H 40 len ps = bif (!Nat.ble (len * 1) 10000000 || false) then none else (evParts T (fun k => some (k * 1, 1)) ps).bind fun ps => (fillV (repeatCells [(.int .i64 0)] len) ps).bind fun l => some (.slice (some ⟨H.next, 0, none⟩) len len, H.newRow l) := by kernel_rfl
theorem agg_41 : aggOf E 41 = some none := by kernel_rfl
theorem size_41 : E.size 41 = some 1 := by kernel_rfl
theorem part_41 (cs : List Value) (o : Nat) : partV E 41 cs o = cs[o]? := by kernel_rfl
theorem eq_41 (d : Nat) (a b : Int) : eqV E (d + 1) 41 (.int .u64 a) (.int .u64 b) = some (eqI a b) := by kernel_rfl
theorem agg_43 : aggOf E 43 = some (some 2) := by kernel_rfl
theorem size_43 : E.size 43 = some 2 := by kernel_rfl
theorem zero_43 : zeroOf E 43 = some (.agg #[(.int .i64 0), (.int .u64 0)]) := by kernel_rfl
theorem fa_43_0 (r o : Nat) : fieldAddrV E 43 (ptr r o) 0 = some (ptr r (o + 0)) := by kernel_rfl
theorem fa_43_1 (r o : Nat) : fieldAddrV E 43 (ptr r o) 1 = some (ptr r (o + 1)) := by kernel_rfl
theorem lit_43 (T : Tr Value) (ps : List (Nat × Operand)) : structLit E T 43 ps = (evParts T (fun k => [(0, 1), (1, 1)][k]?) ps).bind fun ps => (fillV [(.int .i64 0), (.int .u64 0)] ps).bind fun l => some (.agg l.toArray) := by kernel_rfl
theorem agg_65 : aggOf E 65 = some (some 2) := by kernel_rfl
theorem eq_65 (d : Nat) (xs ys : Array Value) : eqV E (d + 1) 65 (.agg xs) (.agg ys) = eqFields E (eqV E d) xs.toList ys.toList [(0, 3), (1, 3)] := by kernel_rfl
theorem agg_68 : aggOf E 68 = some (some 3) := by kernel_rfl
theorem eq_68 (d : Nat) (xs ys : Array Value) : eqV E (d + 1) 68 (.agg xs) (.agg ys) = eqFields E (eqV E d) xs.toList ys.toList [(0, 4), (1, 3), (2, 41)] := by kernel_rfl
theorem conv_3_41 (k : IntKind) (n : Int) : convV E 3 41 (.int k n) = intR .u64 n := by kernel_rfl
end Go.AM
