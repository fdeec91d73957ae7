/-
  Walks over letters of the functions that the law reaches.
-/
import Derived.Test.YtbpneihjlledpaaGreatDoorO4
import Derived.Test.YtbpneihjlledpaaGreatDoorAMc
set_option linter.unusedVariables false
set_option linter.unusedSectionVars false
namespace Go.AM
variable [Orc13]
attribute [local instance] fnMaps
open Go Go.Proofs
set_option maxRecDepth 100000
set_option maxHeartbeats 4000000
set_option linter.unusedSimpArgs false
def B (l : List UInt8) : ByteArray := ⟨l.toArray⟩
theorem mkB (a : Array UInt8) : (⟨a⟩ : ByteArray) = B a.toList := by unfold B; rw [Array.toArray_toList]
theorem B_of (s : ByteArray) : s = B s.data.toList := mkB s.data
theorem B_list (l : List UInt8) : (B l).data.toList = l := by simp [B]
theorem B_size (l : List UInt8) : (B l).size = l.length := by rw [size_len, B_list]
theorem B_ext (l : List UInt8) (i j : Nat) : (B l).extract i j = B ((l.drop i).take (j - i)) := by
  rw [B_of ((B l).extract i j), Lib.extract_data, B_list]
theorem B_eq (a b : List UInt8) : eqBytes (B a) (B b) = decide (a = b) := by
  unfold eqBytes
  rw [Lib.toList_data, Lib.toList_data, B_list, B_list, Bool.eq_iff_iff, beq_iff_eq, decide_eq_true_iff]
theorem B_app (a b : List UInt8) : B a ++ B b = B (a ++ b) := by
  rw [B_of (B a ++ B b), ByteArray.data_append, Array.toList_append, B_list, B_list]
section
variable {E : Env}
theorem add_B (t : TypeId) (x y : Operand) (a b : List UInt8) (h : a.length + b.length ≤ 1000000000) : binV E .add t x y (.string (B a)) (.string (B b)) = some (.string (B (a ++ b))) := by
  show strOp .add (B a) (B b) = _
  unfold strOp
  rw [B_size, B_size, Nat.ble_eq_true_of_le h, B_app]; rfl
theorem eq_B (t : TypeId) (x y : Operand) (a b : List UInt8) : binV E .eql t x y (.string (B a)) (.string (B b)) = some (.bool (decide (a = b))) := by rw [bin_seq, B_eq]
theorem ne_B (t : TypeId) (x y : Operand) (a b : List UInt8) : binV E .neq t x y (.string (B a)) (.string (B b)) = some (.bool (!decide (a = b))) := by
  show strOp .neq (B a) (B b) = _
  unfold strOp
  rw [B_eq]
end
theorem toL {α : Type} (l : List α) : l.toArray.toList = l := rfl
theorem len_c (a : UInt8) (l : List UInt8) : (a :: l).length = l.length + 1 := rfl
theorem len_n : ([] : List UInt8).length = 0 := rfl
theorem len_a (a b : List UInt8) : (a ++ b).length = a.length + b.length := List.length_append
set_option linter.defProp false
def lenS := And.intro @len_c <| And.intro @len_n @len_a
def sS := And.intro @mkB <| And.intro @toL <| And.intro @B_list <| And.intro @B_size <| And.intro @B_ext <| And.intro @B_eq <| And.intro @add_B <| And.intro @eq_B <| And.intro @ne_B <| And.intro @ix_str <| And.intro @wrap_u64 <| And.intro @cellsV_str @isCell_str
def hexD (n : Nat) : UInt8 := if n < 10 then UInt8.ofNat (48 + n) else UInt8.ofNat (87 + n)
def wd : Nat → Nat → Nat
  | 0, w => w
  | k + 1, w => wd k w / 16
def hexT : Nat → Nat → List UInt8
  | 0, _ => []
  | k + 1, w => hexD (wd k w % 16) :: hexT k w
theorem hexT_len : ∀ k w, (hexT k w).length = k
  | 0, _ => rfl
  | k + 1, w => by unfold hexT; rw [List.length_cons, hexT_len k w]
theorem wd_lt (w : Nat) (h : w < 2 ^ 64) : ∀ k, wd k w < 2 ^ 64
  | 0 => h
  | k + 1 => Nat.lt_of_le_of_lt (Nat.div_le_self _ _) (wd_lt w h k)
def hex16 : List UInt8 := [48, 49, 50, 51, 52, 53, 54, 55, 56, 57, 97, 98, 99, 100, 101, 102]
theorem hex_all : ∀ n : _root_.Fin 16, hex16[n.1]? = some (hexD n.1) ∧ (hex16.drop n.1).take 1 = [hexD n.1] ∧ (hexD n.1).toNat < 128 := by decide
theorem hex_pick {n : Nat} (h : n < 16) : hex16[n]? = some (hexD n) := (hex_all ⟨n, h⟩).1
theorem hex16_eq : [48, 49, 50, 51, 52, 53, 54, 55, 56, 57, 97, 98, 99, 100, 101, 102] = hex16 := rfl
theorem hex16_len : hex16.length = 16 := rfl
theorem wd_pow (w : Nat) : ∀ k, wd k w = w / 2 ^ (4 * k)
  | 0 => by simp [wd]
  | k + 1 => by
    rw [wd, wd_pow w k, Nat.div_div_eq_div_mul, Nat.mul_add, Nat.pow_add]
theorem hexT_get (w : Nat) : ∀ k i, i < k → (hexT k w)[i]? = some (hexD (wd (k - 1 - i) w % 16))
  | k + 1, 0, _ => by simp [hexT]
  | k + 1, i + 1, h => by
    have := hexT_get w k i (by omega)
    rw [hexT, List.getElem?_cons_succ, this]
    congr 4
    omega
theorem bv_nat {a : Nat} (h : a < 2 ^ 64) : (BitVec.ofInt 64 (a : Int)).toNat = a := by
  rw [BitVec.ofInt_natCast, BitVec.toNat_ofNat, Nat.mod_eq_of_lt h]
theorem and_nat {a b : Nat} (ha : a < 2 ^ 64) (hb : b < 2 ^ 64) : intOp .and .u64 (a : Int) (b : Int) = some (.int .u64 ((a &&& b : Nat) : Int)) := by
  have e : intOp .and .u64 (a : Int) (b : Int) = intR .u64 (((BitVec.ofInt 64 (a : Int) &&& BitVec.ofInt 64 (b : Int)).toNat : Nat) : Int) := rfl
  rw [e, BitVec.toNat_and, bv_nat ha, bv_nat hb, intR_some, wrap_u64 (by omega)]
  have : a &&& b ≤ a := Nat.and_le_left
  have h64 : (2 : Nat) ^ 64 = 18446744073709551616 := by decide
  omega
theorem or_nat {a b : Nat} (ha : a < 2 ^ 64) (hb : b < 2 ^ 64) : intOp .or .u64 (a : Int) (b : Int) = some (.int .u64 ((a ||| b : Nat) : Int)) := by
  have e : intOp .or .u64 (a : Int) (b : Int) = intR .u64 (((BitVec.ofInt 64 (a : Int) ||| BitVec.ofInt 64 (b : Int)).toNat : Nat) : Int) := rfl
  rw [e, BitVec.toNat_or, bv_nat ha, bv_nat hb, intR_some, wrap_u64 (by omega)]
  have : a ||| b < 2 ^ 64 := Nat.or_lt_two_pow ha hb
  have h64 : (2 : Nat) ^ 64 = 18446744073709551616 := by decide
  omega
theorem bits64 : IntKind.u64.bits = 64 := rfl
theorem shr_nat {a n : Nat} (ha : a < 2 ^ 64) (hn : n < 64) : shiftOp .shr .u64 (a : Int) (n : Int) = some (.int .u64 ((a / 2 ^ n : Nat) : Int)) := by
  rw [shift_shr _ _ _ (by omega), bits64, Int.toNat_natCast, Nat.min_eq_left (by omega)]
  congr 2
  rw [Int.fdiv_eq_ediv_of_nonneg _ (Int.pow_nonneg (by decide))]
  norm_cast
theorem and_15 {w : Nat} (h : w < 2 ^ 64) : intOp .and .u64 (w : Int) 15 = some (.int .u64 ((w % 16 : Nat) : Int)) := by
  have e : intOp .and .u64 (w : Int) ((15 : Nat) : Int) = _ := and_nat h (by omega)
  rw [show (w &&& 15 : Nat) = w % 16 from Nat.and_two_pow_sub_one_eq_mod w 4] at e
  exact e
def u8V (b : UInt8) : Value := .int .u8 b.toNat
theorem bytesOf_map : ∀ l : List UInt8, bytesOf (l.map u8V) = some (l.map fun b => (b.toNat : Int))
  | [] => rfl
  | b :: l => by rw [List.map_cons]; show (bytesOf (l.map u8V)).bind _ = _; rw [bytesOf_map l]; rfl
theorem bytesV_map (l : List UInt8) : bytesV (l.map fun b => (b.toNat : Int)) = B l := by
  have h : ∀ (l : List UInt8) (s : ByteArray), (l.map fun b => (b.toNat : Int)).foldl (fun r n => r.push (UInt8.ofNat n.toNat)) s = ⟨s.data ++ l.toArray⟩ := by
    intro l
    induction l with
    | nil => intro s; simp
    | cons b l ih =>
      intro s
      rw [List.map_cons, List.foldl_cons, ih]
      congr 1
      simp [ByteArray.push]
  unfold bytesV
  rw [h]
  unfold B
  exact congrArg ByteArray.mk (Array.empty_append)
def hexRow (i w : Nat) : List Value := ((hexT 16 w).map u8V).take i ++ List.replicate (16 - i) (.int .u8 0)
theorem hexRow_len {i w : Nat} (h : i ≤ 16) : (hexRow i w).length = 16 := by
  unfold hexRow; rw [List.length_append, List.length_take, List.length_map, hexT_len, List.length_replicate]; omega
theorem hexRow_set {i w : Nat} (h : i < 16) : (hexRow i w).set i (.int .u8 (hexD (wd (15 - i) w % 16)).toNat) = hexRow (i + 1) w := by
  have hl : (((hexT 16 w).map u8V).take i).length = i := by rw [List.length_take, List.length_map, hexT_len]; omega
  have hg := hexT_get w 16 i h
  have hg' : ((hexT 16 w).map u8V)[i]? = some (.int .u8 (hexD (wd (15 - i) w % 16)).toNat) := by rw [List.getElem?_map, hg]; rfl
  unfold hexRow
  rw [List.set_append_right _ _ (by omega), hl, Nat.sub_self, show 16 - i = (16 - (i + 1)) + 1 by omega, List.replicate_succ, List.set_cons_zero, List.take_add_one, hg', Option.toList_some, List.append_assoc]
  rfl
theorem hexRow_end (w : Nat) : hexRow 16 w = (hexT 16 w).map u8V := by
  unfold hexRow
  rw [List.take_of_length_le (by rw [List.length_map, hexT_len]; exact Nat.le_refl _)]
  simp
def arrS (r o : Nat) : Option AObj → Option Value
  | some (.row _ none _) => some (.slice (some ⟨r, o, none⟩) 16 16)
  | _ => none
theorem arrS_row (r o : Nat) (c : List Value) (t : Bool) : arrS r o (some (.row c none t)) = some (.slice (some ⟨r, o, none⟩) 16 16) := Eq.trans rfl rfl
theorem sl_arr (H : Heap) (r o : Nat) : sliceV E H 92 (ptr r o) none none none = arrS r (o + 0 * 1) (H.objs.get r) := by
  have e : sliceV E H 92 (ptr r o) none none none = match H.objs.get r with
    | some (.row _ none _) => some (.slice (some ⟨r, o + 0 * 1, none⟩) 16 16)
    | _ => none := by kernel_rfl
  rw [e]
  unfold arrS
  split <;> rfl
theorem fn42 : E.fn.get 42 = some Tryz.f42 := by kernel_rfl
theorem whex_ok (H : Heap) (hlo : H.lo ≤ H.next) (w : Nat) (hw : w < 2 ^ 64) : CallA E (fnv 42) [.int .u64 w] H fun r H' => r = .string (B (hexT 16 w)) ∧ Same H H' := by
  refine callA_fn (by kernel_rfl) fn42 rfl rfl ?_
  simp only [Tryz.f42]
  repeat' (first | refine boolP_dec (fun _ => ?_) (fun _ => ?_) | apply boolP_not | refine boolP_b (fun _ => ?_) (fun _ => ?_) | ((with_reducible show Qs _ _ _ _ _); first | refine hQe _ _ _ _ ?_ | refine hQr _ _ _ ?_) | simp (maxSteps := 1000000) (disch := first | omega | (simp only [lenS, *]; omega)) only [↓sgg, sww, simprocAttr, sa, sS, *])
  refine wps_named2 (fun T1 H1 eT eH => ?_)
  have k1 : Ko H H1 := by rw [eH]; exact koW
  have n1 := congrArg Heap.next eH; have l1 := congrArg Heap.lo eH; have g1 := fun r => congrArg (fun h : Heap => h.objs.get r) eH
  try simp (disch := omega) only [sm, sl] at n1 l1 g1
  clear eH
  have u1_0 := congrArg (fun T : Tr Value => T.get 0) eT
  have u1_3 := congrArg (fun T : Tr Value => T.get 3) eT
  have u1_5 := congrArg (fun T : Tr Value => T.get 5) eT
  simp only [get_set, of_nil, of_1, of_2, of_3, of_4, of_5, Nat.reduceEqDiff, if_true, if_false, reduceIte] at u1_0 u1_3 u1_5
  clear eT
  refine wp_loopN (by kernel_rfl) (fun nn T X => ∃ i : Nat, nn = 16 - i ∧ (T.get 5 = some (.int .i64 i)) ∧ (T.get 0 = T1.get 0 ∧ T.get 3 = T1.get 3) ∧ True ∧ True ∧ (i ≤ 16 ∧ Ko H X ∧ X.lo = H.lo ∧ X.next = H.next + 1 ∧ X.objs.get H.next = some (.row (hexRow i w) none true))) ?_ ?_
  · refine ⟨_, 0, rfl, ?_, ?_, trivial, trivial, ⟨Nat.zero_le _, koW, by omega, by omega, by rw [g1]; simp [hexRow]⟩⟩ <;> exact nextW
  rintro nn T1' X1 ⟨i, rfl, m1, w1, _, _, ⟨hi, kX, lX, nX, rX⟩⟩ Qs hQ hQr hQe
  by_cases hlt : i < 16
  · have hl := hexRow_len (w := w) hi
    have hset := hexRow_set (w := w) hlt
    have hq := wd_lt w hw (15 - i)
    have hp := wd_pow w (15 - i)
    have hu : wd (15 - i) w % 16 < 16 := Nat.mod_lt _ (by decide)
    have e4 : (4 : Int) * (15 - (i : Int)) = ((4 * (15 - i) : Nat) : Int) := by omega
    have hs := shr_nat hw (show 4 * (15 - i) < 64 by omega)
    rw [← hp] at hs
    have ha := and_15 hq
    have hc := hex_pick hu
    have a1 := at_nat (i := wd (15 - i) w % 16) (n := 16) hu
    have a2 := at_nat hlt
    clear hp g1
    generalize wd (15 - i) w % 16 = u at ha hc a1 hset
    repeat' (first | refine boolP_dec (fun _ => ?_) (fun _ => ?_) | apply boolP_not | refine boolP_b (fun _ => ?_) (fun _ => ?_) | ((with_reducible show Qs _ _ _ _ _); first | refine hQe _ _ _ _ ?_ | refine hQr _ _ _ ?_) | simp (maxSteps := 1000000) (disch := first | omega | (simp only [lenS, *]; omega)) only [↓sgg, sww, simprocAttr, sa, sS, hex16_eq, hex16_len, over_one, *])
    all_goals first
      | (refine hQ _ _ _ ?_ ⟨i + 1, rfl, ?_, ?_, trivial, trivial, ⟨by omega, koW, by rw [setRow_lo]; exact lX, by rw [setRow_next]; exact nX, by rw [setRow_get]; simp⟩⟩ <;> exact nextW)
      | omega
  · have : i = 16 := by omega
    subst this
    rw [hexRow_end] at rX
    have hc : cut ((hexT 16 w).map u8V) 0 16 = some ((hexT 16 w).map u8V) := by
      rw [cut_eq, if_pos (by rw [List.length_map, hexT_len]; omega), List.drop_zero, List.take_of_length_le (by rw [List.length_map, hexT_len]; omega)]
    clear g1
    repeat' (first | refine boolP_dec (fun _ => ?_) (fun _ => ?_) | apply boolP_not | refine boolP_b (fun _ => ?_) (fun _ => ?_) | ((with_reducible show Qs _ _ _ _ _); first | refine hQe _ _ _ _ ?_ | refine hQr _ _ _ ?_) | simp (maxSteps := 1000000) (disch := first | omega | (simp only [lenS, *]; omega)) only [↓sgg, sww, simprocAttr, sa, sS, sl_arr, arrS_row, bytesOf_map, bytesV_map, Nat.zero_mul, *])
    all_goals first
      | (first | (with_reducible exact sameW) | ((with_reducible show _ ∧ _); exact ⟨by first | rfl | (simp [*] <;> omega), sameW⟩))
      | omega
end Go.AM
