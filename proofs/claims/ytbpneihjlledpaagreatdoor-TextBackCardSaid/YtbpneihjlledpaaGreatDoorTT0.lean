/-
  Calls of the library that are told: their answers, as functions (definitions alone).
-/
import Derived.Test.YtbpneihjlledpaaGreatDoorAMk
import Derived.Lib.ItoaMem
import Derived.Lib.AtoiAll
import Derived.Lib.Join
import Derived.Lib.Strings
import Derived.Lib.SplitLaws
set_option linter.unusedSimpArgs false
set_option linter.unusedVariables false
set_option linter.unusedSectionVars false
namespace Go.AM
def digs : Nat → Nat → List UInt8 → List UInt8
  | 0, _, l => l
  | k + 1, u, l => bif Nat.blt u 10 then UInt8.ofNat (48 + u) :: l else digs k (u / 10) (UInt8.ofNat (48 + u % 10) :: l)
def itoaC (n : Int) : List UInt8 := match n with
  | .ofNat u => digs 20 u []
  | .negSucc u => 45 :: digs 20 (u + 1) []
theorem digs_eq : ∀ (k u : Nat) (l : List UInt8), u < 10 ^ k → 0 < k → digs k u l = Lib.decDigits u ++ l
  | 0, _, _, _, h => absurd h (Nat.lt_irrefl 0)
  | k + 1, u, l, h, _ => by
    unfold digs
    rw [Lib.decDigits]
    by_cases hu : u < 10
    · rw [dif_pos hu, show Nat.blt u 10 = true from by rw [Nat.blt_eq]; exact hu]; rfl
    · rw [dif_neg hu, show Nat.blt u 10 = false from by rw [← Bool.not_eq_true, Nat.blt_eq]; exact hu]
      have hk : 0 < k := Nat.pos_of_ne_zero fun e => by subst e; omega
      have h2 : u / 10 < 10 ^ k := by rw [Nat.pow_succ] at h; omega
      rw [cond_false, digs_eq k (u / 10) _ h2 hk, List.append_assoc]; rfl
theorem itoaC_eq {n : Int} (h0 : -9223372036854775808 ≤ n) (h1 : n ≤ 9223372036854775807) : itoaC n = Lib.itoa n := by
  cases n with
  | ofNat u =>
    have hu : u < 10 ^ 20 := by have : (u : Int) ≤ 9223372036854775807 := h1; omega
    show digs 20 u [] = Lib.itoa (u : Int)
    rw [Lib.itoa_nonneg, digs_eq 20 u [] hu (by decide), List.append_nil]
  | negSucc u =>
    have hu : u + 1 < 10 ^ 20 := by omega
    show 45 :: digs 20 (u + 1) [] = Lib.itoa (-((u + 1 : Nat) : Int))
    rw [Lib.itoa_neg (u + 1) (by omega), digs_eq 20 (u + 1) [] hu (by decide), List.append_nil]
def splitC (c : UInt8) : List UInt8 → List (List UInt8)
  | [] => [[]]
  | x :: l => bif x == c then [] :: splitC c l else
    match splitC c l with
    | [] => [[x]]
    | p :: r => (x :: p) :: r
def strV (l : List UInt8) : Value := .string ⟨l.toArray⟩
def strsOf : List Value → Option (List ByteArray)
  | [] => some []
  | .string s :: l => (strsOf l).bind fun r => some (s :: r)
  | _ => none
def joinC (sep : List UInt8) : List (List UInt8) → List UInt8
  | [] => []
  | x :: l => x ++ (l.map (sep ++ ·)).flatten
theorem joinC_eq (sep : List UInt8) (l : List (List UInt8)) : joinC sep l = Lib.join l sep := by
  cases l with
  | nil => rfl
  | cons x l => rw [Lib.join_cons]; rfl
def okI (n : Int) : Bool := leI (-9223372036854775808) n && leI n 9223372036854775807
section
variable [Maps]
def atoiV (l : List UInt8) (H : Heap) : Value × Heap :=
  match Lib.atoiAll l with
  | .ok v => (.tuple #[.int .i64 v, .nilIface], H)
  | Lib.NumEnd.syntax => (.tuple #[.int .i64 0, .iface 198 (ptr H.next 0)], H.newRow [])
  | .range => (.tuple #[.int .i64 (Lib.atoiSat l), .iface 198 (ptr H.next 0)], H.newRow [])
def tAtoi : Told := ⟨82, fun args H => match args with
  | [.string s] => bif Nat.ble s.size 1000000000 then some (atoiV s.data.toList H) else none
  | _ => none⟩
def tItoa : Told := ⟨40, fun args H => match args with
  | [.int .i64 n] => bif okI n then some (strV (itoaC n), H) else none
  | _ => none⟩
def tForm : Told := ⟨56, fun args H => match args with
  | [.int .i64 n, .int .i64 10] => bif okI n then some (strV (itoaC n), H) else none
  | _ => none⟩
def tCut : Told := ⟨83, fun args H => match args with
  | [.string s, .string p] => some (.tuple #[strV (Lib.trimPrefix s.data.toList p.data.toList), .bool (Lib.hasPrefix s.data.toList p.data.toList)], H)
  | _ => none⟩
def tJoin : Told := ⟨22, fun args H => match args with
  | [.slice (some ⟨r, o, none⟩) n c, .string sep] => bif !(Nat.ble n c && Nat.ble n 1000000000) then none else
    (cellsOf H n (.slice (some ⟨r, o, none⟩) n c)).bind fun l => (strsOf l).bind fun xs =>
    bif Nat.ble (joinC sep.data.toList (xs.map (·.data.toList))).length 1000000000 then some (strV (joinC sep.data.toList (xs.map (·.data.toList))), H) else none
  | _ => none⟩
def tSplit : Told := ⟨31, fun args H => match args with
  | [.string s, .string sep] =>
    match sep.data.toList with
    | [c] => bif Nat.ble s.size 1000000000 then some (.slice (some ⟨H.next, 0, none⟩) (splitC c s.data.toList).length (splitC c s.data.toList).length, H.newRow ((splitC c s.data.toList).map strV)) else none
    | _ => none
  | _ => none⟩
def tolds : List Told := [tAtoi, tItoa, tForm, tCut, tJoin, tSplit]
end
end Go.AM
