/-
  Walks over letters of the functions that the law reaches.
-/
import Derived.Test.YtfaplhodeekjnaaGreatHA
set_option linter.unusedSimpArgs false
namespace Go.AM
attribute [local instance] fnMaps
open Go Go.Proofs
set_option maxRecDepth 100000
def hdL (F k : Nat) : Hd := ⟨7, F, 0, false, k⟩
def hwL (F k : Nat) : Nat := wH (hdL F k) 5
theorem hdL_ok : ∀ F, F < 5 → ∀ k, k < 6 → okH (hdL F k) = true := by decide +kernel
theorem hdL_is : ∀ F, F < 5 → ∀ k, k < 6 → isHd (hwL F k) = true := by decide +kernel
theorem hdL_ref : ∀ F, F < 5 → ∀ k, k < 6 → refW (hwL F k) = none := by decide +kernel
theorem hdL_cells : ∀ F, F < 5 → ∀ k, k < 6 → (decHd (hwL F k)).kind = 7 ∧ (decHd (hwL F k)).fields = F ∧ (decHd (hwL F k)).raws = 0 ∧ (decHd (hwL F k)).mark = false ∧ (decHd (hwL F k)).cursor = k := by decide +kernel
theorem hdL_dec (F : Nat) (hF : F < 5) (k : Nat) (hk : k < 6) : decHd (hwL F k) = hdL F k := by
  obtain ⟨h1, h2, h3, h4, h5⟩ := hdL_cells F hF k hk
  cases hd : decHd (hwL F k) with
  | mk a b c d e =>
    rw [hd] at h1 h2 h3 h4 h5
    simp only at h1 h2 h3 h4 h5
    subst h1 h2 h3 h4 h5
    rfl
theorem hdL_size (F : Nat) (hF : F < 5) (k : Nat) (hk : k < 6) : sizeH (hdL F k) = F + 1 := by
  rw [sizeH, if_pos (hdL_ok F hF k hk)]
  show (1 : Int) + F + 0 = F + 1
  omega
theorem head_at {ws : List Nat} {at' : Int} {F k : Nat} (hF : F < 5) (hk : k < 6) (h0 : 0 ≤ at') (h1 : at' + F + 1 ≤ ws.length) (hw : wAt ws at' = hwL F k) : headE ws at' = 0 ∧ headAt ws at' = hdL F k := by
  have hp : placeE ws.length at' = 0 := if_pos (by omega)
  have he : headE ws at' = 0 := by
    rw [headE, if_pos hp, hw, if_pos (hdL_is F hF k hk), if_neg]
    rw [hdL_dec F hF k hk, hdL_size F hF k hk]
    omega
  exact ⟨he, by rw [headAt, if_pos he, hw, hdL_dec F hF k hk]⟩
theorem field_at {ws : List Nat} {at' : Int} {F k j : Nat} (hF : F < 5) (hk : k < 6) (h0 : 0 ≤ at') (h1 : at' + F + 1 ≤ ws.length) (hw : wAt ws at' = hwL F k) (hj : j < F) : fieldE ws at' j false = 0 ∧ fieldK ws at' j false = at' + 1 + j ∧ fieldW ws at' j false = wAt ws (at' + 1 + j) := by
  obtain ⟨he, hd⟩ := head_at hF hk h0 h1 hw
  have hf : fieldE ws at' j false = 0 := by
    rw [fieldE, if_pos he, hd]
    exact if_pos ⟨by omega, by show (j : Int) < F; omega⟩
  have hK : fieldK ws at' j false = at' + 1 + j := by
    rw [fieldK, if_pos hf]
    simp
  exact ⟨hf, hK, by rw [fieldW, if_pos hf, hK]⟩
theorem set_at {ws : List Nat} {at' : Int} {F k k' : Nat} (hF : F < 5) (hk : k < 6) (hk' : k' < 6) (h0 : 0 ≤ at') (h1 : at' + F + 1 ≤ ws.length) (hw : wAt ws at' = hwL F k) : setE ws at' (hdL F k') = 0 := by
  obtain ⟨he, hd⟩ := head_at hF hk h0 h1 hw
  rw [setE, if_pos he, if_pos ⟨hdL_ok F hF k' hk', by rw [hd, hdL_size F hF k hk, hdL_size F hF k' hk']⟩]
theorem setF_at {ws : List Nat} {at' : Int} {F k j w : Nat} (hF : F < 5) (hk : k < 6) (h0 : 0 ≤ at') (h1 : at' + F + 1 ≤ ws.length) (hw : wAt ws at' = hwL F k) (hj : j < F) (hd : (decV w).isSome = true) : setFE ws at' j w = 0 := by
  rw [setFE, if_pos (field_at hF hk h0 h1 hw hj).1, if_pos hd]
theorem wAt_set {ws : List Nat} {i j : Int} {w : Nat} (hi : 0 ≤ i) (hj : 0 ≤ j) (hl : j < ws.length) : wAt (ws.set j.toNat w) i = if i = j then w else wAt ws i := by
  unfold wAt
  by_cases e : i = j
  · subst e
    rw [if_pos rfl, List.getD_eq_getElem?_getD, List.getElem?_set_self (by omega)]
    rfl
  · rw [if_neg e, List.getD_eq_getElem?_getD, List.getElem?_set_ne (by omega), ← List.getD_eq_getElem?_getD]
theorem wAt_move {ws : List Nat} {t f n i : Int} (ht : 0 ≤ t) (hf : 0 ≤ f) (hn : 0 ≤ n) (h1 : t + n ≤ ws.length) (h2 : f + n ≤ ws.length) (hi : 0 ≤ i) : wAt (moveW ws t.toNat f.toNat n.toNat) i = if t ≤ i ∧ i < t + n then wAt ws (f + (i - t)) else wAt ws i := by
  unfold wAt moveW
  simp only [List.getD_eq_getElem?_getD, List.append_assoc]
  by_cases c1 : i < t
  · rw [if_neg (by omega), List.getElem?_append_left (by rw [List.length_take]; omega), List.getElem?_take_of_lt (by omega)]
  · rw [List.getElem?_append_right (by rw [List.length_take]; omega), List.length_take, Nat.min_eq_left (by omega)]
    by_cases c2 : i < t + n
    · rw [if_pos ⟨by omega, c2⟩, List.getElem?_append_left (by rw [List.length_take, List.length_drop]; omega), List.getElem?_take_of_lt (by omega), List.getElem?_drop]
      congr 3
      omega
    · rw [if_neg (by omega), List.getElem?_append_right (by rw [List.length_take, List.length_drop]; omega), List.getElem?_drop, List.length_take, List.length_drop, Nat.min_eq_left (by omega)]
      congr 3
      omega
theorem wAt_copy {ws : List Nat} {t f n i : Int} (ht : 0 ≤ t) (hf : 0 ≤ f) (hn : 0 < n) (h1 : t + n ≤ ws.length) (h2 : f + n ≤ ws.length) (hi : 0 ≤ i) : wAt (copyW ws f t n) i = if i = f then refWd t else if t ≤ i ∧ i < t + n then wAt ws (f + (i - t)) else wAt ws i := by
  unfold copyW
  rw [wAt_set hi hf (by rw [moveW_len (by omega) (by omega)]; omega), wAt_move ht hf (by omega) h1 h2 hi]
end Go.AM
namespace Go.AM
attribute [local instance] fnMaps
open Go Go.Proofs
set_option maxRecDepth 100000
def ObjAt (F K : Nat) (ws : List Nat) (p : Int) (k v : Nat) : Prop := wAt ws p = hwL F k ∧ ∀ f : Nat, f < F → wAt ws (p + 1 + f) = if f = K then v else 0
theorem ObjAt.set {F K : Nat} {ws : List Nat} {p q : Int} {k v w : Nat} (h : ObjAt F K ws p k v) (hp : 0 ≤ p) (hq : 0 ≤ q) (hl : q < ws.length) (ho : q < p ∨ p + F < q) : ObjAt F K (ws.set q.toNat w) p k v := by
  refine ⟨by rw [wAt_set hp hq hl, if_neg (by omega)]; exact h.1, fun f hf => ?_⟩
  rw [wAt_set (by omega) hq hl, if_neg (by omega)]
  exact h.2 f hf
theorem ObjAt.setHead {F K : Nat} {ws : List Nat} {p : Int} {k v k' : Nat} (h : ObjAt F K ws p k v) (hp : 0 ≤ p) (hl : p < ws.length) : ObjAt F K (ws.set p.toNat (hwL F k')) p k' v := by
  refine ⟨by rw [wAt_set hp hp hl, if_pos rfl], fun f hf => ?_⟩
  rw [wAt_set (by omega) hp hl, if_neg (by omega)]
  exact h.2 f hf
theorem ObjAt.setField {F K : Nat} {ws : List Nat} {p : Int} {k v w : Nat} (h : ObjAt F K ws p k v) (hK : K < F) (hp : 0 ≤ p) (hl : p + F < ws.length) : ObjAt F K (ws.set (p + 1 + K).toNat w) p k w := by
  refine ⟨by rw [wAt_set hp (by omega) (by omega), if_neg (by omega)]; exact h.1, fun f hf => ?_⟩
  rw [wAt_set (by omega) (by omega) (by omega)]
  by_cases e : f = K
  · rw [if_pos (by omega), if_pos e]
  · rw [if_neg (by omega), h.2 f hf, if_neg e, if_neg e]
theorem ObjAt.copyOff {F K : Nat} {ws : List Nat} {p t g n : Int} {k v : Nat} (h : ObjAt F K ws p k v) (hp : 0 ≤ p) (ht : 0 ≤ t) (hg : 0 ≤ g) (hn : 0 < n) (h1 : t + n ≤ ws.length) (h2 : g + n ≤ ws.length) (ho : p + F < t ∨ t + n ≤ p) (ho2 : g < p ∨ p + F < g) : ObjAt F K (copyW ws g t n) p k v := by
  refine ⟨by rw [wAt_copy ht hg hn h1 h2 hp, if_neg (by omega), if_neg (by omega)]; exact h.1, fun f hf => ?_⟩
  rw [wAt_copy ht hg hn h1 h2 (by omega), if_neg (by omega), if_neg (by omega)]
  exact h.2 f hf
theorem ObjAt.copyOn {F K : Nat} {ws : List Nat} {t g : Int} {k v : Nat} (h : ObjAt F K ws g k v) (ht : 0 ≤ t) (hg : 0 ≤ g) (h1 : t + (F + 1) ≤ ws.length) (h2 : g + (F + 1) ≤ ws.length) (ho : g < t ∨ t + (F + 1) ≤ g) : ObjAt F K (copyW ws g t (F + 1)) t k v := by
  refine ⟨?_, fun f hf => ?_⟩
  · rw [wAt_copy ht hg (by omega) h1 h2 ht, if_neg (by omega), if_pos (by omega), show g + (t - t) = g by omega]
    exact h.1
  · rw [wAt_copy ht hg (by omega) h1 h2 (by omega), if_neg (by omega), if_pos (by omega), show g + (t + 1 + f - t) = g + 1 + f by omega]
    exact h.2 f hf
def bP (n F i : Nat) : Int := ((n * (F + 1) + i * (F + 1) : Nat) : Int)
def aP (n F i : Nat) : Int := ((n * (F + 1) : Nat) : Int) - (((i + 1) * (F + 1) : Nat) : Int)
theorem bP_succ (n F i : Nat) : bP n F (i + 1) = bP n F i + (F + 1) := by unfold bP; rw [Nat.add_mul i 1]; omega
theorem bP_lt (n F : Nat) {j i : Nat} (h : j < i) : bP n F j + (F + 1) ≤ bP n F i := by
  unfold bP
  have := Nat.mul_le_mul_right (F + 1) (show j + 1 ≤ i from h)
  rw [Nat.add_mul j 1] at this
  omega
theorem bP_in {n F i : Nat} (h : i < n) : ((n * (F + 1) : Nat) : Int) ≤ bP n F i ∧ bP n F i + (F + 1) ≤ ((2 * (n * (F + 1)) : Nat) : Int) := by
  unfold bP
  have := Nat.mul_le_mul_right (F + 1) (show i + 1 ≤ n from h)
  rw [Nat.add_mul i 1] at this
  omega
theorem aP_in {n F i : Nat} (h : i < n) : 0 ≤ aP n F i ∧ aP n F i + (F + 1) ≤ ((n * (F + 1) : Nat) : Int) := by
  unfold aP
  have := Nat.mul_le_mul_right (F + 1) (show i + 1 ≤ n from h)
  have h2 : (i + 1) * (F + 1) = i * (F + 1) + (F + 1) := by rw [Nat.add_mul i 1]; omega
  omega
theorem aP_lt (n F : Nat) {j i : Nat} (h : j < i) : aP n F i + (F + 1) ≤ aP n F j := by
  unfold aP
  have := Nat.mul_le_mul_right (F + 1) (show j + 1 + 1 ≤ i + 1 by omega)
  rw [Nat.add_mul (j + 1) 1] at this
  omega
def parV (n F : Nat) : Nat → Nat
  | 0 => 0
  | j + 1 => refWd (bP n F j)
def origV (n F i : Nat) : Nat := if i + 1 < n then refWd (aP n F (i + 1)) else 0
def finV (n F i : Nat) : Nat := if i + 1 < n then refWd (bP n F (i + 1)) else 0
structure UpI (n F K i k : Nat) (ws : List Nat) : Prop where
  len : ws.length = 2 * (n * (F + 1))
  low : ∀ j, j < i → ObjAt F K ws (bP n F j) K (parV n F j)
  cur : ObjAt F K ws (bP n F i) k (finV n F i)
  high : ∀ j, i < j → j < n → ObjAt F K ws (bP n F j) 0 (finV n F j)
  inn : i < n
  kF : k ≤ F
  past : i + 1 = n ∨ K < k
structure Done (n F K : Nat) (ws : List Nat) : Prop where
  len : ws.length = 2 * (n * (F + 1))
  all : ∀ j, j < n → ObjAt F K ws (bP n F j) 0 (finV n F j)
end Go.AM
namespace Go.AM
attribute [local instance] fnMaps
open Go Go.Proofs
set_option maxRecDepth 100000
theorem refW_0 : refW 0 = none := by decide +kernel
theorem decV_ref {x : Int} (h : 0 ≤ x ∧ x ≤ 1099511627776) : (decV (refWd x)).isSome = true := by
  have := dec_ref (refWd x)
  rw [refW_wd h] at this
  cases hd : decV (refWd x) with
  | none => rw [hd] at this; cases this
  | some v => rfl
theorem decV_0 : (decV 0).isSome = true := by decide +kernel
theorem size_le {n F : Nat} (hn : n ≤ 60) (hF : F < 5) : n * (F + 1) ≤ 300 := Nat.mul_le_mul hn (by omega : F + 1 ≤ 5)
theorem parV_ok {n F i : Nat} (hn : n ≤ 60) (hF : F < 5) (hi : i ≤ n) : parV n F i < 2 ^ 64 := by
  cases i with
  | zero => exact Nat.two_pow_pos 64
  | succ j =>
    have := bP_in (F := F) (show j < n from hi)
    have := size_le hn hF
    exact refWd_u64 _ (by omega)
theorem UpI.next {n F K i k : Nat} {ws : List Nat} (hn : n ≤ 60) (hF : F < 5) (h : UpI n F K i k ws) (hk : k < F) : UpI n F K i (k + 1) (ws.set (bP n F i).toNat (hwL F (k + 1))) := by
  have hb := bP_in (F := F) h.inn
  have hlen := h.len
  refine ⟨by rw [List.length_set]; exact hlen, fun j hj => ?_, h.cur.setHead (by omega) (by omega), fun j hj hjn => ?_, h.inn, hk, h.past.imp id fun x => by omega⟩
  · have hlt := bP_lt n F hj
    have hbj := bP_in (F := F) (show j < n by have := h.inn; omega)
    exact (h.low j hj).set (by omega) (by omega) (by omega) (by omega)
  · have hlt := bP_lt n F hj
    have hbj := bP_in (F := F) hjn
    exact (h.high j hj hjn).set (by omega) (by omega) (by omega) (by omega)
theorem UpI.val {n F K i k : Nat} {ws : List Nat} (hF : F < 5) (h : UpI n F K i k ws) (hk : k < F) : fieldE ws (bP n F i) k false = 0 ∧ refW (fieldW ws (bP n F i) k false) = none := by
  have hb := bP_in (F := F) h.inn
  have hlen := h.len
  obtain ⟨h1, h2, h3⟩ := field_at hF (show k < 6 by omega) (show 0 ≤ bP n F i by omega) (by omega) h.cur.1 hk
  refine ⟨h1, ?_⟩
  rw [h3, h.cur.2 k hk]
  by_cases e : k = K
  · rw [if_pos e, finV, if_neg (by have := h.past; omega)]
    exact refW_0
  · rw [if_neg e]
    exact refW_0
theorem UpI.step {n F K i k : Nat} {c : Rc} {s z : Rs} {N : Nat} (hn : n ≤ 60) (hF : F < 5) (h : UpI n F K i k s.ws) (hk : k < F) (t : TRun c N ⟨s.u, addF (addS s.k), s.ws.set (bP n F i).toNat (hwL F (k + 1))⟩ (bP n F i) (parV n F i) z) : TRun c (N + 1) s (bP n F i) (parV n F i) z := by
  have hb := bP_in (F := F) h.inn
  have hlen := h.len
  have hsz := size_le hn hF
  obtain ⟨he, hd⟩ := head_at hF (show k < 6 by omega) (show 0 ≤ bP n F i by omega) (by omega) h.cur.1
  obtain ⟨v1, v2⟩ := h.val hF hk
  exact TRun.plain (d := hdL F k) (by omega) he hd (by show (k : Int) < F; omega) ⟨by show (0 : Int) ≤ k; omega, by show (k : Int) < 65536; omega⟩ v1 v2 (set_at hF (show k < 6 by omega) (show k + 1 < 6 by omega) (by omega) (by omega) h.cur.1) t
theorem up_run {n F K : Nat} (hn : n ≤ 60) (hF : F < 5) (hK : K < F) (c : Rc) : ∀ (i r : Nat) (s : Rs) (k : Nat), F - k = r → UpI n F K i k s.ws → ∃ N z, TRun c N s (bP n F i) (parV n F i) z ∧ Done n F K z.ws ∧ z.u = s.u := by
  intro i
  induction i with
  | zero =>
    intro r
    induction r with
    | zero =>
      intro s k hr h
      have hk : k = F := by have := h.kF; omega
      have hb := bP_in (F := F) h.inn
      have hsz := size_le hn hF
      have hlen := h.len
      obtain ⟨he, hd⟩ := head_at hF (show k < 6 by omega) (show 0 ≤ bP n F 0 by omega) (by omega) h.cur.1
      refine ⟨1, _, TRun.fin (by omega) (parV_ok hn hF (Nat.zero_le _)) he hd (by show ¬ (k : Int) < F; omega) (set_at hF (show k < 6 by omega) (show 0 < 6 by omega) (by omega) (by omega) h.cur.1) refW_0, ⟨by rw [List.length_set]; exact hlen, fun j hj => ?_⟩, rfl⟩
      by_cases e : j = 0
      · subst e
        exact h.cur.setHead (by omega) (by omega)
      · have hlt := bP_lt n F (show 0 < j by omega)
        exact (h.high j (by omega) hj).set (by omega) (by omega) (by omega) (by omega)
    | succ r ih =>
      intro s k hr h
      have hk : k < F := by omega
      obtain ⟨N, z, t, d, e⟩ := ih ⟨s.u, addF (addS s.k), s.ws.set (bP n F 0).toNat (hwL F (k + 1))⟩ (k + 1) (by omega) (h.next hn hF hk)
      exact ⟨N + 1, z, h.step hn hF hk t, d, e⟩
  | succ i ihi =>
    intro r
    induction r with
    | zero =>
      intro s k hr h
      have hk : k = F := by have := h.kF; omega
      have hi := h.inn
      have hb := bP_in (F := F) hi
      have hb0 := bP_in (F := F) (show i < n by omega)
      have hlt := bP_lt n F (show i < i + 1 by omega)
      have hsz := size_le hn hF
      have hlen := h.len
      obtain ⟨he, hd⟩ := head_at hF (show k < 6 by omega) (show 0 ≤ bP n F (i + 1) by omega) (by omega) h.cur.1
      have o1 : ObjAt F K (s.ws.set (bP n F (i + 1)).toNat (hwL F 0)) (bP n F i) K (parV n F i) := (h.low i (by omega)).set (by omega) (by omega) (by omega) (by omega)
      have l1 : (s.ws.set (bP n F (i + 1)).toNat (hwL F 0)).length = s.ws.length := List.length_set ..
      obtain ⟨he1, hd1⟩ := head_at hF (show K < 6 by omega) (show 0 ≤ bP n F i by omega) (by omega) o1.1
      obtain ⟨f1, f2, f3⟩ := field_at hF (show K < 6 by omega) (show 0 ≤ bP n F i by omega) (by omega) o1.1 hK
      have hv : refW (parV n F (i + 1)) = some (bP n F i) := refW_wd (by omega)
      have hse := setF_at (w := refWd (bP n F (i + 1))) hF (show K < 6 by omega) (show 0 ≤ bP n F i by omega) (by omega) o1.1 hK (decV_ref (by omega))
      have o2 : ObjAt F K ((s.ws.set (bP n F (i + 1)).toNat (hwL F 0)).set (bP n F i + 1 + K).toNat (refWd (bP n F (i + 1)))) (bP n F i) K (refWd (bP n F (i + 1))) := o1.setField hK (by omega) (by omega)
      have l2 : ((s.ws.set (bP n F (i + 1)).toNat (hwL F 0)).set (bP n F i + 1 + K).toNat (refWd (bP n F (i + 1)))).length = s.ws.length := by rw [List.length_set, l1]
      have hce := set_at hF (show K < 6 by omega) (show K + 1 < 6 by omega) (show 0 ≤ bP n F i by omega) (by omega) o2.1
      have hU : UpI n F K i (K + 1) (((s.ws.set (bP n F (i + 1)).toNat (hwL F 0)).set (bP n F i + 1 + K).toNat (refWd (bP n F (i + 1)))).set (bP n F i).toNat (hwL F (K + 1))) := by
        refine ⟨by rw [List.length_set, l2]; exact hlen, fun j hj => ?_, ?_, fun j hj hjn => ?_, by omega, by omega, .inr (by omega)⟩
        · have q1 := bP_lt n F hj
          have q2 := bP_in (F := F) (show j < n by omega)
          exact (((h.low j (by omega)).set (by omega) (by omega) (by omega) (by omega)).set (by omega) (by omega) (by omega) (by omega)).set (by omega) (by omega) (by omega) (by omega)
        · rw [finV, if_pos (by omega)]
          exact o2.setHead (by omega) (by omega)
        · have q2 := bP_in (F := F) hjn
          have q1 := bP_lt n F hj
          by_cases e : j = i + 1
          · subst e
            exact ((h.cur.setHead (k' := 0) (by omega) (by omega)).set (by omega) (by omega) (by omega) (by omega)).set (by omega) (by omega) (by omega) (by omega)
          · have q3 := bP_lt n F (show i + 1 < j by omega)
            exact (((h.high j (by omega) hjn).set (by omega) (by omega) (by omega) (by omega)).set (by omega) (by omega) (by omega) (by omega)).set (by omega) (by omega) (by omega) (by omega)
      obtain ⟨N, z, t, d, e⟩ := ihi _ ⟨s.u, addO (addS s.k), _⟩ (K + 1) rfl hU
      refine ⟨N + 1, z, TRun.up (d := hdL F k) (ab := hdL F K) (ws1 := s.ws.set (bP n F (i + 1)).toNat (hwL F 0)) (by omega) (parV_ok hn hF (by omega)) he hd (by show ¬ (k : Int) < F; omega) (set_at hF (show k < 6 by omega) (show 0 < 6 by omega) (by omega) (by omega) h.cur.1) hv rfl he1 hd1 f1 (f3.trans (by rw [o1.2 K hK, if_pos rfl])) ⟨by show (0 : Int) ≤ K; omega, by show (K : Int) < 65536; omega⟩ hse (congrArg (fun x : Int => (s.ws.set (bP n F (i + 1)).toNat (hwL F 0)).set x.toNat (refWd (bP n F (i + 1)))) f2) hce rfl t, d, e⟩
    | succ r ih =>
      intro s k hr h
      have hk : k < F := by omega
      obtain ⟨N, z, t, d, e⟩ := ih ⟨s.u, addF (addS s.k), s.ws.set (bP n F (i + 1)).toNat (hwL F (k + 1))⟩ (k + 1) (by omega) (h.next hn hF hk)
      exact ⟨N + 1, z, h.step hn hF hk t, d, e⟩
end Go.AM
namespace Go.AM
attribute [local instance] fnMaps
open Go Go.Proofs
set_option maxRecDepth 100000
structure DnI (n F K i k : Nat) (ws : List Nat) : Prop where
  len : ws.length = 2 * (n * (F + 1))
  low : ∀ j, j < i → ObjAt F K ws (bP n F j) K (parV n F j)
  cur : ObjAt F K ws (bP n F i) k (origV n F i)
  rest : ∀ j, i < j → j < n → ObjAt F K ws (aP n F j) 0 (origV n F j)
  inn : i < n
  kK : k ≤ K
structure ListC (n F : Nat) (c : Rc) : Prop where
  fr : c.fr = ⟨0, ((n * (F + 1) : Nat) : Int)⟩
  top : c.top = ((n * (F + 1) : Nat) : Int)
  to : c.to = ⟨((n * (F + 1) : Nat) : Int), ((n * (F + 1) : Nat) : Int)⟩
theorem refWd_inj {x y : Int} (hx : 0 ≤ x ∧ x ≤ 1099511627776) (hy : 0 ≤ y ∧ y ≤ 1099511627776) (h : refWd x = refWd y) : x = y := by
  have h1 := refW_wd hx
  rw [h, refW_wd hy] at h1
  exact (Option.some.inj h1).symm
theorem dn_run {n F K : Nat} (hn : n ≤ 60) (hF : F < 5) (hK : K < F) (c : Rc) (hc : ListC n F c) : ∀ (q i r : Nat) (s : Rs) (k : Nat), n - i = q → K - k = r → DnI n F K i k s.ws → s.u = (((i + 1) * (F + 1) : Nat) : Int) → ∃ N z, TRun c N s (bP n F i) (parV n F i) z ∧ Done n F K z.ws ∧ z.u = ((n * (F + 1) : Nat) : Int) := by
  intro q
  induction q with
  | zero => intro i r s k hq hr h; have := h.inn; omega
  | succ q ihq =>
    intro i r
    induction r with
    | zero =>
      intro s k hq hr h hu
      by_cases hl : i + 1 = n
      · obtain ⟨N, z, t, d, e⟩ := up_run hn hF hK c i (F - k) s k rfl ⟨h.len, h.low, by rw [finV, if_neg (by omega)]; have := h.cur; rw [origV, if_neg (by omega)] at this; exact this, fun j h1 h2 => by omega, h.inn, by have := h.kK; omega, .inl hl⟩
        exact ⟨N, z, t, d, by rw [e, hu, hl]⟩
      · have hk : k = K := by have := h.kK; omega
        subst hk
        have hi := h.inn
        have hlen := h.len
        have hsz := size_le hn hF
        have b0 := bP_in (F := F) hi
        have b1 := bP_in (F := F) (show i + 1 < n by omega)
        have b01 := bP_lt n F (show i < i + 1 by omega)
        have a1 := aP_in (F := F) (show i + 1 < n by omega)
        have hob := h.rest (i + 1) (by omega) (by omega)
        have hS : sizeH (decHd (wAt s.ws (aP n F (i + 1)))) = (F : Int) + 1 := by rw [hob.1, hdL_dec F hF 0 (by omega), hdL_size F hF 0 (by omega)]
        have hto : c.to.at' = ((n * (F + 1) : Nat) : Int) := by rw [hc.to]
        have hts : c.to.size = ((n * (F + 1) : Nat) : Int) := by rw [hc.to]
        have hfr : c.fr.at' = 0 := by rw [hc.fr]
        have htop := hc.top
        have hb : c.to.at' + s.u = bP n F (i + 1) := by rw [hto, hu]; unfold bP; omega
        have hu2 : s.u + ((F : Int) + 1) = (((i + 1 + 1) * (F + 1) : Nat) : Int) := by rw [hu, Nat.add_mul (i + 1) 1]; omega
        have hle : s.u + ((F : Int) + 1) ≤ c.to.size := by
          rw [hu2, hts]
          have := Nat.mul_le_mul_right (F + 1) (show i + 1 + 1 ≤ n by omega)
          omega
        obtain ⟨he, hd⟩ := head_at hF (show k < 6 by omega) (show 0 ≤ bP n F i by omega) (by omega) h.cur.1
        obtain ⟨f1, f2, f3⟩ := field_at hF (show k < 6 by omega) (show 0 ≤ bP n F i by omega) (by omega) h.cur.1 hK
        have hval : fieldW s.ws (bP n F i) k false = refWd (aP n F (i + 1)) := by rw [f3, h.cur.2 k hK, if_pos rfl, origV, if_pos (by omega)]
        have l1 : (copyW s.ws (aP n F (i + 1)) (bP n F (i + 1)) ((F : Int) + 1)).length = s.ws.length := copyW_len (by omega) (by omega)
        have o1 : ObjAt F k (copyW s.ws (aP n F (i + 1)) (bP n F (i + 1)) ((F : Int) + 1)) (bP n F i) k (origV n F i) := h.cur.copyOff (by omega) (by omega) (by omega) (by omega) (by omega) (by omega) (by omega) (by omega)
        obtain ⟨g1, g2, -⟩ := field_at hF (show k < 6 by omega) (show 0 ≤ bP n F i by omega) (by omega) o1.1 hK
        have hse := setF_at (w := refWd (bP n F (i + 1))) hF (show k < 6 by omega) (show 0 ≤ bP n F i by omega) (by omega) o1.1 hK (decV_ref (by omega))
        have o2 : ObjAt F k ((copyW s.ws (aP n F (i + 1)) (bP n F (i + 1)) ((F : Int) + 1)).set (bP n F i + 1 + k).toNat (refWd (bP n F (i + 1)))) (bP n F i) k (refWd (bP n F (i + 1))) := o1.setField hK (by omega) (by omega)
        have l2 : ((copyW s.ws (aP n F (i + 1)) (bP n F (i + 1)) ((F : Int) + 1)).set (bP n F i + 1 + k).toNat (refWd (bP n F (i + 1)))).length = s.ws.length := by rw [List.length_set, l1]
        obtain ⟨p1, p2, -⟩ := field_at hF (show k < 6 by omega) (show 0 ≤ bP n F i by omega) (by omega) o2.1 hK
        have hpd : (decV (parV n F i)).isSome = true := by
          cases i with
          | zero => exact decV_0
          | succ j =>
            have := bP_in (F := F) (show j < n by omega)
            exact decV_ref (by omega)
        have hse2 := setF_at (w := parV n F i) hF (show k < 6 by omega) (show 0 ≤ bP n F i by omega) (by omega) o2.1 hK hpd
        have hD : DnI n F k (i + 1) 0 (((copyW s.ws (aP n F (i + 1)) (bP n F (i + 1)) ((F : Int) + 1)).set (bP n F i + 1 + k).toNat (refWd (bP n F (i + 1)))).set (bP n F i + 1 + k).toNat (parV n F i)) := by
          refine ⟨by rw [List.length_set, l2]; exact hlen, fun j hj => ?_, ?_, fun j hj hjn => ?_, by omega, Nat.zero_le _⟩
          · by_cases e : j = i
            · subst e
              exact o2.setField hK (by omega) (by omega)
            · have q1 := bP_lt n F (show j < i by omega)
              have q2 := bP_in (F := F) (show j < n by omega)
              exact (((h.low j (by omega)).copyOff (by omega) (by omega) (by omega) (by omega) (by omega) (by omega) (by omega) (by omega)).set (by omega) (by omega) (by omega) (by omega)).set (by omega) (by omega) (by omega) (by omega)
          · exact ((hob.copyOn (by omega) (by omega) (by omega) (by omega) (by omega)).set (by omega) (by omega) (by omega) (by omega)).set (by omega) (by omega) (by omega) (by omega)
          · have q1 := aP_lt n F (show i + 1 < j by omega)
            have q2 := aP_in (F := F) hjn
            exact (((h.rest j (by omega) hjn).copyOff (by omega) (by omega) (by omega) (by omega) (by omega) (by omega) (by omega) (by omega)).set (by omega) (by omega) (by omega) (by omega)).set (by omega) (by omega) (by omega) (by omega)
        obtain ⟨N, z, t, d, e⟩ := ihq (i + 1) (k - 0) ⟨s.u + sizeH (decHd (wAt s.ws (aP n F (i + 1)))), { addF (addS s.k) with words := IntKind.i64.wrap (s.k.words + sizeH (decHd (wAt s.ws (aP n F (i + 1))))) }, _⟩ 0 (by omega) rfl hD (by show s.u + _ = _; rw [hS, hu2])
        refine ⟨N + 1, z, TRun.copy (d := hdL F k) (x := aP n F (i + 1)) (ws1 := copyW s.ws (aP n F (i + 1)) (bP n F (i + 1)) ((F : Int) + 1)) (ws2 := (copyW s.ws (aP n F (i + 1)) (bP n F (i + 1)) ((F : Int) + 1)).set (bP n F i + 1 + k).toNat (refWd (bP n F (i + 1)))) (by omega) (parV_ok hn hF (by omega)) he hd (by show (k : Int) < F; omega) f1 (by show refW (fieldW s.ws (bP n F i) k false) = _; rw [hval]; exact refW_wd (by omega)) (by omega) (by rw [hob.1]; exact hdL_ref F hF 0 (by omega)) (by rw [hob.1]; exact hdL_is F hF 0 (by omega)) (by rw [hS]; omega) (by rw [hS]; omega) (by rw [hS]; exact hle) (by show _ ≠ fieldW s.ws (bP n F i) k false; rw [hval, hb]; exact fun e => by have := refWd_inj (by omega) (by omega) e; omega) (by rw [hb, hS]) (by rw [hb]; exact hse) (by rw [hb]; exact congrArg (fun x : Int => (copyW s.ws (aP n F (i + 1)) (bP n F (i + 1)) ((F : Int) + 1)).set x.toNat (refWd (bP n F (i + 1)))) g2) hse2 (congrArg (fun x : Int => ((copyW s.ws (aP n F (i + 1)) (bP n F (i + 1)) ((F : Int) + 1)).set (bP n F i + 1 + k).toNat (refWd (bP n F (i + 1)))).set x.toNat (parV n F i)) p2) (by rw [hb]; exact t), d, e⟩
    | succ r ih =>
      intro s k hq hr h hu
      have hk : k < K := by omega
      have hi := h.inn
      have hb := bP_in (F := F) hi
      have hlen := h.len
      have hsz := size_le hn hF
      obtain ⟨he, hd⟩ := head_at hF (show k < 6 by omega) (show 0 ≤ bP n F i by omega) (by omega) h.cur.1
      obtain ⟨f1, f2, f3⟩ := field_at hF (show k < 6 by omega) (show 0 ≤ bP n F i by omega) (by omega) h.cur.1 (show k < F by omega)
      have hD : DnI n F K i (k + 1) (s.ws.set (bP n F i).toNat (hwL F (k + 1))) := by
        refine ⟨by rw [List.length_set]; exact hlen, fun j hj => ?_, h.cur.setHead (by omega) (by omega), fun j hj hjn => ?_, hi, hk⟩
        · have hlt := bP_lt n F hj
          have hbj := bP_in (F := F) (show j < n by omega)
          exact (h.low j hj).set (by omega) (by omega) (by omega) (by omega)
        · have q2 := aP_in (F := F) hjn
          exact (h.rest j hj hjn).set (by omega) (by omega) (by omega) (by omega)
      obtain ⟨N, z, t, d, e⟩ := ih ⟨s.u, addF (addS s.k), _⟩ (k + 1) hq (by omega) hD hu
      exact ⟨N + 1, z, TRun.plain (d := hdL F k) (by omega) he hd (by show (k : Int) < F; omega) ⟨by show (0 : Int) ≤ k; omega, by show (k : Int) < 65536; omega⟩ f1 (by show refW (fieldW s.ws (bP n F i) k false) = none; rw [f3, h.cur.2 k (by omega), if_neg (by omega)]; exact refW_0) (set_at hF (show k < 6 by omega) (show k + 1 < 6 by omega) (by omega) (by omega) h.cur.1) t, d, e⟩
end Go.AM
namespace Go.AM
attribute [local instance] fnMaps
open Go Go.Proofs
set_option maxRecDepth 100000
structure Built (n F K : Nat) (ws : List Nat) : Prop where
  len : ws.length = 2 * (n * (F + 1))
  all : ∀ j, j < n → ObjAt F K ws (aP n F j) 0 (origV n F j)
theorem Built.dn {n F K : Nat} {ws : List Nat} (hF : F < 5) (h : Built n F K ws) (h0 : 0 < n) : DnI n F K 0 0 (copyW ws (aP n F 0) (bP n F 0) ((F : Int) + 1)) := by
  have hlen := h.len
  have b0 := bP_in (F := F) h0
  have a0 := aP_in (F := F) h0
  refine ⟨by rw [copyW_len (by omega) (by omega)]; exact hlen, fun j hj => by omega, (h.all 0 h0).copyOn (by omega) (by omega) (by omega) (by omega) (by omega), fun j hj hjn => ?_, h0, Nat.zero_le _⟩
  have q1 := aP_lt n F hj
  have q2 := aP_in (F := F) hjn
  exact (h.all j hjn).copyOff (by omega) (by omega) (by omega) (by omega) (by omega) (by omega) (by omega) (by omega)
theorem list_run {n F K : Nat} (hn : n ≤ 60) (h0 : 0 < n) (hF : F < 5) (hK : K < F) (c : Rc) (hc : ListC n F c) {ws : List Nat} (h : Built n F K ws) (k : Wk) : ∃ N z, TRun c N ⟨(F : Int) + 1, k, copyW ws (aP n F 0) (bP n F 0) ((F : Int) + 1)⟩ (bP n F 0) 0 z ∧ Done n F K z.ws ∧ z.u = ((n * (F + 1) : Nat) : Int) :=
  dn_run hn hF hK c hc (n - 0) 0 (K - 0) ⟨(F : Int) + 1, k, _⟩ 0 rfl rfl (h.dn hF h0) (by show (F : Int) + 1 = _; rw [Nat.zero_add, Nat.one_mul]; omega)
end Go.AM
namespace Go.AM
attribute [local instance] fnMaps
open Go Go.Proofs
set_option maxRecDepth 100000
structure BuiltTo (n F K i : Nat) (ws : List Nat) : Prop where
  len : ws.length = 2 * (n * (F + 1))
  all : ∀ j, j < i → ObjAt F K ws (aP n F j) 0 (origV n F j)
  u64 : ∀ w ∈ ws, w < 2 ^ 64
  zero : ∀ p : Int, 0 ≤ p → p < ((n * (F + 1) : Nat) : Int) - ((i * (F + 1) : Nat) : Int) → wAt ws p = 0
theorem BuiltTo.new (n F K : Nat) : BuiltTo n F K 0 (List.replicate (2 * (n * (F + 1))) 0) := by
  refine ⟨by simp, fun j hj => by omega, fun w hw => by rw [(List.mem_replicate.1 hw).2]; exact Nat.two_pow_pos 64, fun p _ _ => ?_⟩
  unfold wAt
  rw [List.getD_eq_getElem?_getD, List.getElem?_replicate]
  split <;> rfl
theorem aP_eq (n F i : Nat) : aP n F i = ((n * (F + 1) : Nat) : Int) - ((i * (F + 1) : Nat) : Int) - (F + 1) := by
  unfold aP
  rw [Nat.add_mul i 1]
  omega
theorem hdL_u64 : ∀ F, F < 5 → hwL F 0 < 2 ^ 64 := by decide +kernel
theorem set_u64 {ws : List Nat} {k w : Nat} (h : ∀ x ∈ ws, x < 2 ^ 64) (hw : w < 2 ^ 64) : ∀ x ∈ ws.set k w, x < 2 ^ 64 := fun x hx => by
  rcases List.mem_or_eq_of_mem_set hx with hx | rfl
  · exact h x hx
  · exact hw
theorem BuiltTo.next {n F K i : Nat} {ws : List Nat} (hm' : n * (F + 1) ≤ 300) (hF : F < 5) (hK : K < F) (h : BuiltTo n F K i ws) (hi : i < n) : BuiltTo n F K (i + 1) (if i + 1 < n then (ws.set (aP n F i).toNat (hwL F 0)).set (aP n F i + 1 + K).toNat (refWd (aP n F (i + 1))) else ws.set (aP n F i).toNat (hwL F 0)) := by
  have hlen := h.len
  have ha := aP_in (F := F) hi
  have he := aP_eq n F i
  have hm : ((i + 1) * (F + 1) : Nat) = i * (F + 1) + (F + 1) := by rw [Nat.add_mul i 1]; omega
  have hz : ObjAt F K (ws.set (aP n F i).toNat (hwL F 0)) (aP n F i) 0 0 := by
    refine ⟨by rw [wAt_set (by omega) (by omega) (by omega), if_pos rfl], fun f hf => ?_⟩
    rw [wAt_set (by omega) (by omega) (by omega), if_neg (by omega), h.zero _ (by omega) (by omega)]
    split <;> rfl
  by_cases hn : i + 1 < n
  · rw [if_pos hn]
    have hx := hz.setField (w := refWd (aP n F (i + 1))) hK (by omega) (by rw [List.length_set]; omega)
    refine ⟨by rw [List.length_set, List.length_set]; exact hlen, fun j hj => ?_, set_u64 (set_u64 h.u64 (hdL_u64 F hF)) (refWd_u64 _ (by have := aP_in (F := F) hn; omega)), fun p hp hq => ?_⟩
    · by_cases e : j = i
      · subst e
        unfold origV
        rw [if_pos hn]
        exact hx
      · have q1 := aP_lt n F (show j < i by omega)
        have q2 := aP_in (F := F) (show j < n by omega)
        exact ((h.all j (by omega)).set (by omega) (by omega) (by omega) (by omega)).set (by omega) (by omega) (by rw [List.length_set]; omega) (by omega)
    · rw [hm] at hq
      rw [wAt_set (by omega) (by omega) (by rw [List.length_set]; omega), if_neg (by omega), wAt_set (by omega) (by omega) (by omega), if_neg (by omega)]
      exact h.zero p hp (by omega)
  · rw [if_neg hn]
    refine ⟨by rw [List.length_set]; exact hlen, fun j hj => ?_, set_u64 h.u64 (hdL_u64 F hF), fun p hp hq => ?_⟩
    · by_cases e : j = i
      · subst e
        unfold origV
        rw [if_neg hn]
        exact hz
      · have q1 := aP_lt n F (show j < i by omega)
        have q2 := aP_in (F := F) (show j < n by omega)
        exact (h.all j (by omega)).set (by omega) (by omega) (by omega) (by omega)
    · rw [hm] at hq
      rw [wAt_set (by omega) (by omega) (by omega), if_neg (by omega)]
      exact h.zero p hp (by omega)
theorem BuiltTo.built {n F K : Nat} {ws : List Nat} (h : BuiltTo n F K n ws) : Built n F K ws := ⟨h.len, h.all⟩
theorem word_eq {x : Int} (h : 0 ≤ x ∧ x ≤ 1099511627776) : 4 * x % 18446744073709551616 + 2 = (refWd x : Int) := by
  unfold refWd Val.word
  simp only
  omega
end Go.AM
