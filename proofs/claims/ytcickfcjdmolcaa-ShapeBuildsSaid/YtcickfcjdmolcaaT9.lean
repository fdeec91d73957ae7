/-
  Walks over letters of the functions that the law reaches.
-/
import Derived.Test.YtcickfcjdmolcaaT8
namespace Go.AM
attribute [local instance] fnMaps
open Go Go.Proofs
set_option maxRecDepth 100000
set_option maxHeartbeats 1000000
set_option linter.unusedSimpArgs false

/-! ### Slices that are one's own, side by side -/
section
variable {H : Heap}
/-- one's own slice, with its row and its group -/
def OwnF (b z : Nat) (H : Heap) (v : Value) (n : Nat) (cs : List Value) (f : Option (Nat × Nat)) : Prop :=
  cs.length = n * z ∧ match f with
    | none => v = .slice none 0 0 ∧ n = 0
    | some (r, g) => v = .slice (some ⟨r, 0, none⟩) n n ∧ b ≤ r ∧ r < H.next ∧ b ≤ g ∧ g < H.next ∧ ∃ old, H.objs.get r = some (.row cs (some (g, z)) true) ∧ H.grps.get g = some old
def FDis : Option (Nat × Nat) → Option (Nat × Nat) → Prop
  | some (r, g), some (r2, g2) => r ≠ r2 ∧ g ≠ g2
  | _, _ => True
theorem FDis.symm {f f2 : Option (Nat × Nat)} (h : FDis f f2) : FDis f2 f := by
  match f, f2, h with
  | some (r, g), some (r2, g2), h => exact ⟨fun e => h.1 e.symm, fun e => h.2 e.symm⟩
  | none, some _, _ => trivial
  | some _, none, _ => trivial
  | none, none, _ => trivial
theorem OwnF.own {b z n : Nat} {v : Value} {cs : List Value} {f : Option (Nat × Nat)} (h : OwnF b z H v n cs f) : Own b z H v n cs := by
  obtain ⟨h0, h⟩ := h
  match f, h with
  | none, h => exact ⟨h0, .inl h⟩
  | some (r, g), ⟨h1, h2, h3, h4, h5, old, h6, h7⟩ => exact ⟨h0, .inr ⟨r, h1, h2, h3, .inr ⟨g, old, h6, h4, h5, h7⟩⟩⟩
theorem OwnF.nil (b z : Nat) (H : Heap) : OwnF b z H (.slice none 0 0) 0 [] none := ⟨by simp, rfl, rfl⟩
theorem OwnF.keep {b z n : Nat} {v : Value} {cs : List Value} {f : Option (Nat × Nat)} {H' : Heap} (h : OwnF b z H v n cs f) (hn : H.next ≤ H'.next) (ho : ∀ r g, f = some (r, g) → H'.objs.get r = H.objs.get r ∧ H'.grps.get g = H.grps.get g) : OwnF b z H' v n cs f := by
  obtain ⟨h0, h⟩ := h
  match f, h, ho with
  | none, h, _ => exact ⟨h0, h⟩
  | some (r, g), ⟨h1, h2, h3, h4, h5, old, h6, h7⟩, ho =>
    obtain ⟨e1, e2⟩ := ho r g rfl
    exact ⟨h0, h1, h2, by omega, h4, by omega, old, by rw [e1]; exact h6, by rw [e2]; exact h7⟩
theorem OwnF.below {b z n : Nat} {v : Value} {cs : List Value} {r g : Nat} (h : OwnF b z H v n cs (some (r, g))) : r < H.next ∧ g < H.next := by
  obtain ⟨_, h1, h2, h3, h4, h5, _⟩ := h
  exact ⟨h3, h5⟩
theorem OwnF.same {b z n : Nat} {v : Value} {cs : List Value} {f : Option (Nat × Nat)} {H' : Heap} (h : OwnF b z H v n cs f) (hs : Same H H') : OwnF b z H' v n cs f :=
  h.keep hs.nxt fun r g e => by subst e; exact ⟨hs.objs r h.below.1, hs.grps g h.below.2⟩

/-- an append to one's own; what is one's own elsewhere stays -/
theorem append_f {b size bytes : Nat} {s : Value} {n k : Nat} {cs new : List Value} {f : Option (Nat × Nat)} (ho : OwnF b size H s n cs f) (hb : b ≤ H.next) (hlo : H.lo ≤ b) (hk : k ≠ 0) (hnew : new.length = k * size) (hcell : new.all isCell = true) (hsz : growOk size bytes (n + k) = true) :
    ∃ H' f', appendT size bytes H s k new = some (.slice (some ⟨H.next, 0, none⟩) (n + k) (n + k), H') ∧ OwnF b size H' (.slice (some ⟨H.next, 0, none⟩) (n + k) (n + k)) (n + k) (cs ++ new) f' ∧ Grown b H H' ∧ H'.next = H.next + 1 ∧
      ∀ z2 v2 n2 cs2 f2, OwnF b z2 H v2 n2 cs2 f2 → FDis f f2 → OwnF b z2 H' v2 n2 cs2 f2 ∧ FDis f' f2 := by
  have hnb : Nat.ble (n + k) n = false := Bool.eq_false_iff.2 fun hh => by have := Nat.le_of_ble_eq_true hh; omega
  obtain ⟨hc, ho⟩ := ho
  have hlen : (cs ++ new).length = (n + k) * size := by rw [List.length_append, hc, hnew, Nat.add_mul]
  match f, ho with
  | none, ⟨h1, h2⟩ =>
    subst h1 h2
    have hc0 : cs = [] := List.eq_nil_of_length_eq_zero (by omega)
    subst hc0
    have : Nat.ble (0 + k) 0 = false := hnb
    refine ⟨H.newApp size new, some (H.next, H.next), by simp only [appendT, this, hsz, cond_false]; rfl, ⟨hlen, rfl, hb, by rw [newApp_next]; omega, hb, by rw [newApp_next]; omega, [], ?_, ?_⟩, grown_newApp hb .., newApp_next .., ?_⟩
    · rw [newApp_get, nbeq_eq rfl]; rfl
    · rw [newApp_grps, nbeq_eq rfl]; rfl
    · intro z2 v2 n2 cs2 f2 h2 _
      refine ⟨h2.keep (by rw [newApp_next]; omega) fun r g e => ?_, ?_⟩
      · subst e
        have := h2.below
        exact ⟨by rw [newApp_get, nbeq_ne (by omega)]; rfl, by rw [newApp_grps, nbeq_ne (by omega)]; rfl⟩
      · match f2, h2 with
        | none, _ => trivial
        | some (r, g), h2 => have := h2.below; exact ⟨by omega, by omega⟩
  | some (r, g), ⟨h0, h1, h2, h4, h5, old, h3, h6⟩ =>
    subst h0
    have hcut : cut cs 0 (n * size) = some cs := by rw [cut_eq, if_pos (by omega), List.drop_zero, List.take_of_length_le (by omega)]
    have e1 : Nat.beq (0 + n * size) cs.length = true := by rw [hc, Nat.zero_add]; exact Nat.beq_refl _
    have e2 : Nat.ble H.lo r = true := Nat.ble_eq_true_of_le (by omega)
    have e3 : Nat.beq size size = true := Nat.beq_refl _
    refine ⟨H.grow1 r cs g size old (cs ++ new), some (H.next, g), by simp only [appendT, hnb, hsz, cond_false, h3, e1, e2, e3, hcell, Bool.and_self, cond_true, hcut, Option.bind_some, grow_eq h6]; rfl, ⟨hlen, rfl, hb, Nat.lt_succ_self _, h4, Nat.lt_succ_of_lt h5, r :: old, ?_, ?_⟩, grown_grow1 hb h1 h4 h3, rfl, ?_⟩
    · rw [grow1_get, nbeq_eq rfl]; rfl
    · rw [grow1_grps, nbeq_eq rfl]; rfl
    · intro z2 v2 n2 cs2 f2 hf hd
      refine ⟨hf.keep (Nat.le_succ _) fun r2 g2 e => ?_, ?_⟩
      · subst e
        have := hf.below
        obtain ⟨d1, d2⟩ := hd
        exact ⟨by rw [grow1_get, nbeq_ne (by omega), nbeq_ne (by omega)]; rfl, by rw [grow1_grps, nbeq_ne (by omega)]; rfl⟩
      · match f2, hf, hd with
        | none, _, _ => trivial
        | some (r2, g2), hf, hd => have := hf.below; exact ⟨by omega, hd.2⟩
/-- an append of any number of elements -/
theorem append_all {b size bytes : Nat} {s : Value} {n k : Nat} {cs new : List Value} (ho : Own b size H s n cs) (hb : b ≤ H.next) (hlo : H.lo ≤ b) (hnew : new.length = k * size) (hcell : new.all isCell = true) (hsz : growOk size bytes (n + k) = true) :
    ∃ s' H', appendT size bytes H s k new = some (s', H') ∧ Own b size H' s' (n + k) (cs ++ new) ∧ Grown b H H' := by
  by_cases hk : k = 0
  · subst hk
    have : new = [] := List.eq_nil_of_length_eq_zero (by omega)
    subst this
    have hg : Grown b H H := ⟨rfl, Nat.le_refl _, fun _ _ => ⟨rfl, rfl⟩, fun _ _ _ _ h => h, fun _ _ _ t _ h => ⟨t, h⟩⟩
    rw [List.append_nil]
    obtain ⟨hc, ho⟩ := ho
    rcases ho with ⟨rfl, rfl⟩ | ⟨r, rfl, h1, h2, h3⟩
    · exact ⟨_, _, rfl, ⟨hc, .inl ⟨rfl, rfl⟩⟩, hg⟩
    · refine ⟨_, _, by simp only [appendT, Nat.add_zero, show Nat.ble n n = true from Nat.ble_eq_true_of_le (Nat.le_refl _), cond_true]; rfl, ⟨hc, .inr ⟨r, rfl, h1, h2, h3⟩⟩, hg⟩
  · obtain ⟨H', h1, h2, h3, h4⟩ := append_own (k := k) ho hb hlo hk hnew hcell hsz
    exact ⟨_, _, h1, h2, h3⟩
theorem Elems.append {α : Type} {R : Heap → List Value → α → Prop} {z : Nat} {cs ds : List Value} {l m : List α} (h : Elems R z H cs l) (h' : Elems R z H ds m) : Elems R z H (cs ++ ds) (l ++ m) := by
  refine ⟨by simp [h.1, h'.1, Nat.add_mul], fun i y hi => ?_⟩
  by_cases hlt : i < l.length
  · rw [List.getElem?_append_left hlt] at hi
    obtain ⟨p, h1, h2⟩ := h.2 i y hi
    refine ⟨p, ?_, h2⟩
    rw [cut_eq] at h1 ⊢
    split at h1
    · rename_i hle
      rw [if_pos (by simp; omega), List.drop_append_of_le_length (by omega), List.take_append_of_le_length (by simp; omega)]
      exact h1
    · cases h1
  · rw [List.getElem?_append_right (by omega)] at hi
    obtain ⟨p, h1, h2⟩ := h'.2 _ y hi
    refine ⟨p, ?_, h2⟩
    have hle : l.length ≤ i := by omega
    have e : i * z = cs.length + (i - l.length) * z := by
      rw [h.1, ← Nat.add_mul]; congr 1; omega
    rw [cut_eq] at h1 ⊢
    split at h1
    · rename_i hl2
      rw [e, if_pos (by simp; omega), ← List.drop_drop, List.drop_left]
      exact h1
    · cases h1
end

theorem cutAll11 (a b c d e f g h i j k : Value) : cut [a, b, c, d, e, f, g, h, i, j, k] 0 11 = some [a, b, c, d, e, f, g, h, i, j, k] := Eq.trans (cut_eq _ _ _) rfl
/-! ### The script of a graph -/
structure Op where
  d : Int
  h : Int
  g : Int
  i : Int
  v : Val
  w : Int
  kind : Int
  fields : Int
  raws : Int
  policy : Int
def Op.cells (o : Op) : List Value := [.int .i64 o.d, .int .i64 o.h, .int .i64 o.g, .int .i64 o.i, .int .i64 o.v.kind, .int .i64 o.v.x, .int .u64 o.w, .int .i64 o.kind, .int .i64 o.fields, .int .i64 o.raws, .int .u8 o.policy]
def ROp : Heap → List Value → Op → Prop := fun _ part o => part = o.cells
theorem ROp.mono : Mono ROp := fun _ _ _ _ _ h => h
def mkNew (n : Node) : Op := ⟨1, 0, 0, 0, ⟨0, 0⟩, 0, n.kind, n.fields.length, n.raws.length, 0⟩
def mkStore (i j : Nat) (v : Val) : Op := ⟨3, i, 0, j, v, 0, 0, 0, 0, 0⟩
def mkWrite (i j : Nat) (w : Int) : Op := ⟨5, i, 0, j, ⟨0, 0⟩, w, 0, 0, 0, 0⟩
def mkDup (v : Val) : Op := ⟨7, v.x, 0, 0, ⟨0, 0⟩, 0, 0, 0, 0, 0⟩
def mkRel (i : Nat) : Op := ⟨8, i, 0, 0, ⟨0, 0⟩, 0, 0, 0, 0, 0⟩

def storesOf (i : Nat) (l : List Val) : Nat → List Op
  | 0 => []
  | j + 1 => storesOf i l j ++ (match l[j]? with | some v => if v.kind = 0 then [] else [mkStore i j v] | none => [])
def putsOf (i : Nat) (l : List Int) : Nat → List Op
  | 0 => []
  | j + 1 => putsOf i l j ++ (match l[j]? with | some w => if w = 0 then [] else [mkWrite i j w] | none => [])
def nodeFills (i : Nat) (n : Node) : List Op := storesOf i n.fields n.fields.length ++ putsOf i n.raws n.raws.length
def fillsOf (l : List Node) : Nat → List Op
  | 0 => []
  | i + 1 => fillsOf l i ++ (match l[i]? with | some n => nodeFills i n | none => [])
def newsOf (l : List Node) (i : Nat) : List Op := (l.take i).map mkNew
def dupsOf (l : List Val) (i : Nat) : List Op := (l.take i).map mkDup
def endsOf (i : Nat) : List Op := (List.range i).map mkRel
def opsOf (g : Graph) : List Op := newsOf g.nodes g.nodes.length ++ fillsOf g.nodes g.nodes.length ++ dupsOf g.roots g.roots.length ++ endsOf g.nodes.length
def isRef (v : Val) : Bool := decide (v.kind = 2)
def buildErr (g : Graph) : Int := if right g = false then 4 else if g.roots.all isRef = false then 6 else if 1024 < g.nodes.length + g.roots.length then 8 else 0
def buildOps (g : Graph) : List Op := if buildErr g = 0 then opsOf g else []

theorem stores_no {i j : Nat} {l : List Val} (hj : j < l.length) (h : l[j].kind = 0) : storesOf i l (j + 1) = storesOf i l j := by simp only [storesOf, List.getElem?_eq_getElem hj, if_pos h, List.append_nil]
theorem stores_yes {i j : Nat} {l : List Val} (hj : j < l.length) (h : ¬ l[j].kind = 0) : storesOf i l (j + 1) = storesOf i l j ++ [mkStore i j l[j]] := by simp only [storesOf, List.getElem?_eq_getElem hj, if_neg h]
theorem puts_no {i j : Nat} {l : List Int} (hj : j < l.length) (h : l[j] = 0) : putsOf i l (j + 1) = putsOf i l j := by simp only [putsOf, List.getElem?_eq_getElem hj, if_pos h, List.append_nil]
theorem puts_yes {i j : Nat} {l : List Int} (hj : j < l.length) (h : ¬ l[j] = 0) : putsOf i l (j + 1) = putsOf i l j ++ [mkWrite i j l[j]] := by simp only [putsOf, List.getElem?_eq_getElem hj, if_neg h]
theorem fills_succ {i : Nat} {l : List Node} (hi : i < l.length) : fillsOf l (i + 1) = fillsOf l i ++ nodeFills i l[i] := by simp only [fillsOf, List.getElem?_eq_getElem hi]
theorem news_succ {i : Nat} {l : List Node} (hi : i < l.length) : newsOf l (i + 1) = newsOf l i ++ [mkNew l[i]] := by simp only [newsOf, List.take_add_one, List.getElem?_eq_getElem hi, Option.toList_some, List.map_append, List.map_cons, List.map_nil]
theorem dups_succ {i : Nat} {l : List Val} (hi : i < l.length) : dupsOf l (i + 1) = dupsOf l i ++ [mkDup l[i]] := by simp only [dupsOf, List.take_add_one, List.getElem?_eq_getElem hi, Option.toList_some, List.map_append, List.map_cons, List.map_nil]
theorem ends_succ (i : Nat) : endsOf (i + 1) = endsOf i ++ [mkRel i] := by simp [endsOf, List.range_succ]
theorem stores_len (i : Nat) (l : List Val) (j : Nat) : (storesOf i l j).length ≤ j := by
  induction j with
  | zero => simp [storesOf]
  | succ j ih =>
    simp only [storesOf, List.length_append]
    cases l[j]? with
    | none => simp only [List.length_nil]; omega
    | some v =>
      by_cases h : v.kind = 0
      · simp only [if_pos h, List.length_nil]; omega
      · simp only [if_neg h, List.length_cons, List.length_nil]; omega
theorem puts_len (i : Nat) (l : List Int) (j : Nat) : (putsOf i l j).length ≤ j := by
  induction j with
  | zero => simp [putsOf]
  | succ j ih =>
    simp only [putsOf, List.length_append]
    cases l[j]? with
    | none => simp only [List.length_nil]; omega
    | some v =>
      by_cases h : v = 0
      · simp only [if_pos h, List.length_nil]; omega
      · simp only [if_neg h, List.length_cons, List.length_nil]; omega
theorem news_len (l : List Node) (i : Nat) : (newsOf l i).length ≤ i := by simp only [newsOf, List.length_map, List.length_take]; omega
theorem dups_len (l : List Val) (i : Nat) : (dupsOf l i).length ≤ i := by simp only [dupsOf, List.length_map, List.length_take]; omega
theorem ends_len (i : Nat) : (endsOf i).length = i := by simp [endsOf]
theorem fills_len (l : List Node) (h : ∀ n ∈ l, n.fields.length ≤ 4096 ∧ n.raws.length ≤ 4096) (i : Nat) : (fillsOf l i).length ≤ i * 8192 := by
  induction i with
  | zero => simp [fillsOf]
  | succ i ih =>
    simp only [fillsOf, List.length_append]
    cases h0 : l[i]? with
    | none => simp only [List.length_nil]; omega
    | some n =>
      have := h n (List.mem_of_getElem? h0)
      have h1 := stores_len i n.fields n.fields.length
      have h2 := puts_len i n.raws n.raws.length
      simp only [nodeFills, List.length_append]
      omega
theorem right_lens {g : Graph} (h : right g = true) : ∀ n ∈ g.nodes, n.fields.length ≤ 4096 ∧ n.raws.length ≤ 4096 := by
  intro n hn
  simp only [right] at h
  split at h
  · rename_i h1
    have h2 := List.all_eq_true.1 h1 n hn
    simp only [nodeOk] at h2
    split at h2
    · cases h2
    split at h2
    · cases h2
    split at h2
    · cases h2
    split at h2
    · cases h2
    rename_i h3 h4
    simp at h3 h4
    omega
  · cases h
end Go.AM
