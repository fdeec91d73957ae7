/-
  Walks over letters of the functions that the law reaches.
-/
import Derived.Test.YtbpneihjlledpaaGreatDoorTS1
set_option linter.unusedSimpArgs false
set_option linter.unusedVariables false
set_option linter.unusedSectionVars false
namespace Go.Proofs.YtbpneihjlledpaaGreatDoor.Scripts
open Go Go.AM Go.ChangeShapes Go.WideShapes Go.ChangeAt Go.RowKit
set_option maxRecDepth 100000
theorem old_alloc (w : World) (o : Obj) : AM.Old w.heap.size w (w.alloc o) := ⟨fun b hb => by
  show (w.heap.push o)[b]? = _
  rw [Array.getElem?_push, if_neg (Nat.ne_of_lt hb)], by show w.heap.size ≤ (w.heap.push o).size; rw [Array.size_push]; omega, rfl, rfl⟩
theorem gl_old {w w' : World} (hg : GN ≤ w.heap.size ∧ GL w) (h : AM.Old w.heap.size w w') : GN ≤ w'.heap.size ∧ GL w' :=
  ⟨Nat.le_trans hg.1 h.size, GL_of (fun b hb => h.blk b (Nat.lt_of_lt_of_le hb hg.1)) hg.2⟩
theorem _root_.Go.AM.Old.trans' {B : Nat} {w w' w'' : World} (h : AM.Old B w w') (h' : AM.Old w'.heap.size w' w'') (hB : B ≤ w.heap.size) : AM.Old B w w'' :=
  ⟨fun b hb => (h'.blk b (Nat.lt_of_lt_of_le hb (Nat.le_trans hB h.size))).trans (h.blk b hb), Nat.le_trans h.size h'.size, ⟨h'.os.1.trans h.os.1, h'.os.2.trans h.os.2⟩⟩
theorem bat_old {T e : TypeId} {B b : Nat} {p : Value} {bs : List Value} {w w' : World} (h : Lib.BuilderAtF T e B b p bs w) (ho : AM.Old w.heap.size w w') : Lib.BuilderAtF T e B b p bs w' := by
  obtain ⟨hB, v, hb, ⟨h1, h2⟩, hne⟩ := h
  refine ⟨hB, v, (ho.blk b (Array.getElem?_eq_some_iff.1 hb).1).trans hb, ⟨h1, ?_⟩, hne⟩
  rcases h2 with h2 | ⟨g, cap, cur, fz, e1, e2, e3, e4⟩
  · exact .inl h2
  · exact .inr ⟨g, cap, cur, fz, e1, e2, (ho.blk g (Array.getElem?_eq_some_iff.1 e3).1).trans e3, e4⟩
theorem isb_old {T e : TypeId} {B b : Nat} {bs : List Value} {w w' : World} (h : Lib.IsBuilderF T e B b bs w) (ho : AM.Old w.heap.size w w') : Lib.IsBuilderF T e B b bs w' := h.elim (fun h => .inl (bat_old h ho)) (fun h => .inr (bat_old h ho))
theorem round_facts {l : List TOp} (hop : ∀ o ∈ l, OpOk o) {i : Nat} (hlt : i < l.length) {L1 : List UInt8} (hLn : lineR l[i] = (L1, 0)) (hA : ∀ x ∈ l.take i, (lineR x).2 = 0) :
    wrote (l.take (i + 1)) = (wrote (l.take i) ++ L1) ++ [10] ∧ (wrote (l.take i)).length ≤ 111 * i ∧ ∀ x ∈ l.take (i + 1), (lineR x).2 = 0 := by
  have hgx : l[i]? = some l[i] := List.getElem?_eq_getElem hlt
  have hsn : l.take (i + 1) = l.take i ++ [l[i]] := by rw [List.take_add_one, hgx]; rfl
  have hws := @wrote_snoc i0 (l.take i) l[i]
  rw [← hsn, hLn] at hws
  have hwl := @wrote_len i0 (l.take i) fun o ho => hop o (List.mem_of_mem_take ho)
  rw [List.length_take, Nat.min_eq_left (Nat.le_of_lt hlt)] at hwl
  refine ⟨hws, hwl, fun x hx => ?_⟩
  rw [hsn] at hx
  rcases List.mem_append.1 hx with hx | hx
  · exact hA x hx
  · rw [List.mem_singleton.1 hx, hLn]
theorem round_bad {l : List TOp} {i : Nat} (hlt : i < l.length) {L1 : List UInt8} (hLn : lineR l[i] = (L1, 1)) (hA : ∀ x ∈ l.take i, (lineR x).2 = 0) : scriptL l = ([], 1) := by
  have hsp : l = l.take i ++ l[i] :: l.drop (i + 1) := by rw [← List.drop_eq_getElem_cons hlt, List.take_append_drop]
  have hbd := @script_bad i0 (l.take i) l[i] (l.drop (i + 1)) hA (by rw [hLn]; show (1 : Int) ≠ 0; decide)
  rw [← hsp, hLn] at hbd
  exact hbd
theorem old_then {B : Nat} {w w' w'' : World} (h : AM.Old B w w') (h' : Below B w' w'') : AM.Old B w w'' :=
  ⟨fun b hb => (h'.block b hb).trans (h.blk b hb), Nat.le_trans h.size h'.size, ⟨h'.os.trans h.os.1, h'.output.trans h.os.2⟩⟩
set_option maxHeartbeats 1600000 in
theorem script_walk (w : World) (hg : GN ≤ w.heap.size ∧ GL w) (l : List TOp) (hop : ∀ o ∈ l, OpOk o) (hl : l.length ≤ 100) (ao : Option Addr) (c : Nat)
    (hread : ∀ (i : Nat) (hi : i < l.length) (wx : World), AM.Old w.heap.size w wx → ∃ a b f, ao = some a ∧ a.add (i * 11) = ⟨b, f, none⟩ ∧ ∀ j v, (opL l[i])[j]? = some v → wx.cell? ⟨b, f + j, none⟩ = some v) :
    Calls Tryz.prog 13 #[.slice ao l.length c] w fun e w' => e = .returned (.tuple #[.string (B (scriptL l).1), .int .i64 (scriptL l).2]) ∧ AM.Old w.heap.size w w' := by
  have h0 : Lib.IsBuilderF 70 5 w.heap.size w.heap.size (Lib.byteCells []) (w.alloc (.cells #[.pointer none, .slice none 0 0] 70)) := Lib.IsBuilderF.of (Lib.fresh_isBuilder 70 5 w)
  go_enter Tryz.func13, Tryz.ntmps13
  go_wp2
  go_loopw [11] (fun tv wr => ∃ i : Nat, tv = .int .i64 i ∧ i ≤ l.length ∧ Lib.IsBuilderF 70 5 w.heap.size w.heap.size (Lib.byteCells (wrote (l.take i))) wr ∧ AM.Old w.heap.size w wr ∧ ∀ x ∈ l.take i, (lineR x).2 = 0)
    (fun tv _ => match tv with | .int _ n => l.length - n.toNat | _ => 0)
  case atStart => exact ⟨0, rfl, Nat.zero_le _, h0, old_alloc w _, fun x hx => by simp at hx⟩
  case round =>
    obtain ⟨i, rfl, hi, hI, hO, hA⟩ := hrel
    by_cases hlt : i < l.length
    · obtain ⟨a, b, f, rfl, hadd, hld⟩ := hread i hlt wr hO
      have hc0 : wr.cell? ⟨b, f, none⟩ = _ := hld 0 _ rfl
      have hc1 := hld 1 _ rfl
      have hc2 := hld 2 _ rfl
      have hc3 := hld 3 _ rfl
      have hc4 := hld 4 _ rfl
      have hc5 := hld 5 _ rfl
      have hc6 := hld 6 _ rfl
      have hc7 := hld 7 _ rfl
      have hc8 := hld 8 _ rfl
      have hc9 := hld 9 _ rfl
      have hc10 := hld 10 _ rfl
      clear hld
      have hop1 := hop l[i] (List.getElem_mem hlt)
      have hgA : ∀ o, GN ≤ (wr.alloc o).heap.size ∧ GL (wr.alloc o) := fun o => gl_old hg (hO.trans' (old_alloc wr o) (Nat.le_refl _))
      have cL : ∀ o, Calls Tryz.prog 7 #[.agg #[.int .i64 l[i].d, .int .i64 l[i].h, .int .i64 l[i].g, .int .i64 l[i].i, .int .i64 l[i].vk, .int .i64 l[i].vx, .int .u64 l[i].w, .int .i64 l[i].k, .int .i64 l[i].f, .int .i64 l[i].r, .int .u8 l[i].p]] (wr.alloc o) fun e W' => e = .returned (.tuple #[.string (B (lineR l[i]).1), .int .i64 (lineR l[i]).2]) ∧ AM.Old (wr.alloc o).heap.size (wr.alloc o) W' := fun o => lineM _ (hgA o) l[i] hop1
      have hEr := @line_err i0 l[i]
      have hll := @lineS_len i0 l[i] hop1
      generalize hLn : lineR l[i] = L at *
      obtain ⟨L1, L2⟩ := L
      simp only at hEr
      rcases hEr with rfl | rfl
      · go_wp2_with (first | (go_at_call 7; refine (cL _).mono ?_; rintro e W1 ⟨rfl, h1⟩) | (go_at_call 43; fail))
        · exact absurd ‹9223372036854775807 < (B L1).size + 1› (by rw [@B_size i0]; omega)
        · obtain ⟨hws, hwl, hA2⟩ := round_facts hop hlt hLn hA
          have hB1 : (B L1 ++ ⟨#[10]⟩).data.toList = L1 ++ [10] := by rw [show (⟨#[10]⟩ : ByteArray) = B [10] from rfl, @B_app i0, @B_list i0]
          have hO1 := (hO.trans' (old_alloc wr _) (Nat.le_refl _)).trans' h1 (Nat.le_refl _)
          have hI1 := isb_old (hI.alloc _) h1
          clear cL hgA hc0 hc1 hc2 hc3 hc4 hc5 hc6 hc7 hc8 hc9 hc10
          have hS1 := hO1.size
          refine (writeM w.heap.size w.heap.size _ _ _ hI1 ?_ hS1).mono ?_
          · have e1 : (Lib.byteCells (wrote (l.take i))).length = (wrote (l.take i)).length := List.length_map ..
            rw [e1, Lib.size_eq, hB1, List.length_append]
            simp only [List.length_cons, List.length_nil]
            omega
          · rintro e W2 ⟨rfl, h2, b2, _⟩
            go_wp2
            go_roundw
            case rel =>
              refine ⟨i + 1, rfl, by omega, ?_, old_then hO1 b2, hA2⟩
              rw [hws, List.append_assoc, ← hB1, Lib.byteCells_append, ← Lib.strCells_eq]
              exact Or.inr h2
            case measure =>
              show l.length - ((i : Int) + 1).toNat < l.length - ((i : Int)).toNat
              omega
      · have hbd := round_bad hlt hLn hA
        go_wp2_with (first | (go_at_call 7; refine (cL _).mono ?_; rintro e W1 ⟨rfl, h1⟩) | (go_at_call 43; fail))
        go_ret2
        exact ⟨by rw [hbd]; rfl, (hO.trans' (old_alloc wr _) (Nat.le_refl _)).trans' h1 (Nat.le_refl _)⟩
    · have ei : i = l.length := by omega
      subst ei
      rw [List.take_length] at hI hA
      have hsc := @script_all i0 l hA
      have hS := hO.size
      go_wp2_with (go_at_call 44; refine (Tryz.Builder_String_any_k w.heap.size w.heap.size _ _ hI hS).mono ?_)
      rintro e W1 ⟨rfl, _, b1, _⟩
      go_wp2
      go_ret2
      exact ⟨by rw [hsc]; rfl, old_then hO b1⟩
end Go.Proofs.YtbpneihjlledpaaGreatDoor.Scripts
