/-
  TextLines is true of every input, where the variables that its row lists are laid.
-/
import Derived.Test.YtbpneihjlledpaaGreatDoorTie
import Derived.Test.YtbpneihjlledpaaGreatDoorCards
import Derived.Test.YtbpneihjlledpaaGreatDoorX20
import Derived.Test.YtbpneihjlledpaaGreatDoorXA
import Derived.Test.YtbpneihjlledpaaGreatDoorTW
import Derived.Test.YtbpneihjlledpaaGreatDoorBw34
import Derived.Test.YtbpneihjlledpaaGreatDoorAMc
import Derived.WalkKit
set_option linter.unusedSimpArgs false
namespace Go.Proofs.YtbpneihjlledpaaGreatDoor.TextLines
open Go Go.AM Go.ChangeShapes Go.WideShapes Go.ChangeAt Go.RowKit
attribute [local instance] fnMaps
set_option maxRecDepth 100000
theorem own : ownKnob Tryz.prog.godebug = none := by kernel_rfl
theorem laidOut : laidOutB Tryz.prog = true := by kernel_rfl
theorem named : Tryz.prog.funcs.toList.all (fun f => !(f.name == "runtime.NumGoroutine")) = true := by kernel_rfl
theorem hE : EnvOk AM.E where
  ty t i h := @EnvOk.ty trieMaps _ (@EnvOk.of trieMaps Tryz.prog named) t i (by
    have h1 : Trie.get tyT t = some i := h
    unfold tyT at h1
    exact h1)
  fn _ _ h := h
  num f g h := by
    have h1 : Tryz.prog.funcs[f]? = some g := h
    have h2 := List.all_eq_true.1 named g (List.mem_of_getElem? (by simpa using h1))
    simpa using h2
theorem awakeT : ToldOk AM.E ⟨6, fun args H => match args with | [] => some (.bool true, H) | _ => none⟩ where
  body := ⟨Tryz.f6, _, by kernel_rfl, rfl⟩
  low := by
    intro args H v H' _ h
    match args, h with
    | [], h => cases h; exact Low.refl _
  sim := by
    intro B lo0 m H w args args' v H' h ha hR
    match args, h, ha with
    | [], h, ha =>
      cases h
      have e : args' = #[] := Array.toList_eq_nil_iff.1 (LRel.inv_nil ha)
      subst e
      refine (Bw34.known w ⟨Nat.le_trans hR.glo.1 hR.base, hR.glo.2⟩).mono fun e w' ⟨he, ho⟩ => ?_
      exact ⟨.bool true, m, he, Good.grown hR ⟨ho.blk, ho.size, ho.os⟩, .bool _⟩
theorem hO : OrcOk AM.E :=
  orcT_ok (E := ⟨Tryz.prog, fun k => Trie.get tyT k, fun k => Tryz.prog.funcs[k]?, fun _ _ _ => none⟩) { hE with } fun x hx => by
    rcases List.mem_cons.1 hx with rfl | hx
    · exact { awakeT with }
    · exact tolds_ok rfl (fun g hg => by
        simp only [List.mem_cons, List.not_mem_nil, or_false] at hg
        rcases hg with rfl | rfl | rfl | rfl | rfl | rfl <;> exact ⟨_, _, rfl, rfl⟩) x hx
theorem walk (W : World) (hg : GN ≤ W.heap.size ∧ GL W) (o : TOp) (ho : OpOk o) (s : List UInt8) (a : TAns) (ha : AnsOk a) : Calls Tryz.prog 3 #[.agg (opL o).toArray, .string (B s), .agg (ansL a).toArray] W fun e W' => e = .returned (.bool true) ∧ AM.Old W.heap.size W W' :=
  calls_of_callA hE hO (H := Heap.empty) (args := [.agg (opL o).toArray, .string (B s), .agg (ansL a).toArray]) (by kernel_rfl) fn3 rfl ((lines_ok Heap.empty (Nat.le_refl _) o ho s a ha).mono fun _ _ h => h.1) (plain_eq rfl) (rel_empty W hg) (.cons (plainV_rel rfl) (.cons (.string _) (.cons (plainV_rel rfl) (.nil _))))
theorem lifted (os : Os) (started : os.Started) (H : Type) (enc : TypeId × Value → H) :
    ReturnsInHanded {} Tryz.checked os 3 .any (fun w args => (Rows.textLinesSpec.pre enc Tryz.prog Tryz.f3 [] false w args ∧ laidMetH Tryz.prog Rows.textLinesRow.laid w) ∧ sizedMet enc Tryz.prog Tryz.f3 (OpenSpec.ofChange Rows.textLinesSpec) false w args) (Rows.textLinesSpec.post enc Tryz.prog Tryz.f3 false true false false) := by
  refine law_laid (C := Tryz.checked) (X := fun w _ => laidMetH Tryz.prog Rows.textLinesRow.laid w) (fun _ _ _ hh h => h.of_heap hh) own started (by kernel_rfl) Tryz.func3
    (ChangeSpec.witness_shaped (enc := enc) (C := Tryz.checked) (os := os) (X := fun w _ => laidMetH Tryz.prog Rows.textLinesRow.laid w) false (laidWorld os) #[.agg (opL zO).toArray, .string ⟨#[]⟩, .agg #[.int .i64 0, .int .i64 0, .int .i64 0, .int .i64 0, .int .u64 0, .bool false, .int .i64 0, .int .i64 0, .int .i64 0]] 8 rfl (laidWorld_shaped os _) (by kernel_rfl) (by kernel_rfl) (by kernel_rfl) (laidWorld_met os _))
    rfl ?_ (tb := 4) (by kernel_rfl) Tryz.underlying4 laidOut (by kernel_rfl) ?_
  · intro ds hds
    match ds, hds with
    | [d0, d1, d2], _ => rfl
  · intro W base args ds before hval hA hlt hfz hL hsh
    rw [Tryz.params3] at hA hval
    obtain ⟨v0, vs0, d0, ds0, p0, q0, hargs, rfl, rfl, h0, r0⟩ := trodAll_cons hA
    obtain ⟨v1, vs1, d1, ds1, p1, q1, rfl, rfl, rfl, h1, r1⟩ := trodAll_cons r0
    obtain ⟨v2, vs2, d2, ds2, p2, q2, rfl, rfl, rfl, h2, r2⟩ := trodAll_cons r1
    obtain ⟨rfl, rfl, rfl⟩ := trodAll_nil r2
    obtain rfl : args = #[v0, v1, v2] := by cases args; simp_all
    obtain ⟨o, rfl, ho⟩ := opens_top (hval 0 26 v0 rfl rfl) h0
    obtain ⟨s, rfl⟩ := opens_tstr (hval 1 9 v1 rfl rfl) h1
    obtain ⟨a, rfl, ha⟩ := opens_tans (hval 2 29 v2 rfl rfl) h2
    exact walk W (GL_laid hL hsh) o ho s a ha
theorem fnm : Tryz.pinned.checked.prog.funcNamed Rows.textLinesRow.func = some 3 := by kernel_rfl
theorem inst : Tryz.f3.isInstance Tryz.pinned.checked.prog Rows.textLinesRow.origin Rows.textLinesRow.targs := of_decide_eq_true (by kernel_rfl)
theorem wrap : Tryz.f3.isWrapper Tryz.pinned.checked.prog Rows.textLinesRow.wrapper Rows.textLinesRow.mainSum := by
  unfold Func.isWrapper; first | (rw [if_pos (by decide +kernel)]; kernel_rfl) | (rw [if_neg (by decide +kernel)]; exact ⟨rfl, rfl⟩)
theorem closed : joinedFacts Tryz.pinned.checked.prog 3 Tryz.f3 Rows.textLinesSpec Rows.textLinesRow = true := by kernel_rfl
theorem pre_eq {H : Type} (enc : TypeId × Value → H) : Rows.textLinesRow.pre enc Tryz.pinned.checked.prog Tryz.f3 (OpenSpec.ofChange Rows.textLinesSpec) = (fun w args => (Rows.textLinesSpec.pre enc Tryz.prog Tryz.f3 [] false w args ∧ laidMetH Tryz.prog Rows.textLinesRow.laid w) ∧ sizedMet enc Tryz.prog Tryz.f3 (OpenSpec.ofChange Rows.textLinesSpec) false w args) := rfl
theorem over : Rows.TextLinesSaid :=
  OpenClaim.holds_of_wide 3 Tryz.f3 rfl rfl rfl rfl rfl rfl rfl ⟨rfl, rfl, rfl, rfl, rfl⟩ rfl rfl rfl rfl rfl fnm Tryz.func3 closed inst wrap
    (fun os started H enc _ => by rw [pre_eq]; exact lifted os started H enc)
theorem proved : Rows.TextLinesCardSaid :=
  Claim7.holds_tied_plain_at .later [] [.data, .data, .data, .data, .sentinel, .sentinel, .pinned] true (true, "fe4e39475de19ca917a1ee219d16e5b147b6422a09679e9e1015ec7bfd1864f5") true
    over (fun _ h => by cases h) (by kernel_rfl) (fun _ h => by cases h) textLines_row_tie rfl ⟨rfl, rfl⟩ (by kernel_rfl) rfl
    (fun f fn hf hfn => by
      obtain rfl : f = 3 := Option.some.inj ((show Tryz.prog.funcNamed "triforium/triforiumlaw34.TextLines" = some 3 by kernel_rfl).symm.trans hf) |>.symm
      obtain rfl : fn = Tryz.f3 := (Option.some.inj (Tryz.func3.symm.trans hfn)).symm
      exact ⟨by kernel_rfl, fun j t ht => by
        rw [Tryz.params3] at ht
        have h3 : t = 26 ∨ t = 9 ∨ t = 29 := by
          rcases j with _ | _ | _ | j
          · exact .inl (by simpa using ht.symm)
          · exact .inr (.inl (by simpa using ht.symm))
          · exact .inr (.inr (by simpa using ht.symm))
          · simp at ht
        rcases h3 with rfl | rfl | rfl
        · exact (show Tryz.prog.wantsStandIn 26 = false by kernel_rfl)
        · exact (show Tryz.prog.wantsStandIn 9 = false by kernel_rfl)
        · exact (show Tryz.prog.wantsStandIn 29 = false by kernel_rfl)⟩)
    (by kernel_rfl)
#print axioms proved
end Go.Proofs.YtbpneihjlledpaaGreatDoor.TextLines
