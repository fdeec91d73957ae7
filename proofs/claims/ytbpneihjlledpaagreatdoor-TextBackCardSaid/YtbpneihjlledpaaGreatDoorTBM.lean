/-
  TextBack is true of every input, where the variables that its row lists are laid.
-/
import Derived.Test.YtbpneihjlledpaaGreatDoorTie
import Derived.Test.YtbpneihjlledpaaGreatDoorCards
import Derived.Test.YtbpneihjlledpaaGreatDoorX27
import Derived.Test.YtbpneihjlledpaaGreatDoorTS4
import Derived.Test.YtbpneihjlledpaaGreatDoorAMc
set_option linter.unusedSimpArgs false
set_option linter.unusedVariables false
set_option linter.unusedSectionVars false
namespace Go.Proofs.YtbpneihjlledpaaGreatDoor.TextBack
open Go Go.AM Go.ChangeShapes Go.WideShapes Go.ChangeAt Go.RowKit Go.Proofs.YtbpneihjlledpaaGreatDoor.Scripts
attribute [local instance] fnMaps i1
set_option maxRecDepth 100000
theorem own : ownKnob Tryz.prog.godebug = none := by kernel_rfl
theorem laidOut : laidOutB Tryz.prog = true := by kernel_rfl
theorem opens_rop {Hd : Type} {enc : TypeId × Value → Hd} {w : World} {base : Nat} {held : Bool} : Opens enc Tryz.prog w base held 26 ROp := by
  intro fuel cs y hd
  obtain ⟨o, rfl, ho⟩ := trod_op hd
  have hp : ∀ v ∈ opL o, okV w v = true ∧ trV w v = v := fun v hv => by
    unfold opL inO at hv
    simp only [List.mem_cons, List.not_mem_nil, or_false] at hv
    rcases hv with rfl | rfl | rfl | rfl | rfl | rfl | rfl | rfl | rfl | rfl | rfl <;> exact ⟨rfl, rfl⟩
  refine ⟨fun v hv => (hp v hv).1, o, ?_, ho⟩
  exact (List.map_congr_left fun v hv => (hp v hv).2).trans (List.map_id _)
theorem opens_u8 {Hd : Type} {enc : TypeId × Value → Hd} {w : World} {base : Nat} {held : Bool} {r : Reach} {b0 : Nat} {v : Value} {d : DataW Hd} {ps : List MemPlace} (hval : Value.okWide Tryz.prog w r b0 5 v) (hd : DataW.Trod enc Tryz.prog w base (fun _ => true) held 5 v d ps) : ∃ n, v = .int .u8 n ∧ 0 ≤ n ∧ n ≤ 255 := by
  obtain ⟨n, rfl⟩ := okWide_int Tryz.underlying5 hval
  obtain ⟨fuel, hd⟩ := hd
  obtain ⟨m, e, h⟩ := trod_u8 Tryz.underlying5 hd
  cases e
  exact ⟨n, rfl, h⟩
theorem walk (W : World) (hg : GN ≤ W.heap.size ∧ GL W) (x : Value) (l : List TOp) (kx : okV W x = true) (hl : OpsR (wh W) (trV W x) l) (s : List UInt8) (many : Nat) (hm : many ≤ 255) : Calls Tryz.prog 5 #[x, .string (B s), .int .u8 many] W fun e W' => e = .returned (.bool true) ∧ AM.Old W.heap.size W W' :=
  calls_of_callA (E := @AM.E i1) (@hE i1) (@hO i1 toldS) (H := wh W) (args := [trV W x, .string (B s), .int .u8 many]) (by kernel_rfl) (@fn5 i1) rfl ((@back_ok i1 ans_i1 (wh W) (Nat.le_refl _) _ l hl s many hm).mono fun _ _ h => h.1) (plain_eq rfl) (world_rel W hg) (.cons (okV_rel W kx) (.cons (.string _) (.cons (.int _ _) (.nil _))))
theorem lifted (os : Os) (started : os.Started) (H : Type) (enc : TypeId × Value → H) :
    ReturnsInHanded {} Tryz.checked os 5 .any (fun w args => (Rows.textBackSpec.pre enc Tryz.prog Tryz.f5 [] false w args ∧ laidMetH Tryz.prog Rows.textBackRow.laid w) ∧ sizedMet enc Tryz.prog Tryz.f5 (OpenSpec.ofChange Rows.textBackSpec) false w args) (Rows.textBackSpec.post enc Tryz.prog Tryz.f5 false true false false) := by
  refine law_laid (C := Tryz.checked) (X := fun w _ => laidMetH Tryz.prog Rows.textBackRow.laid w) (fun _ _ _ hh h => h.of_heap hh) own started (by kernel_rfl) Tryz.func5
    (ChangeSpec.witness_shaped (enc := enc) (C := Tryz.checked) (os := os) (X := fun w _ => laidMetH Tryz.prog Rows.textBackRow.laid w) false (laidWorld os) #[.slice none 0 0, .string ⟨#[]⟩, .int .u8 0] 8 rfl (laidWorld_shaped os _) (by kernel_rfl) (by kernel_rfl) (by kernel_rfl) (laidWorld_met os _))
    rfl ?_ (tb := 4) (by kernel_rfl) Tryz.underlying4 laidOut (by kernel_rfl) ?_
  · intro ds hds
    match ds, hds with
    | [d0, d1, d2], _ => rfl
  · intro W base args ds before hval hA hlt hfz hL hsh
    rw [Tryz.params5] at hA hval
    obtain ⟨v0, vs0, d0, ds0, p0, q0, hargs, rfl, rfl, h0, r0⟩ := trodAll_cons hA
    obtain ⟨v1, vs1, d1, ds1, p1, q1, rfl, rfl, rfl, h1, r1⟩ := trodAll_cons r0
    obtain ⟨v2, vs2, d2, ds2, p2, q2, rfl, rfl, rfl, h2, r2⟩ := trodAll_cons r1
    obtain ⟨rfl, rfl, rfl⟩ := trodAll_nil r2
    obtain rfl : args = #[v0, v1, v2] := by cases args; simp_all
    obtain ⟨kx, ⟨l, hl⟩, hr⟩ := param_slice (R := ROp) (z := 11) Tryz.underlying37 (by kernel_rfl) (by decide) (fun _ => opens_rop) (hval 0 37 v0 rfl rfl) h0
    obtain ⟨s, rfl⟩ := opens_tstr (hval 1 9 v1 rfl rfl) h1
    obtain ⟨m, rfl, m0, m1⟩ := opens_u8 (hval 2 5 v2 rfl rfl) h2
    obtain ⟨many, rfl⟩ := Int.eq_ofNat_of_zero_le m0
    exact walk W (GL_laid hL hsh) v0 l kx ⟨hl, hr⟩ s many (by omega)
theorem fnm : Tryz.pinned.checked.prog.funcNamed Rows.textBackRow.func = some 5 := by kernel_rfl
theorem inst : Tryz.f5.isInstance Tryz.pinned.checked.prog Rows.textBackRow.origin Rows.textBackRow.targs := of_decide_eq_true (by kernel_rfl)
theorem wrap : Tryz.f5.isWrapper Tryz.pinned.checked.prog Rows.textBackRow.wrapper Rows.textBackRow.mainSum := by
  unfold Func.isWrapper; first | (rw [if_pos (by decide +kernel)]; kernel_rfl) | (rw [if_neg (by decide +kernel)]; exact ⟨rfl, rfl⟩)
theorem closed : joinedFacts Tryz.pinned.checked.prog 5 Tryz.f5 Rows.textBackSpec Rows.textBackRow = true := by kernel_rfl
theorem pre_eq {H : Type} (enc : TypeId × Value → H) : Rows.textBackRow.pre enc Tryz.pinned.checked.prog Tryz.f5 (OpenSpec.ofChange Rows.textBackSpec) = (fun w args => (Rows.textBackSpec.pre enc Tryz.prog Tryz.f5 [] false w args ∧ laidMetH Tryz.prog Rows.textBackRow.laid w) ∧ sizedMet enc Tryz.prog Tryz.f5 (OpenSpec.ofChange Rows.textBackSpec) false w args) := rfl
theorem over : Rows.TextBackSaid :=
  OpenClaim.holds_of_wide 5 Tryz.f5 rfl rfl rfl rfl rfl rfl rfl ⟨rfl, rfl, rfl, rfl, rfl⟩ rfl rfl rfl rfl rfl fnm Tryz.func5 closed inst wrap
    (fun os started H enc _ => by rw [pre_eq]; exact lifted os started H enc)
theorem proved : Rows.TextBackCardSaid :=
  Claim7.holds_tied_plain_at .later [] [.data, .data, .data, .data, .sentinel, .sentinel, .pinned] true (true, "fe4e39475de19ca917a1ee219d16e5b147b6422a09679e9e1015ec7bfd1864f5") true
    over (fun _ h => by cases h) (by kernel_rfl) (fun _ h => by cases h) textBack_row_tie rfl ⟨rfl, rfl⟩ (by kernel_rfl) rfl
    (fun f fn hf hfn => by
      obtain rfl : f = 5 := Option.some.inj ((show Tryz.prog.funcNamed "triforium/triforiumlaw34.TextBack" = some 5 by kernel_rfl).symm.trans hf) |>.symm
      obtain rfl : fn = Tryz.f5 := (Option.some.inj (Tryz.func5.symm.trans hfn)).symm
      exact ⟨by kernel_rfl, fun j t ht => by
        rw [Tryz.params5] at ht
        have h3 : t = 37 ∨ t = 9 ∨ t = 5 := by
          rcases j with _ | _ | _ | j
          · exact .inl (by simpa using ht.symm)
          · exact .inr (.inl (by simpa using ht.symm))
          · exact .inr (.inr (by simpa using ht.symm))
          · simp at ht
        rcases h3 with rfl | rfl | rfl
        · exact (show Tryz.prog.wantsStandIn 37 = false by kernel_rfl)
        · exact (show Tryz.prog.wantsStandIn 9 = false by kernel_rfl)
        · exact (show Tryz.prog.wantsStandIn 5 = false by kernel_rfl)⟩)
    (by kernel_rfl)
#print axioms proved
end Go.Proofs.YtbpneihjlledpaaGreatDoor.TextBack
