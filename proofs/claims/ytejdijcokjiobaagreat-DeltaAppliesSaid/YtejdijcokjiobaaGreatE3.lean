/-
  Walks over letters of the functions that the law reaches.
-/
import Derived.Test.YtejdijcokjiobaaGreatE2
namespace Go.AM
attribute [local instance] fnMaps
open Go Go.Proofs
set_option maxRecDepth 100000
section
variable {Hd : Type} {enc : TypeId × Value → Hd} {w : World} {base : Nat} {held : Bool}
theorem param_at {r : Reach} {b0 : Nat} {v : Value} {d : DataW Hd} {ps : List MemPlace} (hval : Value.okWide Tryz.prog w r b0 40 v) (hd : DataW.Trod enc Tryz.prog w base (fun _ => true) held 40 v d ps) : okV w v = true ∧ ∃ l, SLr (RInt .i64) 1 (wh w) (trV w v) l := by
  obtain ⟨h1, ⟨l, h2⟩, h3⟩ := param_slice Tryz.underlying40 (z := 1) (by kernel_rfl) (by omega) (fun _ => opens_int Tryz.underlying3) hval hd
  exact ⟨h1, l, h2, h3⟩
theorem param_words {r : Reach} {b0 : Nat} {v : Value} {d : DataW Hd} {ps : List MemPlace} (hval : Value.okWide Tryz.prog w r b0 24 v) (hd : DataW.Trod enc Tryz.prog w base (fun _ => true) held 24 v d ps) : okV w v = true ∧ ∃ l, SLr (RInt .u64) 1 (wh w) (trV w v) l := by
  obtain ⟨h1, ⟨l, h2⟩, h3⟩ := param_slice Tryz.underlying24 (z := 1) (by kernel_rfl) (by omega) (fun _ => opens_int Tryz.underlying41) hval hd
  exact ⟨h1, l, h2, h3⟩
end
end Go.AM
