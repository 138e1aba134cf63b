-- By a program of this work (xprint.py) over the translation; Lean checks it.
import Derived.Test.YtghdkpcpgpfgcaaDoorXStax0
namespace Go.Proofs.YtghdkpcpgpfgcaaDoor.XSta
open Go.RowKit Go.Proofs.YtghdkpcpgpfgcaaDoorW.PrintWords Go.Proofs.YtghdkpcpgpfgcaaDoorW.PrintLast Go.Proofs.YtghdkpcpgpfgcaaDoorW.PrintMore
attribute [local go_sem] max2_int min2_int max_two min_two max_three min_three max_four min_four   -- for this text's walks alone
set_option linter.unusedVariables false
set_option linter.unusedSimpArgs false

-- NOT PRINTED: function 47 (stringslite_Index)

/-! ### strings_Index: function 33 -/
def strings_Index.f (a0 : ByteArray) (a1 : ByteArray) : Option Int := if a0.size < 4294967281 then some (Lib.index a0.data.toList a1.data.toList) else none
theorem strings_Index.calls (a0 : ByteArray) (a1 : ByteArray) (r : Int) (w : World) (hG : Gw w) (h : strings_Index.f a0 a1 = some r) :
    Calls Tryd.prog 33 #[.string a0, .string a1] w fun e w' => e = .returned (.int .i64 r) ∧ Below w.heap.size w w' := by
  obtain ⟨m, hm⟩ := hG
  unfold strings_Index.f at h
  split at h
  · rename_i hs
    obtain rfl := Option.some.inj h
    exact (Any.strings_Index { Tryd.laysM143 with } a0 a1 m w hs hm).mono fun e w' h => ⟨h.1, by rw [h.2]; exact Below.refl _ _⟩
  · cases h

/-! ### strings_Contains: function 32 -/
def strings_Contains.f (a0 : ByteArray) (a1 : ByteArray) : Option Bool := if a0.size < 4294967281 then some (Lib.contains a0.data.toList a1.data.toList) else none
theorem strings_Contains.calls (a0 : ByteArray) (a1 : ByteArray) (r : Bool) (w : World) (hG : Gw w) (h : strings_Contains.f a0 a1 = some r) :
    Calls Tryd.prog 32 #[.string a0, .string a1] w fun e w' => e = .returned (.bool r) ∧ Below w.heap.size w w' := by
  obtain ⟨m, hm⟩ := hG
  unfold strings_Contains.f at h
  split at h
  · rename_i hs
    obtain rfl := Option.some.inj h
    exact (Any.strings_Contains { Tryd.laysM144 with } a0 a1 m w hs hm).mono fun e w' h => ⟨h.1, by rw [h.2]; exact Below.refl _ _⟩
  · cases h

end Go.Proofs.YtghdkpcpgpfgcaaDoor.XSta
