-- By a program of this work (xprint.py) over the translation; Lean checks it.
import Derived.Test.YtkkikdjfigffhabXDirx0
import Derived.Test.YtkkikdjfigffhabXDirx8
import Derived.Test.YtkkikdjfigffhabXDirx14
namespace Go.Proofs.Ytkkikdjfigffhab.XDir
open Go.RowKit Go.Proofs.YtkkikdjfigffhabW.PrintWords Go.Proofs.YtkkikdjfigffhabW.PrintLast Go.Proofs.YtkkikdjfigffhabW.PrintMore
attribute [local go_sem] max2_int min2_int max_two min_two max_three min_three max_four min_four   -- for this text's walks alone
set_option linter.unusedVariables false
set_option linter.unusedSimpArgs false

/-! ### dir_without: function 130 -/
def dir_without.f (l0 : List S77) (a1 : Int) : Option (List S77) := if l0.length < 1000000 ∧ 0 ≤ a1 ∧ a1 < (l0.length : Int) then some (l0.eraseIdx a1.toNat) else none
set_option maxHeartbeats 8000000 in
set_option maxRecDepth 100000 in
theorem dir_without.calls (A0 : Option Addr) (c0 : Nat) (l0 : List S77) (a1 : Int) (r : List S77) (w : World) (hr0 : Kd.C k77 w A0 l0.length l0) (hc0 : l0.length ≤ c0) (h : dir_without.f l0 a1 = some r) :
  Calls Try.prog 130 #[.slice A0 l0.length c0, .int .i64 a1] w fun e w' => ∃ v0_ : Value, e = .returned (v0_) ∧ Kd.R k77 77 w' w.heap.size (fun _ => True) v0_ r ∧ Below w.heap.size w w' := by
 unfold dir_without.f at h
 by_cases hk : l0.length < 1000000 ∧ 0 ≤ a1 ∧ a1 < (l0.length : Int)
 ·rw [if_pos hk] at h
  obtain rfl := Option.some.inj h
  obtain ⟨hl, h0, h1⟩ := hk
  obtain ⟨i, rfl⟩ : ∃ i : Nat, a1 = (i : Int) := ⟨a1.toNat, by omega⟩
  rw [Int.toNat_natCast]
  have hit : i < l0.length := by omega
  have hclone : api_Entry_91.f l0 = some l0 := if_pos hl
  have HCL := mkA hclone
  have HR := mkA hr0
  have HC0 := mkA hc0
  have HL := mkA hl
  have HIT := mkA hit
  have HB := mkA (Below.refl w.heap.size w)
  have hw1 : IntKind.i64.wrap ((i : Int) + 1) = (i : Int) + 1 := by rw [IntKind.wrap_i64]; omega
  clear hclone hr0 hc0 h hl h0 h1 hit
  go_enter Try.func130, Try.ntmps130
  go_wp2_with (first
   | (go_at_call 91; refine (api_Entry_91.calls A0 c0 l0 l0 _ ?h1 HC0.out HCL.out).mono ?_; (case h1 => exact Kd.C_below HR.out (below_y HB.out)); rintro e w3 ⟨v3, rfl, ho, hb⟩; have HO := mkA (Kd.R_lower ho (below_size (below_y HB.out))); have HB1 := mkA (below_step (below_y HB.out) hb); clear HB ho hb; have HB := HB1; clear HB1)
   | (go_at_call 153; refine (api_Entry_153.calls v3 l0 i w _ HIT.out HL.out ?h1 ?h3).mono ?_; (case h1 => exact Kd.R_y HO.out); (case h3 => exact below_y HB.out); rintro e w5 ⟨v5, rfl, ho, hb⟩; have HO5 := mkA ho; have HB5 := mkA hb; clear ho hb))
  go_ret
  exact ⟨_, rfl, HO5.out, HB5.out⟩
 ·rw [if_neg hk] at h
  cases h

end Go.Proofs.Ytkkikdjfigffhab.XDir
