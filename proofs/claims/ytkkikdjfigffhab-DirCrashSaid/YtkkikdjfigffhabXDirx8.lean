-- By a program of this work (xprint.py) over the translation; Lean checks it.
import Derived.Test.YtkkikdjfigffhabXDirx0
namespace Go.Proofs.Ytkkikdjfigffhab.XDir
open Go.RowKit Go.Proofs.YtkkikdjfigffhabW.PrintWords Go.Proofs.YtkkikdjfigffhabW.PrintLast Go.Proofs.YtkkikdjfigffhabW.PrintMore
attribute [local go_sem] max2_int min2_int max_two min_two max_three min_three max_four min_four   -- for this text's walks alone
set_option linter.unusedVariables false
set_option linter.unusedSimpArgs false

/-! ### api_Entry_91: function 91 -/
theorem api_Entry_91.km {w : World} {base : Nat} {ok : Nat → Prop} {x : S77} {cs : List Value} (h : k77.K w x cs) : k77.M w base ok x cs := by
 obtain rfl := k77_open h
 exact k77_mkM w base ok x
def api_Entry_91.f (l0 : List S77) : Option (List S77) := if l0.length < 1000000 then some l0 else none
set_option maxHeartbeats 4000000 in
set_option maxRecDepth 100000 in
theorem api_Entry_91.calls (A0 : Option Addr) (c0 : Nat) (l0 : List S77) (r : List S77) (w : World) (hr0 : Kd.C k77 w A0 l0.length l0) (hc0 : l0.length ≤ c0) (h : api_Entry_91.f l0 = some r) :
  Calls Try.prog 91 #[.slice A0 l0.length c0] w fun e w' => ∃ v0_ : Value, e = .returned (v0_) ∧ Kd.R k77 77 w' w.heap.size (fun _ => True) v0_ r ∧ Below w.heap.size w w' := by
 unfold api_Entry_91.f at h
 by_cases hl : l0.length < 1000000
 ·rw [if_pos hl] at h
  obtain rfl := Option.some.inj h
  rcases A0 with _ | ad
  ·have h0 : l0 = [] := by
    rcases Nat.eq_zero_or_pos l0.length with h0 | h0
    ·exact List.length_eq_zero_iff.1 h0
    ·obtain ⟨ad, e, _⟩ := hr0.2.2 h0
     cases e
   subst h0
   clear h hr0 hc0 hl
   have hq := fun (W : World) => Lib.run_eql_slice_nil (P := Try.prog) W 64 77 none ([] : List S77).length c0 0 0 Try.underlying64
   have hq' : ∀ W : World, (binOp .eql 64 (.slice none 0 c0) (.slice none 0 0)).run Try.prog W = .ok (.bool true) W := hq
   clear hq
   show Calls Try.prog 91 #[.slice none 0 c0] w _
   go_enter Try.func91, Try.ntmps91
   go_wp2
   go_ret
   exact ⟨_, rfl, Kd.R_nil _ _ _ _ _, Below.refl _ _⟩
  ·have hq : ∀ W : World, (binOp .eql 64 (.slice (some ad) l0.length c0) (.slice none 0 0)).run Try.prog W = .ok (.bool false) W := fun (W : World) => Lib.run_eql_slice_nil (P := Try.prog) W 64 77 (some ad) l0.length c0 0 0 Try.underlying64
   have HR := mkA hr0
   have HL := mkA hl
   have HB := mkA (Below.refl w.heap.size w)
   clear h hr0 hc0 hl
   go_enter Try.func91, Try.ntmps91
   go_wp2_with (first | ((with_reducible refine gate_dst (N := 5) rfl ?_); refine Kd.R_lit k77 _ 77 ?hg (N := 5) ?hd (xs := ([] : List S77)) (inner := []) (ok := fun _ => True) (okp := fun _ => True) ?hr ?hp (fun _ hk => hk) trivial (Below.refl _ _) (Nat.le_refl _) (by simp) ?_; (case hd => rfl); (case hg => rfl); (case hr => first | (go_simp; done) | (go_simp; rfl)); (case hp => exact (Reps.none _ _)); intro v1 w1 ho hb hg_ hnew_; clear hg_ hnew_ HB; have HO := mkA ho; have HB := mkA hb; clear ho hb) | ((with_reducible refine gate_builtin (b := .append) (xs := #[.tmp 5, .tmp 6]) rfl ?_); at_builtin; refine Kd.R_append_rows k77 (w0 := w) w.heap.size rfl (.tmp 5) (.tmp 6) 64 77 (.agg #[.string ⟨#[]⟩, .int .i64 0]) 24 rfl Try.underlying64 info77 rfl (show 0 < 2 by decide) (by decide) v1 [] l0 _ _ _ (fun _ => True) (fun _ => False) rfl rfl ?aO ?aR (fun x cs h => api_Entry_91.km h) (fun _ h => h.elim) ?aF ?aB ?aS ?aL ?_; (case aR => exact (Kd.C_below HR.out (below_y HB.out))); (case aB => exact below_y HB.out); (case aF => exact (fun _ _ => trivial)); (case aO => exact (Kd.R_y HO.out)); (case aS => exact below_size (below_y HB.out)); (case aL => have := HL.out; simp <;> omega); intro v2 w2 ho2 hb2 hg hat; have HO2 := mkA ho2; have HB2 := mkA hb2; clear ho2 hb2 hg hat))
   go_ret
   exact ⟨_, rfl, HO2.out, HB2.out⟩
 ·rw [if_neg hl] at h
  cases h

-- NOT PRINTED: function 163 (api_Entry_163)

end Go.Proofs.Ytkkikdjfigffhab.XDir
