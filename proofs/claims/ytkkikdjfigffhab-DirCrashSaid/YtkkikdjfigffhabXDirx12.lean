-- By a program of this work (xprint.py) over the translation; Lean checks it.
import Derived.Test.YtkkikdjfigffhabXDirx0
import Derived.Test.YtkkikdjfigffhabXDirx7
import Derived.Test.YtkkikdjfigffhabXDirx8
import Derived.Test.YtkkikdjfigffhabXDirx11
namespace Go.Proofs.Ytkkikdjfigffhab.XDir
open Go.RowKit Go.Proofs.YtkkikdjfigffhabW.PrintWords Go.Proofs.YtkkikdjfigffhabW.PrintLast Go.Proofs.YtkkikdjfigffhabW.PrintMore
attribute [local go_sem] max2_int min2_int max_two min_two max_three min_three max_four min_four   -- for this text's walks alone
set_option linter.unusedVariables false
set_option linter.unusedSimpArgs false

/-! ### dir_with: function 129 -/
def dir_with.f (l0 : List S77) (a1_0 : ByteArray) (a1_1 : Int) : Option (List S77) := (dir_place.f l0 a1_0).bind fun p => if p.2 = true then some (l0.set p.1.toNat ⟨a1_0, a1_1⟩) else some (l0.take p.1.toNat ++ ⟨a1_0, a1_1⟩ :: l0.drop p.1.toNat)
set_option maxHeartbeats 8000000 in
set_option maxRecDepth 100000 in
theorem dir_with.calls (A0 : Option Addr) (c0 : Nat) (l0 : List S77) (a1_0 : ByteArray) (a1_1 : Int) (r : List S77) (w : World) (hr0 : Kd.C k77 w A0 l0.length l0) (hc0 : l0.length ≤ c0) (h : dir_with.f l0 a1_0 a1_1 = some r) :
  Calls Try.prog 129 #[.slice A0 l0.length c0, .agg #[.string a1_0, .int .i64 a1_1]] w fun e w' => ∃ v0_ : Value, e = .returned (v0_) ∧ Kd.R k77 77 w' w.heap.size (fun _ => True) v0_ r ∧ Below w.heap.size w w' := by
 have hpl := api_Entry_152.plain
 have hsz : k77.sz = 2 := rfl
 unfold dir_with.f at h
 obtain ⟨⟨p, t⟩, hp, h⟩ := Option.bind_eq_some_iff.mp h
 obtain ⟨i, rfl, hi, ht, hl⟩ := dir_place.spec hp
 simp only [Int.toNat_natCast] at h
 have hclone : api_Entry_91.f l0 = some l0 := if_pos hl
 have HCL := mkA hclone
 have HP := mkA hp
 have HR := mkA hr0
 have HC0 := mkA hc0
 have HL := mkA hl
 have HI := mkA hi
 have HB := mkA (Below.refl w.heap.size w)
 clear hclone hp hr0 hc0
 cases t with
 | true =>
  have hit : i < l0.length := ht rfl
  rw [if_pos rfl] at h
  obtain rfl := Option.some.inj h
  have HIT := mkA hit
  have hin : (i : Int) < (l0.length : Int) := by omega
  have hi0 : (0 : Int) ≤ (i : Int) := by omega
  clear h ht hl hi
  go_enter Try.func129, Try.ntmps129
  go_wp2_with (first
   | ((with_reducible refine gate_dst (N := 3) rfl ?_); refine box_event ?hg (N := 3) ?hd (cs := #[.string a1_0, .int .i64 a1_1]) (t := 77) ?hr ?_; (case hd => rfl); (case hg => rfl); (case hr => first | (go_simp; done) | (go_simp; rfl)); intro gb hg w1 hbox hb; have BKb := mkA hbox; have HB1 := mkA (below_step (below_y HB.out) hb); clear HB hbox hb hg; have HB := HB1; clear HB1; have hcb0 : w1.cell? ⟨gb, 0, none⟩ = some (.string a1_0) := (blk_cell BKb.out 0).trans rfl)
   | (go_at_call 127; refine (dir_place.calls A0 c0 l0 a1_0 _ _ _ ?h1 HC0.out HP.out).mono ?_; (case h1 => exact Kd.C_below HR.out (below_y HB.out)); rintro e w2 ⟨rfl, hb⟩; have BKb1 := mkA (blk_below (blk_y BKb.out) hb); have HB1 := mkA (below_step (below_y HB.out) hb); clear HB hb BKb; have HB := HB1; have BKb := BKb1; clear HB1 BKb1)
   | (go_at_call 91; refine (api_Entry_91.calls A0 c0 l0 l0 _ ?h1 HC0.out HCL.out).mono ?_; (case h1 => exact Kd.C_below HR.out (below_y HB.out)); rintro e w3 ⟨v3, rfl, ho, hb⟩; have HO := mkA (Kd.R_lower ho (below_size (below_y HB.out))); have BKb1 := mkA (blk_below (blk_y BKb.out) hb); have HB1 := mkA (below_step (below_y HB.out) hb); clear HB ho hb BKb; have HB := HB1; have BKb := BKb1; clear HB1 BKb1; obtain ⟨g, c, cur, rfl, hg0, hg, hnc, hcm, hcl, hct⟩ := hpl.row1 HO.out (Nat.lt_of_le_of_lt (Nat.zero_le _) HIT.out); have HG := mkA hg; have HH := mkA (show w.heap.size ≤ g ∧ l0.length ≤ c ∧ c ≤ maxLen ∧ cur.length = c * 2 ∧ cur.take (l0.length * 2) = l0.flatMap _ from ⟨hg0, hnc, hcm, hcl, hct⟩); clear HO hg0 hg hnc hcm hcl hct)
   | ((with_reducible refine gate_load (t := 77) rfl ?_); refine load_row3 (t := 77) (g := gb) ?hg BKb.out ?ho ?hb Try.underlying77 rfl ?hs ?_; (case hg => rfl); (case ho => refine ⟨_, rfl, ?_⟩; first | (with_reducible rfl) | (go_simp; done)); (case hb => exact blk_y BKb.out); (case hs => kernel_rfl))
   | ((with_reducible refine gate_store (t := 77) (p := 21) rfl ?_); refine store_at (ty := 77) (t := 77) (g := g) (off := i * 2) (cur := cur) (cs := [.string a1_0, .int .i64 a1_1]) ?hg ?hn ?ho ?hw ?hs ?hf ?h1 ?_; (case hg => rfl); (case hn => rfl); (case ho => refine ⟨_, _, rfl, ?_, ?_⟩; all_goals (first | (with_reducible rfl) | (go_simp; done) | rfl | (go_simp; rfl))); (case hw => exact blk_y HG.out); (case hs => kernel_rfl); (case hf => have h1 := HH.out; have h2 := HIT.out; simp only [List.length_cons, List.length_nil]; omega); (case h1 => simp [Value.oneCell']); intro w4 hw4; have HW := mkA hw4; clear hw4))
  go_ret
  obtain ⟨hg0, hnc, hcm, hcl, hct⟩ := HH.out
  refine ⟨_, rfl, ?_, ?_⟩
  ·refine hpl.set_row (x := (⟨a1_0, a1_1⟩ : S77)) hg0 hnc hcm hcl hct HIT.out ?_
   rw [HW.out]
   exact setRow_heap _ g cur.toArray _ _ _ (blk_y HG.out)
  ·rw [HW.out]
   exact below_setRow (below_y HB.out) hg0 _
 | false =>
  rw [if_neg Bool.false_ne_true] at h
  obtain rfl := Option.some.inj h
  clear h ht hl hi
  go_enter Try.func129, Try.ntmps129
  go_wp2_with (first
   | ((with_reducible refine gate_dst (N := 3) rfl ?_); refine box_event ?hg (N := 3) ?hd (cs := #[.string a1_0, .int .i64 a1_1]) (t := 77) ?hr ?_; (case hd => rfl); (case hg => rfl); (case hr => first | (go_simp; done) | (go_simp; rfl)); intro gb hg w1 hbox hb; have BKb := mkA hbox; have HB1 := mkA (below_step (below_y HB.out) hb); clear HB hbox hb hg; have HB := HB1; clear HB1; have hcb0 : w1.cell? ⟨gb, 0, none⟩ = some (.string a1_0) := (blk_cell BKb.out 0).trans rfl)
   | (go_at_call 127; refine (dir_place.calls A0 c0 l0 a1_0 _ _ _ ?h1 HC0.out HP.out).mono ?_; (case h1 => exact Kd.C_below HR.out (below_y HB.out)); rintro e w2 ⟨rfl, hb⟩; have BKb1 := mkA (blk_below (blk_y BKb.out) hb); have HB1 := mkA (below_step (below_y HB.out) hb); clear HB hb BKb; have HB := HB1; have BKb := BKb1; clear HB1 BKb1)
   | (go_at_call 91; refine (api_Entry_91.calls A0 c0 l0 l0 _ ?h1 HC0.out HCL.out).mono ?_; (case h1 => exact Kd.C_below HR.out (below_y HB.out)); rintro e w3 ⟨v3, rfl, ho, hb⟩; have HO := mkA (Kd.R_lower ho (below_size (below_y HB.out))); have BKb1 := mkA (blk_below (blk_y BKb.out) hb); have HB1 := mkA (below_step (below_y HB.out) hb); clear HB ho hb BKb; have HB := HB1; have BKb := BKb1; clear HB1 BKb1)
   | ((with_reducible refine gate_load (t := 77) rfl ?_); refine load_row3 (t := 77) (g := gb) ?hg BKb.out ?ho ?hb Try.underlying77 rfl ?hs ?_; (case hg => rfl); (case ho => refine ⟨_, rfl, ?_⟩; first | (with_reducible rfl) | (go_simp; done)); (case hb => exact blk_y BKb.out); (case hs => kernel_rfl))
   | ((with_reducible refine gate_dst (N := 26) rfl ?_); refine Kd.R_lit k77 (w0 := w) w.heap.size 77 ?hg (N := 26) ?hd (xs := [(⟨a1_0, a1_1⟩ : S77)]) (inner := [.string a1_0, .int .i64 a1_1]) (ok := fun _ => True) (okp := fun _ => True) ?hr ?hp (fun _ hk => hk) trivial ?hB ?hS (by simp) ?_; (case hd => rfl); (case hg => rfl); (case hr => first | (go_simp; done) | (go_simp; rfl)); (case hp => exact hpl.reps_mk (fun x => hpl.toM _ _ _ x) [(⟨a1_0, a1_1⟩ : S77)]); (case hB => exact below_y HB.out); (case hS => exact below_size (below_y HB.out)); intro v4 w4 hv4 hb4 hg4 hnew; have HNE := mkA (lit_ne hnew (Kd.R_y HO.out)); have HO1 := mkA (Kd.R_grown (Kd.R_y HO.out) hg4 (fun k _ => by simp)); have HV := mkA hv4; have HB1 := mkA hb4; clear HB HO hv4 hb4 hg4 hnew; have HB := HB1; have HO := HO1; clear HB1 HO1)
   | (go_at_call 152; refine (api_Entry_152.calls v3 v4 l0 i (⟨a1_0, a1_1⟩ : S77) w _ HI.out HL.out ?h1 ?h2 HNE.out ?h3).mono ?_; (case h1 => exact Kd.R_y HO.out); (case h2 => exact Kd.R_y HV.out); (case h3 => exact below_y HB.out); rintro e w5 ⟨v5, rfl, ho, hb⟩; have HO5 := mkA ho; have HB5 := mkA hb; clear ho hb))
  go_ret
  exact ⟨_, rfl, HO5.out, HB5.out⟩

end Go.Proofs.Ytkkikdjfigffhab.XDir
