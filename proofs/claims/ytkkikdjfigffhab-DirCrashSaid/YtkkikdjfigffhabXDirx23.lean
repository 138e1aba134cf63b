-- By a program of this work (xprint.py) over the translation; Lean checks it.
import Derived.Test.YtkkikdjfigffhabXDirx0
import Derived.Test.YtkkikdjfigffhabXDirx22
namespace Go.Proofs.Ytkkikdjfigffhab.XDir
open Go.RowKit Go.Proofs.YtkkikdjfigffhabW.PrintWords Go.Proofs.YtkkikdjfigffhabW.PrintLast Go.Proofs.YtkkikdjfigffhabW.PrintMore
attribute [local go_sem] max2_int min2_int max_two min_two max_three min_three max_four min_four   -- for this text's walks alone
set_option linter.unusedVariables false
set_option linter.unusedSimpArgs false

/-! ### dir_Find: function 44 -/
def dir_Find.f (l0_0 : List S77) (l0_1 : List S77) (l0_2 : List S69) (a1 : ByteArray) : Option (Int × Bool) := some (match l0_0.find? (fun x => x.f0.toList == a1.toList) with | some x => (x.f1, true) | none => (0, false))
theorem dir_Find.clo (W : World) (gi : Nat) (n : ByteArray) (x : S77) (hi : W.heap[gi]? = some (.cells #[.string n] 9 (0, 0))) :
  Calls Try.prog 95 #[.agg #[.string x.f0, .int .i64 x.f1], .pointer (some ⟨gi, 0, none⟩)] W fun e w' => e = .returned (.bool (x.f0.toList == n.toList)) ∧ Below W.heap.size W w' := by
 have HI := mkA hi
 have HB := mkA (Below.refl W.heap.size W)
 clear hi
 go_enter Try.func95, Try.ntmps95
 go_wp2_with ((with_reducible refine gate_dst (N := 2) rfl ?_); refine box_event ?hg (N := 2) ?hd (cs := #[.string x.f0, .int .i64 x.f1]) (t := 77) ?hr ?_; (case hd => rfl); (case hg => rfl); (case hr => first | (go_simp; done) | (go_simp; rfl)); intro gb hg w1 hbox hb; have HB1 := mkA (below_step (below_y HB.out) hb); have hcb0 : w1.cell? ⟨gb, 0, none⟩ = some (.string x.f0) := (blk_cell hbox 0).trans rfl; have hci : w1.cell? ⟨gi, 0, none⟩ = some (.string n) := (blk_cell (blk_below (blk_y HI.out) hb) 0).trans rfl; clear HB hbox hb hg; have HB := HB1; clear HB1)
 go_ret
 exact ⟨rfl, HB.out⟩
set_option maxHeartbeats 8000000 in
set_option maxRecDepth 100000 in
theorem dir_Find.calls (A0_0 : Option Addr) (c0_0 : Nat) (l0_0 : List S77) (A0_1 : Option Addr) (c0_1 : Nat) (l0_1 : List S77) (A0_2 : Option Addr) (c0_2 : Nat) (l0_2 : List S69) (a1 : ByteArray) (r1 : Int) (r2 : Bool) (w : World) (hr0_0 : Kd.C k77 w A0_0 l0_0.length l0_0) (hc0_0 : l0_0.length ≤ c0_0) (hr0_1 : Kd.C k77 w A0_1 l0_1.length l0_1) (hc0_1 : l0_1.length ≤ c0_1) (hr0_2 : Kd.C k69 w A0_2 l0_2.length l0_2) (hc0_2 : l0_2.length ≤ c0_2) (h : dir_Find.f l0_0 l0_1 l0_2 a1 = some (r1, r2)) :
  Calls Try.prog 44 #[.agg #[.slice A0_0 l0_0.length c0_0, .slice A0_1 l0_1.length c0_1, .slice A0_2 l0_2.length c0_2], .string a1] w fun e w' => e = .returned (.tuple #[.int .i64 r1, .bool r2]) ∧ Below w.heap.size w w' := by
 have hm := Option.some.inj h
 have HM := mkA hm
 have HR := mkA hr0_0
 have HC0 := mkA hc0_0
 have HB := mkA (Below.refl w.heap.size w)
 have hu := Try.underlying67
 clear h hm hr0_1 hc0_1 hr0_2 hc0_2
 by_cases hlt : findI (fun x : S77 => x.f0.toList == a1.toList) l0_0 < 0
 ·have hd := decide_eq_true hlt
  have HLT := mkA hlt
  generalize hv : findI (fun x : S77 => x.f0.toList == a1.toList) l0_0 = v at hd HLT
  have HV := mkA hv
  clear hlt hv hr0_0 hc0_0
  go_enter Try.func44, Try.ntmps44
  go_wp2_with (first
   | ((with_reducible refine gate_dst (N := 2) rfl ?_); refine box_event ?hg (N := 2) ?hd (cs := #[.slice A0_0 l0_0.length c0_0, .slice A0_1 l0_1.length c0_1, .slice A0_2 l0_2.length c0_2]) (t := 67) ?hr ?_; (case hd => rfl); (case hg => rfl); (case hr => first | (go_simp; done) | (go_simp; rfl)); intro gb hg w1 hbox hb; have BKb := mkA hbox; have HB1 := mkA (below_step (below_y HB.out) hb); clear HB hbox hb hg; have HB := HB1; clear HB1)
   | ((with_reducible refine gate_dst (N := 3) rfl ?_); refine box_event ?hg (N := 3) ?hd (cs := #[.string a1]) (t := 9) ?hr ?_; (case hd => rfl); (case hg => rfl); (case hr => first | (go_simp; done) | (go_simp; rfl)); intro gi hg w2 hbox hb; have BKi := mkA hbox; have BKb1 := mkA (blk_below (blk_y BKb.out) hb); have HB1 := mkA (below_step (below_y HB.out) hb); clear HB BKb hbox hb hg; have HB := HB1; have BKb := BKb1; clear HB1 BKb1; have hcb0 : w2.cell? ⟨gb, 0, none⟩ = some (.slice A0_0 l0_0.length c0_0) := (blk_cell BKb.out 0).trans rfl)
   | (go_at_call 94; refine (api_Entry_94.calls #[.pointer (some ⟨gi, 0, none⟩)] Try.func95 (by kernel_rfl) rfl (fun x : S77 => x.f0.toList == a1.toList) A0_0 c0_0 l0_0 _ ?h1 HC0.out ?hf).mono ?_; (case h1 => exact Kd.C_below HR.out (below_y HB.out)); (case hf => intro W x cs _ hb hK; obtain rfl := k77_open hK; exact dir_Find.clo W gi a1 x (blk_below (blk_y BKi.out) hb)); rintro e w3 ⟨rfl, hb⟩; rw [HV.out]; have HB1 := mkA (below_step (below_y HB.out) hb); clear HB hb; have HB := HB1; clear HB1))
  first | go_ret2 | go_ret
  refine ⟨?_, HB.out⟩
  have hn : l0_0.find? (fun x => x.f0.toList == a1.toList) = none := findI_neg (by rw [HV.out]; exact HLT.out)
  have h3 := HM.out
  rw [hn] at h3
  injection h3 with e1 e2
  rw [← e1, ← e2]
  rfl
 ·obtain ⟨i, hi, hv, hf⟩ := findI_some hlt
  obtain ⟨ad, e, hx0, hx1⟩ := at_T77 HR.out (i : Int) (by omega) (by omega)
  cases e
  have hget : rd_T77 l0_0 (i : Int) = l0_0[i] := by
   unfold rd_T77
   rw [List.getD_eq_getElem?_getD, Int.toNat_natCast, List.getElem?_eq_getElem hi]
   rfl
  rw [hget, Int.toNat_natCast] at hx0 hx1
  have HM2 := HM.out
  rw [hf] at HM2
  injection HM2 with e1 e2
  have hd : decide ((i : Int) < 0) = false := decide_eq_false (by omega)
  have HV := mkA hv
  have E1 := mkA e1
  have E2 := mkA e2
  have hin : (i : Int) < (l0_0.length : Int) := by omega
  have hi0 : (0 : Int) ≤ (i : Int) := by omega
  generalize l0_0[i] = y at hx0 hx1 E1
  clear hlt hv hr0_0 hc0_0 HM hget hf e1 e2
  go_enter Try.func44, Try.ntmps44
  go_wp2_with (first
   | ((with_reducible refine gate_dst (N := 2) rfl ?_); refine box_event ?hg (N := 2) ?hd (cs := #[.slice (some ad) l0_0.length c0_0, .slice A0_1 l0_1.length c0_1, .slice A0_2 l0_2.length c0_2]) (t := 67) ?hr ?_; (case hd => rfl); (case hg => rfl); (case hr => first | (go_simp; done) | (go_simp; rfl)); intro gb hg w1 hbox hb; have BKb := mkA hbox; have HB1 := mkA (below_step (below_y HB.out) hb); clear HB hbox hb hg; have HB := HB1; clear HB1)
   | ((with_reducible refine gate_dst (N := 3) rfl ?_); refine box_event ?hg (N := 3) ?hd (cs := #[.string a1]) (t := 9) ?hr ?_; (case hd => rfl); (case hg => rfl); (case hr => first | (go_simp; done) | (go_simp; rfl)); intro gi hg w2 hbox hb; have BKi := mkA hbox; have BKb1 := mkA (blk_below (blk_y BKb.out) hb); have HB1 := mkA (below_step (below_y HB.out) hb); clear HB BKb hbox hb hg; have HB := HB1; have BKb := BKb1; clear HB1 BKb1; have hcb0 : w2.cell? ⟨gb, 0, none⟩ = some (.slice (some ad) l0_0.length c0_0) := (blk_cell BKb.out 0).trans rfl)
   | (go_at_call 94; refine (api_Entry_94.calls #[.pointer (some ⟨gi, 0, none⟩)] Try.func95 (by kernel_rfl) rfl (fun x : S77 => x.f0.toList == a1.toList) (some ad) c0_0 l0_0 _ ?h1 HC0.out ?hf).mono ?_; (case h1 => exact Kd.C_below HR.out (below_y HB.out)); (case hf => intro W x cs _ hb hK; obtain rfl := k77_open hK; exact dir_Find.clo W gi a1 x (blk_below (blk_y BKi.out) hb)); rintro e w3 ⟨rfl, hb⟩; rw [HV.out]; have BKb1 := mkA (blk_below (blk_y BKb.out) hb); have HB1 := mkA (below_step (below_y HB.out) hb); clear HB hb BKb; have HB := HB1; have BKb := BKb1; clear HB1 BKb1; have hcb3 : w3.cell? ⟨gb, 0, none⟩ = some (.slice (some ad) l0_0.length c0_0) := (blk_cell BKb.out 0).trans rfl; have hx3 := (cb HB.out hx1).trans hx1))
  first | go_ret2 | go_ret
  exact ⟨by rw [← E1.out, ← E2.out]; rfl, HB.out⟩

end Go.Proofs.Ytkkikdjfigffhab.XDir
