-- By a program of this work (xprint.py) over the translation; Lean checks it.
import Derived.Test.YtcpojadlnpnbaaaXRetx0
import Derived.Test.YtcpojadlnpnbaaaXRetx23
namespace Go.Proofs.Ytcpojadlnpnbaaa.XRet
open Go.RowKit Go.Proofs.YtcpojadlnpnbaaaW.PrintWords Go.Proofs.YtcpojadlnpnbaaaW.PrintLast Go.Proofs.YtcpojadlnpnbaaaW.PrintMore
attribute [local go_sem] max2_int min2_int max_two min_two max_three min_three max_four min_four   -- for this text's walks alone
set_option linter.unusedVariables false
set_option linter.unusedSimpArgs false

/-! ### change_Find: function 25 -/
def change_Find.f (a0_0 : Int) (a0_1 : Int) (a0_2 : Int) (a0_3 : Int) (l0_4 : List S43) (l0_5 : List S29) (a1 : Int) : Option (Int × Int × ByteArray × ByteArray × ByteArray × Int × Int × Int × Int × Bool × Int × Int × Int × ByteArray × Int × Int × ByteArray × Int × Int × ByteArray × Bool) := some (match l0_5.find? (fun x : S29 => x.f0 == a1) with | some x => (x.f0, x.f1, x.f2, x.f3, x.f4, x.f5, x.f6, x.f7, x.f8, x.f9, x.f10, x.f11, x.f12, x.f13, x.f14, x.f15, x.f16, x.f17, x.f18, x.f19, true) | none => (0, 0, (⟨#[]⟩ : ByteArray), (⟨#[]⟩ : ByteArray), (⟨#[]⟩ : ByteArray), 0, 0, 0, 0, false, 0, 0, 0, (⟨#[]⟩ : ByteArray), 0, 0, (⟨#[]⟩ : ByteArray), 0, 0, (⟨#[]⟩ : ByteArray), false))
theorem change_Find.clo (W : World) (gi : Nat) (n : Int) (x : S29) (hi : W.heap[gi]? = some (.cells #[.int .i64 n] 3 (0, 0))) :
  Calls Try.prog 31 #[.agg #[.int .i64 x.f0, .int .i64 x.f1, .string x.f2, .string x.f3, .string x.f4, .int .i64 x.f5, .int .i64 x.f6, .int .i64 x.f7, .int .i64 x.f8, .bool x.f9, .int .i64 x.f10, .int .i64 x.f11, .int .i64 x.f12, .string x.f13, .int .i64 x.f14, .int .i64 x.f15, .string x.f16, .int .i64 x.f17, .int .i64 x.f18, .string x.f19], .pointer (some ⟨gi, 0, none⟩)] W fun e w' => e = .returned (.bool (x.f0 == n)) ∧ Below W.heap.size W w' := by
 have HI := mkA hi
 have HB := mkA (Below.refl W.heap.size W)
 clear hi
 go_enter Try.func31, Try.ntmps31
 go_wp2_with ((with_reducible refine gate_dst (N := 2) rfl ?_); refine box_event ?hg (N := 2) ?hd (cs := #[.int .i64 x.f0, .int .i64 x.f1, .string x.f2, .string x.f3, .string x.f4, .int .i64 x.f5, .int .i64 x.f6, .int .i64 x.f7, .int .i64 x.f8, .bool x.f9, .int .i64 x.f10, .int .i64 x.f11, .int .i64 x.f12, .string x.f13, .int .i64 x.f14, .int .i64 x.f15, .string x.f16, .int .i64 x.f17, .int .i64 x.f18, .string x.f19]) (t := 29) ?hr ?_; (case hd => rfl); (case hg => rfl); (case hr => first | (go_simp; done) | (go_simp; rfl)); intro gb hg w1 hbox hb; have HB1 := mkA (below_step (below_y HB.out) hb); have hcb0 : w1.cell? ⟨gb, 0, none⟩ = some (.int .i64 x.f0) := (blk_cell hbox 0).trans rfl; have hci : w1.cell? ⟨gi, 0, none⟩ = some (.int .i64 n) := (blk_cell (blk_below (blk_y HI.out) hb) 0).trans rfl; clear HB hbox hb hg; have HB := HB1; clear HB1)
 go_ret
 exact ⟨rfl, HB.out⟩
set_option maxHeartbeats 2000000 in
set_option maxRecDepth 100000 in
theorem change_Find.calls (a0_0 : Int) (a0_1 : Int) (a0_2 : Int) (a0_3 : Int) (A0_4 : Option Addr) (c0_4 : Nat) (l0_4 : List S43) (A0_5 : Option Addr) (c0_5 : Nat) (l0_5 : List S29) (a1 : Int) (r1 : Int) (r2 : Int) (r3 : ByteArray) (r4 : ByteArray) (r5 : ByteArray) (r6 : Int) (r7 : Int) (r8 : Int) (r9 : Int) (r10 : Bool) (r11 : Int) (r12 : Int) (r13 : Int) (r14 : ByteArray) (r15 : Int) (r16 : Int) (r17 : ByteArray) (r18 : Int) (r19 : Int) (r20 : ByteArray) (r21 : Bool) (w : World) (hr0_4 : Kd.C k43 w A0_4 l0_4.length l0_4) (hc0_4 : l0_4.length ≤ c0_4) (hr0_5 : Kd.C k29 w A0_5 l0_5.length l0_5) (hc0_5 : l0_5.length ≤ c0_5) (h : change_Find.f a0_0 a0_1 a0_2 a0_3 l0_4 l0_5 a1 = some (r1, r2, r3, r4, r5, r6, r7, r8, r9, r10, r11, r12, r13, r14, r15, r16, r17, r18, r19, r20, r21)) :
  Calls Try.prog 25 #[.agg #[.int .i64 a0_0, .int .i64 a0_1, .int .i64 a0_2, .int .i64 a0_3, .slice A0_4 l0_4.length c0_4, .slice A0_5 l0_5.length c0_5], .int .i64 a1] w fun e w' => e = .returned (.tuple #[.agg #[.int .i64 r1, .int .i64 r2, .string r3, .string r4, .string r5, .int .i64 r6, .int .i64 r7, .int .i64 r8, .int .i64 r9, .bool r10, .int .i64 r11, .int .i64 r12, .int .i64 r13, .string r14, .int .i64 r15, .int .i64 r16, .string r17, .int .i64 r18, .int .i64 r19, .string r20], .bool r21]) ∧ Below w.heap.size w w' := by
 have HM := mkA (Option.some.inj h)
 have HR := mkA hr0_5
 have HC0 := mkA hc0_5
 have HB := mkA (Below.refl w.heap.size w)
 have hu := Try.underlying25
 have hu2 := Try.underlying29
 clear h hr0_4 hc0_4
 by_cases hlt : findI (fun x : S29 => x.f0 == a1) l0_5 < 0
 ·have hd := decide_eq_true hlt
  have HLT := mkA hlt
  generalize hv : findI (fun x : S29 => x.f0 == a1) l0_5 = v at hd HLT
  have HV := mkA hv
  clear hlt hv hr0_5 hc0_5
  go_enter Try.func25, Try.ntmps25
  go_wp2_with (first
   | ((with_reducible refine gate_dst (N := 2) rfl ?_); refine box_event ?hg (N := 2) ?hd (cs := #[.int .i64 a0_0, .int .i64 a0_1, .int .i64 a0_2, .int .i64 a0_3, .slice A0_4 l0_4.length c0_4, .slice A0_5 l0_5.length c0_5]) (t := 25) ?hr ?_; (case hd => rfl); (case hg => rfl); (case hr => first | (go_simp; done) | (go_simp; rfl)); intro gb hg w1 hbox hb; have BKb := mkA hbox; have HB1 := mkA (below_step (below_y HB.out) hb); clear HB hbox hb hg; have HB := HB1; clear HB1)
   | ((with_reducible refine gate_dst (N := 3) rfl ?_); refine box_event ?hg (N := 3) ?hd (cs := #[.int .i64 a1]) (t := 3) ?hr ?_; (case hd => rfl); (case hg => rfl); (case hr => first | (go_simp; done) | (go_simp; rfl)); intro gi hg w2 hbox hb; have BKi := mkA hbox; have BKb1 := mkA (blk_below (blk_y BKb.out) hb); have HB1 := mkA (below_step (below_y HB.out) hb); clear HB BKb hbox hb hg; have HB := HB1; have BKb := BKb1; clear HB1 BKb1)
   | ((with_reducible refine gate_dst (N := 4) rfl ?_); refine box_event ?hg (N := 4) ?hd (cs := #[.int .i64 0, .int .i64 0, .string (⟨#[]⟩ : ByteArray), .string (⟨#[]⟩ : ByteArray), .string (⟨#[]⟩ : ByteArray), .int .i64 0, .int .i64 0, .int .i64 0, .int .i64 0, .bool false, .int .i64 0, .int .i64 0, .int .i64 0, .string (⟨#[]⟩ : ByteArray), .int .i64 0, .int .i64 0, .string (⟨#[]⟩ : ByteArray), .int .i64 0, .int .i64 0, .string (⟨#[]⟩ : ByteArray)]) (t := 29) ?hr ?_; (case hd => rfl); (case hg => rfl); (case hr => first | (go_simp; done) | (go_simp; rfl)); intro gr hg w4 hbox hb; have BKr := mkA hbox; have GE := mkA (gz hg HB.out : w.heap.size ≤ gr); have NE := mkA (gn hg BKb.out : gb ≠ gr); have BKi1 := mkA (blk_below (blk_y BKi.out) hb); have BKb1 := mkA (blk_below (blk_y BKb.out) hb); have HB1 := mkA (below_step (below_y HB.out) hb); clear HB BKb BKi hbox hb hg; have HB := HB1; have BKb := BKb1; have BKi := BKi1; clear HB1 BKb1 BKi1; have hcb5 : w4.cell? ⟨gb, 5, none⟩ = some (.slice A0_5 l0_5.length c0_5) := (blk_cell BKb.out 5).trans rfl)
   | (go_at_call 30; refine (api_Ep_30.calls #[.pointer (some ⟨gi, 0, none⟩)] Try.func31 (by kernel_rfl) rfl (fun x : S29 => x.f0 == a1) A0_5 c0_5 l0_5 _ ?h1 HC0.out ?hf).mono ?_; (case h1 => exact Kd.C_below HR.out (below_y HB.out)); (case hf => intro W x cs _ hb hK; obtain rfl := k29_open hK; exact change_Find.clo W gi a1 x (blk_below (blk_y BKi.out) hb)); rintro e w3 ⟨rfl, hb⟩; rw [HV.out]; have BKb1 := mkA (blk_below (blk_y BKb.out) hb); have BKr1 := mkA (blk_below (blk_y BKr.out) hb); have HB1 := mkA (below_step (below_y HB.out) hb); clear HB hb BKb BKr; have HB := HB1; have BKb := BKb1; have BKr := BKr1; clear HB1 BKb1 BKr1; have hcb3 : w3.cell? ⟨gb, 5, none⟩ = some (.slice A0_5 l0_5.length c0_5) := (blk_cell BKb.out 5).trans rfl)
   | ((with_reducible refine gate_store (t := 29) (p := 4) rfl ?_); refine store_whole2 (t := 29) (g := gr) ?hg ?hn (cells := #[.int .i64 0, .int .i64 0, .string (⟨#[]⟩ : ByteArray), .string (⟨#[]⟩ : ByteArray), .string (⟨#[]⟩ : ByteArray), .int .i64 0, .int .i64 0, .int .i64 0, .int .i64 0, .bool false, .int .i64 0, .int .i64 0, .int .i64 0, .string (⟨#[]⟩ : ByteArray), .int .i64 0, .int .i64 0, .string (⟨#[]⟩ : ByteArray), .int .i64 0, .int .i64 0, .string (⟨#[]⟩ : ByteArray)]) ?ho (blk_y BKr.out) (by kernel_rfl) rfl ?h1 ?_; (case hg => rfl); (case hn => rfl); (case ho => refine ⟨_, _, rfl, ?_, ?_⟩; all_goals (first | (with_reducible rfl) | (go_simp; done) | rfl | (go_simp; rfl))); (case h1 => first | rfl | simp [Value.oneCell']); intro w5 hw5; have BK5 := mkA (by rw [hw5]; exact setRow_heap _ _ _ _ _ _ (blk_y BKr.out) : w5.heap[gr]? = some (.cells #[.int .i64 0, .int .i64 0, .string (⟨#[]⟩ : ByteArray), .string (⟨#[]⟩ : ByteArray), .string (⟨#[]⟩ : ByteArray), .int .i64 0, .int .i64 0, .int .i64 0, .int .i64 0, .bool false, .int .i64 0, .int .i64 0, .int .i64 0, .string (⟨#[]⟩ : ByteArray), .int .i64 0, .int .i64 0, .string (⟨#[]⟩ : ByteArray), .int .i64 0, .int .i64 0, .string (⟨#[]⟩ : ByteArray)] 29 (0, 0))); have HB5 := mkA (by rw [hw5]; exact below_setRow (below_y HB.out) GE.out _ : Below w.heap.size w w5); clear hw5 HB BKr; have HB := HB5; have BKr := BK5; clear HB5 BK5))
  refine bodyPost_ret (results_ct rfl _ _ gr 29 #[.int .i64 0, .int .i64 0, .string (⟨#[]⟩ : ByteArray), .string (⟨#[]⟩ : ByteArray), .string (⟨#[]⟩ : ByteArray), .int .i64 0, .int .i64 0, .int .i64 0, .int .i64 0, .bool false, .int .i64 0, .int .i64 0, .int .i64 0, .string (⟨#[]⟩ : ByteArray), .int .i64 0, .int .i64 0, .string (⟨#[]⟩ : ByteArray), .int .i64 0, .int .i64 0, .string (⟨#[]⟩ : ByteArray)] (0, 0) _ rfl (blk_y BKr.out) Try.underlying29 rfl (by kernel_rfl)) rfl ?_
  refine ⟨?_, HB.out⟩
  have hn : l0_5.find? (fun x : S29 => x.f0 == a1) = none := findI_neg (by rw [HV.out]; exact HLT.out)
  have h3 := HM.out
  rw [hn] at h3
  simp only [Prod.mk.injEq] at h3
  obtain ⟨rfl, rfl, rfl, rfl, rfl, rfl, rfl, rfl, rfl, rfl, rfl, rfl, rfl, rfl, rfl, rfl, rfl, rfl, rfl, rfl, rfl⟩ := h3
  rfl
 ·obtain ⟨i, hi, hv, hf⟩ := findI_some hlt
  obtain ⟨ad, e, hx0, hx1, hx2, hx3, hx4, hx5, hx6, hx7, hx8, hx9, hx10, hx11, hx12, hx13, hx14, hx15, hx16, hx17, hx18, hx19⟩ := at_T29 HR.out (i : Int) (by omega) (by omega)
  cases e
  have hget : rd_T29 l0_5 (i : Int) = l0_5[i] := by
   unfold rd_T29
   rw [List.getD_eq_getElem?_getD, Int.toNat_natCast, List.getElem?_eq_getElem hi]
   rfl
  rw [hget, Int.toNat_natCast] at hx0 hx1 hx2 hx3 hx4 hx5 hx6 hx7 hx8 hx9 hx10 hx11 hx12 hx13 hx14 hx15 hx16 hx17 hx18 hx19
  have HM2 := HM.out
  rw [hf] at HM2
  have hd : decide ((i : Int) < 0) = false := decide_eq_false (by omega)
  have HV := mkA hv
  have E1 := mkA HM2
  have hin : (i : Int) < (l0_5.length : Int) := by omega
  have hi0 : (0 : Int) ≤ (i : Int) := by omega
  generalize l0_5[i] = y at hx0 hx1 hx2 hx3 hx4 hx5 hx6 hx7 hx8 hx9 hx10 hx11 hx12 hx13 hx14 hx15 hx16 hx17 hx18 hx19 E1
  clear hlt hv hr0_5 hc0_5 HM hget hf HM2
  go_enter Try.func25, Try.ntmps25
  go_wp2_with (first
   | ((with_reducible refine gate_load (t := 29) rfl ?_); refine load_at2 (t := 29) ?hg ?ho (c0 := _) (cs := [_, _, _, _, _, _, _, _, _, _, _, _, _, _, _, _, _, _, _]) Try.underlying29 rfl (by kernel_rfl) (hs_ HB.out hx0) ⟨hs_ HB.out hx1, hs_ HB.out hx2, hs_ HB.out hx3, hs_ HB.out hx4, hs_ HB.out hx5, hs_ HB.out hx6, hs_ HB.out hx7, hs_ HB.out hx8, hs_ HB.out hx9, hs_ HB.out hx10, hs_ HB.out hx11, hs_ HB.out hx12, hs_ HB.out hx13, hs_ HB.out hx14, hs_ HB.out hx15, hs_ HB.out hx16, hs_ HB.out hx17, hs_ HB.out hx18, hs_ HB.out hx19, trivial⟩ ?_; (case hg => rfl); (case ho => refine ⟨_, rfl, ?_⟩; first | (with_reducible rfl) | (go_simp; done)))
   | ((with_reducible refine gate_dst (N := 2) rfl ?_); refine box_event ?hg (N := 2) ?hd (cs := #[.int .i64 a0_0, .int .i64 a0_1, .int .i64 a0_2, .int .i64 a0_3, .slice A0_4 l0_4.length c0_4, .slice (some ad) l0_5.length c0_5]) (t := 25) ?hr ?_; (case hd => rfl); (case hg => rfl); (case hr => first | (go_simp; done) | (go_simp; rfl)); intro gb hg w1 hbox hb; have BKb := mkA hbox; have HB1 := mkA (below_step (below_y HB.out) hb); clear HB hbox hb hg; have HB := HB1; clear HB1)
   | ((with_reducible refine gate_dst (N := 3) rfl ?_); refine box_event ?hg (N := 3) ?hd (cs := #[.int .i64 a1]) (t := 3) ?hr ?_; (case hd => rfl); (case hg => rfl); (case hr => first | (go_simp; done) | (go_simp; rfl)); intro gi hg w2 hbox hb; have BKi := mkA hbox; have BKb1 := mkA (blk_below (blk_y BKb.out) hb); have HB1 := mkA (below_step (below_y HB.out) hb); clear HB BKb hbox hb hg; have HB := HB1; have BKb := BKb1; clear HB1 BKb1)
   | ((with_reducible refine gate_dst (N := 4) rfl ?_); refine box_event ?hg (N := 4) ?hd (cs := #[.int .i64 0, .int .i64 0, .string (⟨#[]⟩ : ByteArray), .string (⟨#[]⟩ : ByteArray), .string (⟨#[]⟩ : ByteArray), .int .i64 0, .int .i64 0, .int .i64 0, .int .i64 0, .bool false, .int .i64 0, .int .i64 0, .int .i64 0, .string (⟨#[]⟩ : ByteArray), .int .i64 0, .int .i64 0, .string (⟨#[]⟩ : ByteArray), .int .i64 0, .int .i64 0, .string (⟨#[]⟩ : ByteArray)]) (t := 29) ?hr ?_; (case hd => rfl); (case hg => rfl); (case hr => first | (go_simp; done) | (go_simp; rfl)); intro gr hg w4 hbox hb; have BKr := mkA hbox; have GE := mkA (gz hg HB.out : w.heap.size ≤ gr); have NE := mkA (gn hg BKb.out : gb ≠ gr); have BKi1 := mkA (blk_below (blk_y BKi.out) hb); have BKb1 := mkA (blk_below (blk_y BKb.out) hb); have HB1 := mkA (below_step (below_y HB.out) hb); clear HB BKb BKi hbox hb hg; have HB := HB1; have BKb := BKb1; have BKi := BKi1; clear HB1 BKb1 BKi1; have hcb5 : w4.cell? ⟨gb, 5, none⟩ = some (.slice (some ad) l0_5.length c0_5) := (blk_cell BKb.out 5).trans rfl)
   | (go_at_call 30; refine (api_Ep_30.calls #[.pointer (some ⟨gi, 0, none⟩)] Try.func31 (by kernel_rfl) rfl (fun x : S29 => x.f0 == a1) (some ad) c0_5 l0_5 _ ?h1 HC0.out ?hf).mono ?_; (case h1 => exact Kd.C_below HR.out (below_y HB.out)); (case hf => intro W x cs _ hb hK; obtain rfl := k29_open hK; exact change_Find.clo W gi a1 x (blk_below (blk_y BKi.out) hb)); rintro e w3 ⟨rfl, hb⟩; rw [HV.out]; have BKb1 := mkA (blk_below (blk_y BKb.out) hb); have BKr1 := mkA (blk_below (blk_y BKr.out) hb); have HB1 := mkA (below_step (below_y HB.out) hb); clear HB hb BKb BKr; have HB := HB1; have BKb := BKb1; have BKr := BKr1; clear HB1 BKb1 BKr1; have hcb3 : w3.cell? ⟨gb, 5, none⟩ = some (.slice (some ad) l0_5.length c0_5) := (blk_cell BKb.out 5).trans rfl)
   | ((with_reducible refine gate_store (t := 29) (p := 4) rfl ?_); refine store_whole2 (t := 29) (g := gr) ?hg ?hn (cells := #[.int .i64 y.f0, .int .i64 y.f1, .string y.f2, .string y.f3, .string y.f4, .int .i64 y.f5, .int .i64 y.f6, .int .i64 y.f7, .int .i64 y.f8, .bool y.f9, .int .i64 y.f10, .int .i64 y.f11, .int .i64 y.f12, .string y.f13, .int .i64 y.f14, .int .i64 y.f15, .string y.f16, .int .i64 y.f17, .int .i64 y.f18, .string y.f19]) ?ho (blk_y BKr.out) (by kernel_rfl) rfl ?h1 ?_; (case hg => rfl); (case hn => rfl); (case ho => refine ⟨_, _, rfl, ?_, ?_⟩; all_goals (first | (with_reducible rfl) | (go_simp; done) | rfl | (go_simp; rfl))); (case h1 => first | rfl | simp [Value.oneCell']); intro w5 hw5; have BK5 := mkA (by rw [hw5]; exact setRow_heap _ _ _ _ _ _ (blk_y BKr.out) : w5.heap[gr]? = some (.cells #[.int .i64 y.f0, .int .i64 y.f1, .string y.f2, .string y.f3, .string y.f4, .int .i64 y.f5, .int .i64 y.f6, .int .i64 y.f7, .int .i64 y.f8, .bool y.f9, .int .i64 y.f10, .int .i64 y.f11, .int .i64 y.f12, .string y.f13, .int .i64 y.f14, .int .i64 y.f15, .string y.f16, .int .i64 y.f17, .int .i64 y.f18, .string y.f19] 29 (0, 0))); have HB5 := mkA (by rw [hw5]; exact below_setRow (below_y HB.out) GE.out _ : Below w.heap.size w w5); clear hw5 HB BKr; have HB := HB5; have BKr := BK5; clear HB5 BK5))
  refine bodyPost_ret (results_ct rfl _ _ gr 29 #[.int .i64 y.f0, .int .i64 y.f1, .string y.f2, .string y.f3, .string y.f4, .int .i64 y.f5, .int .i64 y.f6, .int .i64 y.f7, .int .i64 y.f8, .bool y.f9, .int .i64 y.f10, .int .i64 y.f11, .int .i64 y.f12, .string y.f13, .int .i64 y.f14, .int .i64 y.f15, .string y.f16, .int .i64 y.f17, .int .i64 y.f18, .string y.f19] (0, 0) _ rfl (blk_y BKr.out) Try.underlying29 rfl (by kernel_rfl)) rfl ?_
  refine ⟨?_, HB.out⟩
  have h3 := E1.out
  simp only [Prod.mk.injEq] at h3
  obtain ⟨rfl, rfl, rfl, rfl, rfl, rfl, rfl, rfl, rfl, rfl, rfl, rfl, rfl, rfl, rfl, rfl, rfl, rfl, rfl, rfl, rfl⟩ := h3
  rfl

end Go.Proofs.Ytcpojadlnpnbaaa.XRet
