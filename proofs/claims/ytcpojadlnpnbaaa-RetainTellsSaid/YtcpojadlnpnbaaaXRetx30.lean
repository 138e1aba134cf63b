-- By a program of this work (xprint.py) over the translation; Lean checks it.
import Derived.Test.YtcpojadlnpnbaaaXRetx0
import Derived.Test.YtcpojadlnpnbaaaXRetx27
import Derived.Test.YtcpojadlnpnbaaaXRetx28
import Derived.Test.YtcpojadlnpnbaaaXRetx29
namespace Go.Proofs.Ytcpojadlnpnbaaa.XRet
open Go.RowKit Go.Proofs.YtcpojadlnpnbaaaW.PrintWords Go.Proofs.YtcpojadlnpnbaaaW.PrintLast Go.Proofs.YtcpojadlnpnbaaaW.PrintMore
attribute [local go_sem] max2_int min2_int max_two min_two max_three min_three max_four min_four   -- for this text's walks alone
set_option linter.unusedVariables false
set_option linter.unusedSimpArgs false

/-! ### newsreelref41_Over: function 12 -/
mutual
def newsreelref41_Over.l0 : Nat → Int → List (S29) → Int → List Int → Option (List Int)
 | 0, _, _, _, _ => none
 | k + 1, x1, x5, x6, x7 => (newsreelref41_published.f k x5 x1).bind fun t271 => (if t271 > x6 then (newsreelref41_Over.l1 k x1 x5 x6 x7 (-1) 0) else (some x7))
def newsreelref41_Over.l1 : Nat → Int → List (S29) → Int → List Int → Int → Int → Option (List Int)
 | 0, _, _, _, _, _, _ => none
 | k + 1, x1, x5, x6, x7, x8, x9 => if x9 < (x5.length : Int) then (if 0 ≤ x9 then ((newsreelref41_May.f ((rd_T29 x5 x9).f0) ((rd_T29 x5 x9).f1) ((rd_T29 x5 x9).f2) ((rd_T29 x5 x9).f3) ((rd_T29 x5 x9).f4) ((rd_T29 x5 x9).f5) ((rd_T29 x5 x9).f6) ((rd_T29 x5 x9).f7) ((rd_T29 x5 x9).f8) ((rd_T29 x5 x9).f9) ((rd_T29 x5 x9).f10) ((rd_T29 x5 x9).f11) ((rd_T29 x5 x9).f12) ((rd_T29 x5 x9).f13) ((rd_T29 x5 x9).f14) ((rd_T29 x5 x9).f15) ((rd_T29 x5 x9).f16) ((rd_T29 x5 x9).f17) ((rd_T29 x5 x9).f18) ((rd_T29 x5 x9).f19) x1).bind fun t278 => (if t278 = true then (if x8 < 0 then (newsreelref41_Over.l1 k x1 x5 x6 x7 x9 (wrap64 (x9 + 1))) else (if 0 ≤ x8 then (if x8 < (x5.length : Int) then ((newsreelref41_older.f ((rd_T29 x5 x9).f0) ((rd_T29 x5 x9).f1) ((rd_T29 x5 x9).f2) ((rd_T29 x5 x9).f3) ((rd_T29 x5 x9).f4) ((rd_T29 x5 x9).f5) ((rd_T29 x5 x9).f6) ((rd_T29 x5 x9).f7) ((rd_T29 x5 x9).f8) ((rd_T29 x5 x9).f9) ((rd_T29 x5 x9).f10) ((rd_T29 x5 x9).f11) ((rd_T29 x5 x9).f12) ((rd_T29 x5 x9).f13) ((rd_T29 x5 x9).f14) ((rd_T29 x5 x9).f15) ((rd_T29 x5 x9).f16) ((rd_T29 x5 x9).f17) ((rd_T29 x5 x9).f18) ((rd_T29 x5 x9).f19) ((rd_T29 x5 x8).f0) ((rd_T29 x5 x8).f1) ((rd_T29 x5 x8).f2) ((rd_T29 x5 x8).f3) ((rd_T29 x5 x8).f4) ((rd_T29 x5 x8).f5) ((rd_T29 x5 x8).f6) ((rd_T29 x5 x8).f7) ((rd_T29 x5 x8).f8) ((rd_T29 x5 x8).f9) ((rd_T29 x5 x8).f10) ((rd_T29 x5 x8).f11) ((rd_T29 x5 x8).f12) ((rd_T29 x5 x8).f13) ((rd_T29 x5 x8).f14) ((rd_T29 x5 x8).f15) ((rd_T29 x5 x8).f16) ((rd_T29 x5 x8).f17) ((rd_T29 x5 x8).f18) ((rd_T29 x5 x8).f19)).bind fun t281 => (if t281 = true then (newsreelref41_Over.l1 k x1 x5 x6 x7 x9 (wrap64 (x9 + 1))) else (newsreelref41_Over.l1 k x1 x5 x6 x7 x8 (wrap64 (x9 + 1))))) else (none)) else (none))) else (newsreelref41_Over.l1 k x1 x5 x6 x7 x8 (wrap64 (x9 + 1))))) else (none)) else (if x8 < 0 then (some x7) else (if 0 ≤ x8 then (if x8 < (x5.length : Int) then (if x7.length < 17592186044416 then (newsreelref41_Over.l0 k x1 (x5.set (x8 : Int).toNat (⟨(rd_T29 x5 x8).f0, (rd_T29 x5 x8).f1, (rd_T29 x5 x8).f2, (rd_T29 x5 x8).f3, (rd_T29 x5 x8).f4, (rd_T29 x5 x8).f5, (rd_T29 x5 x8).f6, 5, (rd_T29 x5 x8).f8, (rd_T29 x5 x8).f9, (rd_T29 x5 x8).f10, (rd_T29 x5 x8).f11, (rd_T29 x5 x8).f12, (rd_T29 x5 x8).f13, (rd_T29 x5 x8).f14, (rd_T29 x5 x8).f15, (rd_T29 x5 x8).f16, (rd_T29 x5 x8).f17, (rd_T29 x5 x8).f18, (rd_T29 x5 x8).f19⟩ : S29)) x6 (x7 ++ [(rd_T29 x5 x8).f0])) else (none)) else (none)) else (none)))
end
def newsreelref41_Over.f (k : Nat) (a0_0 : Int) (a0_1 : Int) (a0_2 : Int) (a0_3 : Int) (l0_4 : List (S43)) (l0_5 : List (S29)) (a1 : Int) : Option (List Int) := (some (([] : List (S29)) : List (S29))).bind fun y262 => (if y262.length + l0_5.length < 676622540169 then (newsreelref41_Over.l0 k a1 (y262 ++ l0_5) (mx a0_0 0) (([] : List Int))) else (none))
theorem newsreelref41_Over.mono_l : ∀ k, (∀ y0 y1 y2 y3, LeO (newsreelref41_Over.l0 k y0 y1 y2 y3) (newsreelref41_Over.l0 (k + 1) y0 y1 y2 y3)) ∧ (∀ y0 y1 y2 y3 y4 y5, LeO (newsreelref41_Over.l1 k y0 y1 y2 y3 y4 y5) (newsreelref41_Over.l1 (k + 1) y0 y1 y2 y3 y4 y5))
 | 0 => ⟨fun _ _ _ _ r h => by simp [newsreelref41_Over.l0] at h, fun _ _ _ _ _ _ r h => by simp [newsreelref41_Over.l1] at h⟩
 | k + 1 => by
  obtain ⟨ih0, ih1⟩ := newsreelref41_Over.mono_l k
  refine ⟨?_, ?_⟩
  ·intro y0 y1 y2 y3
   unfold newsreelref41_Over.l0
   repeat' first
   | (with_reducible exact ih0 _ _ _ _)
   | (with_reducible exact ih1 _ _ _ _ _ _)
   | (with_reducible exact newsreelref41_published.mono _ _ _)
   | (with_reducible exact LeO.refl _)
   | (with_reducible exact LeO.none _)
   | (with_reducible refine LeO.ite ?_ ?_)
   | (with_reducible refine LeO.bind ?_ (fun _ => ?_))
   | exact ih0 _ _ _ _
   | exact ih1 _ _ _ _ _ _
   | exact newsreelref41_published.mono _ _ _
   | exact LeO.none _
   | refine LeO.ite ?_ ?_
   | refine LeO.bind ?_ (fun _ => ?_)
  ·intro y0 y1 y2 y3 y4 y5
   unfold newsreelref41_Over.l1
   repeat' first
   | (with_reducible exact ih0 _ _ _ _)
   | (with_reducible exact ih1 _ _ _ _ _ _)
   | (with_reducible exact newsreelref41_published.mono _ _ _)
   | (with_reducible exact LeO.refl _)
   | (with_reducible exact LeO.none _)
   | (with_reducible refine LeO.ite ?_ ?_)
   | (with_reducible refine LeO.bind ?_ (fun _ => ?_))
   | exact ih0 _ _ _ _
   | exact ih1 _ _ _ _ _ _
   | exact newsreelref41_published.mono _ _ _
   | exact LeO.none _
   | refine LeO.ite ?_ ?_
   | refine LeO.bind ?_ (fun _ => ?_)
theorem newsreelref41_Over.mono : ∀ a0 a1 a2 a3 a4 a5 a6 k, LeO (newsreelref41_Over.f k a0 a1 a2 a3 a4 a5 a6) (newsreelref41_Over.f (k + 1) a0 a1 a2 a3 a4 a5 a6) := by
 intro a0 a1 a2 a3 a4 a5 a6 k
 obtain ⟨ih0, ih1⟩ := newsreelref41_Over.mono_l k
 unfold newsreelref41_Over.f
 repeat' first
   | (with_reducible exact ih0 _ _ _ _)
   | (with_reducible exact ih1 _ _ _ _ _ _)
   | (with_reducible exact newsreelref41_published.mono _ _ _)
   | (with_reducible exact LeO.refl _)
   | (with_reducible exact LeO.none _)
   | (with_reducible refine LeO.ite ?_ ?_)
   | (with_reducible refine LeO.bind ?_ (fun _ => ?_))
   | exact ih0 _ _ _ _
   | exact ih1 _ _ _ _ _ _
   | exact newsreelref41_published.mono _ _ _
   | exact LeO.none _
   | refine LeO.ite ?_ ?_
   | refine LeO.bind ?_ (fun _ => ?_)
def newsreelref41_Over.T9 : Bool × List (List Nat × List Nat) := (true, [([], []), ([], []), ([0, 1], [0, 1]), ([2], [2]), ([], []), ([3, 4], [3, 4]), ([5, 5], [5]), ([6], [6]), ([7, 6], [6, 7]), ([8, 6, 6], [6, 8]), ([9], [9]), ([9], [9]), ([10, 11, 9], [9, 10, 11]), ([12, 9], [9, 12]), ([9], [9]), ([9], [9]), ([14, 15, 9], [9, 14, 15]), ([16, 9], [9, 16]), ([13, 17, 9, 9], [9, 13, 17]), ([9, 18, 6], [6, 9, 18]), ([6, 19], [6, 19])])
def newsreelref41_Over.B9 : List Nat := [0, 0, 3, 7, 0, 31, 63, 127, 255, 511, 1023, 1023, 4095, 8191, 1023, 1023, 50175, 115711, 262143, 524287, 1048575]
theorem newsreelref41_Over.tab9 : rtab .any (opsOf Try.f12 9) = newsreelref41_Over.T9 := by kernel_rfl
theorem newsreelref41_Over.bits9 : waitsOk newsreelref41_Over.T9.2 newsreelref41_Over.B9 = true := by kernel_rfl
set_option maxHeartbeats 2000000 in
set_option maxRecDepth 100000 in
theorem newsreelref41_Over.calls (k : Nat) (a0_0 : Int) (a0_1 : Int) (a0_2 : Int) (a0_3 : Int) (A0_4 : Option Addr) (c0_4 : Nat) (l0_4 : List (S43)) (A0_5 : Option Addr) (c0_5 : Nat) (l0_5 : List (S29)) (a1 : Int) (r : List Int) (w : World) (hr0_4 : Kd.C k43 w A0_4 l0_4.length l0_4) (hc0_4 : l0_4.length ≤ c0_4) (hr0_5 : Kd.C k29 w A0_5 l0_5.length l0_5) (hc0_5 : l0_5.length ≤ c0_5) (h : newsreelref41_Over.f k a0_0 a0_1 a0_2 a0_3 l0_4 l0_5 a1 = some r) :
  Calls Try.prog 12 #[.agg #[.int .i64 a0_0, .int .i64 a0_1, .int .i64 a0_2, .int .i64 a0_3, .slice A0_4 l0_4.length c0_4, .slice A0_5 l0_5.length c0_5], .int .i64 a1] w fun e w' => ∃ v0_ : Value, e = .returned (v0_) ∧ Kd.R (Kd.int .i64) 3 w' w.heap.size (fun _ => True) v0_ r ∧ Below w.heap.size w w' := by
 have hu25 := Try.underlying25
 have hu29 := Try.underlying29
 have HR0_4 := mkA hr0_4
 have HC0_4 := mkA hc0_4
 clear hr0_4 hc0_4
 have HR0_5 := mkA hr0_5
 have HC0_5 := mkA hc0_5
 clear hr0_5 hc0_5
 have HB := mkA (Below.refl w.heap.size w)
 have H : ((some (([] : List (S29)) : List (S29))).bind fun y262 => (if y262.length + l0_5.length < 676622540169 then (newsreelref41_Over.l0 k a1 (y262 ++ l0_5) (mx a0_0 0) (([] : List Int))) else (none))) = some r := h
 clear h
 obtain ⟨y262, hy262⟩ : ∃ y_ : List (S29), y_ = (([] : List (S29))) := ⟨_, rfl⟩
 replace H : (if y262.length + l0_5.length < 676622540169 then (newsreelref41_Over.l0 k a1 (y262 ++ l0_5) (mx a0_0 0) (([] : List Int))) else (none)) = some r := by first | (rw [hy262]; with_reducible exact H) | (have H2_ := (Option.bind_some _ _).symm.trans H; rw [hy262]; with_reducible exact H2_) | (have H2_ := (Option.bind_some _ _).symm.trans H; with_reducible exact H2_) | with_reducible exact H | (rw [hy262]; exact H) | exact H
 have Ny262 := mkA hy262
 clear hy262
 by_cases c3 : y262.length + l0_5.length < 676622540169
 rotate_left
 ·rw [if_neg c3] at H
  exact absurd H (by simp)
 rw [if_pos c3] at H
 have LMc3 := mkA c3
 clear c3
 obtain ⟨y265, hy265⟩ : ∃ y_ : List (S29), y_ = (y262 ++ l0_5) := ⟨_, rfl⟩
 replace H : (newsreelref41_Over.l0 k a1 y265 (mx a0_0 0) (([] : List Int))) = some r := by first | (rw [hy265]; with_reducible exact H) | (have H2_ := (Option.bind_some _ _).symm.trans H; rw [hy265]; with_reducible exact H2_) | (have H2_ := (Option.bind_some _ _).symm.trans H; with_reducible exact H2_) | with_reducible exact H | (rw [hy265]; exact H) | exact H
 have Ny265 := mkA hy265
 clear hy265
 obtain ⟨ji4, hji4⟩ : ∃ j_ : Int, (mx a0_0 0) = j_ := ⟨_, rfl⟩
 replace H : (newsreelref41_Over.l0 k a1 y265 ji4 (([] : List Int))) = some r := by first | (rw [hji4] at H; exact H) | (simp only [hji4] at H ⊢; exact H)
 (try (have hji4l : 0 ≤ ji4 := by (rw [← hji4]; unfold mx; (repeat' split) <;> omega)))
 (try (have hji4m : 0 ≤ ji4 := by omega))
 have hji4_ : (if a0_0 < 0 then 0 else a0_0) = ji4 := hji4
 obtain ⟨y268, hy268⟩ : ∃ y_ : List Int, y_ = (([] : List Int)) := ⟨_, rfl⟩
 replace H : (newsreelref41_Over.l0 k a1 y265 ji4 y268) = some r := by first | (rw [hy268]; with_reducible exact H) | (have H2_ := (Option.bind_some _ _).symm.trans H; rw [hy268]; with_reducible exact H2_) | (have H2_ := (Option.bind_some _ _).symm.trans H; with_reducible exact H2_) | with_reducible exact H | (rw [hy268]; exact H) | exact H
 have Ny268 := mkA hy268
 clear hy268
 have H' := mkA H
 clear H
 go_enter Try.func12, Try.ntmps12
 go_wp2_with (first | ((with_reducible refine gate_load (t := 25) rfl ?_); refine load_row3 (t := 25) (g := gb261) ?hg BK261.out ?ho ?hb Try.underlying25 rfl ?hs ?_; (case hg => rfl); (case ho => refine ⟨_, rfl, ?_⟩; first | (with_reducible rfl) | (go_simp; done)); (case hb => (with_reducible repeat (first | refine blk_drewN ?_ _ | refine blk_drew ?_ | refine blk_alloc ?_ _)); with_reducible exact BK261.out); (case hs => kernel_rfl)) | ((with_reducible refine gate_dst (N := 2) rfl ?_); refine box_event ?hg (N := 2) ?hd (cs := #[.int .i64 a0_0, .int .i64 a0_1, .int .i64 a0_2, .int .i64 a0_3, .slice A0_4 l0_4.length c0_4, .slice A0_5 l0_5.length c0_5]) (t := 25) ?hr ?_; (case hd => rfl); (case hg => rfl); (case hr => first | (go_simp; done) | (go_simp; rfl)); intro gb261 hg w5 hbox hb; have n0_ := mkA (below_step (below_y HB.out) hb); have n1_ := mkA (hbox); have n2_ := mkA ((gz hg HB.out : w.heap.size ≤ gb261)); have n3_ := mkA ((gz hg HB.out : w.heap.size ≤ gb261)); clear HB; have HB := n0_; have BK261 := n1_; have GW261 := n2_; have GE261 := n3_; clear n0_ n1_ n2_ n3_; clear hb hbox hg) | ((with_reducible refine gate_dst (N := 10) rfl ?_); refine Kd.R_lit k29 _ 29 ?hg (N := 10) ?hd (xs := ([] : List (S29))) (inner := []) (ok := fun _ => True) (okp := fun _ => True) ?hr ?hp (fun _ hk => hk) trivial (Below.refl _ _) (Nat.le_refl _) (by simp) ?_; (case hd => rfl); (case hg => rfl); (case hr => first | (go_simp; done) | (go_simp; rfl)); (case hp => exact (Reps.none _ _)); intro v263 w6 ho7 hb hg_ hnew_; clear hg_ hnew_; (first | rw [← Ny262.out] at ho7 | (simp only [Int.reduceToNat] at ho7; rw [← Ny262.out] at ho7)); have n0_ := mkA (Kd.R_lower ho7 (below_size (below_y HB.out))); have n1_ := mkA (blk_below (blk_y BK261.out) hb); have n2_ := mkA (below_step (below_y HB.out) hb); clear BK261; clear HB; have HO264 := n0_; have BK261 := n1_; have HB := n2_; clear n0_ n1_ n2_; clear hb ho7; have hcz8_0 := bc BK261.out 0 _ rfl; have hcz8_1 := bc BK261.out 1 _ rfl; have hcz8_2 := bc BK261.out 2 _ rfl; have hcz8_3 := bc BK261.out 3 _ rfl; have hcz8_4 := bc BK261.out 4 _ rfl; have hcz8_5 := bc BK261.out 5 _ rfl; have hfz8_0 := blk_frozen BK261.out 0; have hfz8_1 := blk_frozen BK261.out 1; have hfz8_2 := blk_frozen BK261.out 2; have hfz8_3 := blk_frozen BK261.out 3; have hfz8_4 := blk_frozen BK261.out 4; have hfz8_5 := blk_frozen BK261.out 5) | ((with_reducible refine gate_builtin (b := .append) (xs := #[.tmp 10, .tmp 12]) rfl ?_); at_builtin; refine Kd.R_append_rows k29 (w0 := w) w.heap.size rfl (.tmp 10) (.tmp 12) 23 29 (.agg #[(.int .i64 0), (.int .i64 0), (.string ⟨#[]⟩), (.string ⟨#[]⟩), (.string ⟨#[]⟩), (.int .i64 0), (.int .i64 0), (.int .i64 0), (.int .i64 0), (.bool false), (.int .i64 0), (.int .i64 0), (.int .i64 0), (.string ⟨#[]⟩), (.int .i64 0), (.int .i64 0), (.string ⟨#[]⟩), (.int .i64 0), (.int .i64 0), (.string ⟨#[]⟩)]) 208 rfl Try.underlying23 info29 rfl (by decide) (by omega) v263 y262 l0_5 _ _ _ (fun _ => True) (fun _ => False) rfl rfl ?aO ?aR (fun _ _ h => h) (fun _ h => h.elim) ?aF ?aB ?aS ?aL ?_; (case aR => repeat (first | exact (Kd.C_below HR0_5.out HB.out) | exact HR0_5.out | (with_reducible refine Kd.C_alloc ?_ _) | (with_reducible refine Kd.C_drewN ?_ _) | (with_reducible refine Kd.C_drew ?_))); (case aB => exact (below_y HB.out)); (case aF => exact (fun _ _ => trivial)); (case aO => exact (Kd.R_y HO264.out)); (case aS => exact (below_size (below_y HB.out))); (case aL => have := LMc3.out; omega); intro v266 w9 ho hb hg hat; rw [← Ny265.out] at ho; have n0_ := mkA (blk_grown (blk_y BK261.out) hg (Kd.R_ne HO264.out BK261.out (by decide))); have n1_ := mkA (hb); have n2_ := mkA (ho); clear BK261; clear HB; clear HO264; have BK261 := n0_; have HB := n1_; have HO267 := n2_; clear n0_ n1_ n2_; clear ho hb hg hat; have hcz10_0 := bc BK261.out 0 _ rfl; have hcz10_1 := bc BK261.out 1 _ rfl; have hcz10_2 := bc BK261.out 2 _ rfl; have hcz10_3 := bc BK261.out 3 _ rfl; have hcz10_4 := bc BK261.out 4 _ rfl; have hcz10_5 := bc BK261.out 5 _ rfl; have hfz10_0 := blk_frozen BK261.out 0; have hfz10_1 := blk_frozen BK261.out 1; have hfz10_2 := blk_frozen BK261.out 2; have hfz10_3 := blk_frozen BK261.out 3; have hfz10_4 := blk_frozen BK261.out 4; have hfz10_5 := blk_frozen BK261.out 5) | ((with_reducible refine gate_dst (N := 17) rfl ?_); refine Kd.R_lit (Kd.int .i64) _ 3 ?hg (N := 17) ?hd (xs := ([] : List Int)) (inner := []) (ok := fun _ => True) (okp := fun _ => True) ?hr ?hp (fun _ hk => hk) trivial (Below.refl _ _) (Nat.le_refl _) (by simp) ?_; (case hd => rfl); (case hg => rfl); (case hr => first | (go_simp; done) | (go_simp; rfl)); (case hp => exact (Reps.none _ _)); intro v269 w11 ho12 hb hg_ hnew_; clear hg_ hnew_; (first | rw [← Ny268.out] at ho12 | (simp only [Int.reduceToNat] at ho12; rw [← Ny268.out] at ho12)); have n0_ := mkA (Kd.R_below (Kd.R_y HO267.out) hb); have n1_ := mkA (Kd.R_lower ho12 (below_size (below_y HB.out))); have n2_ := mkA (blk_below (blk_y BK261.out) hb); have n3_ := mkA (below_step (below_y HB.out) hb); clear HO267; clear BK261; clear HB; have HO267 := n0_; have HO270 := n1_; have BK261 := n2_; have HB := n3_; clear n0_ n1_ n2_ n3_; clear hb ho12))
 go_loopg [7] k (fun kq v7 w' => ∃ (x5_1 : List (S29)) (x7_1 : List Int), Aside0 (newsreelref41_Over.l0 kq a1 x5_1 ji4 x7_1 = some r) ∧ Aside0 (kq ≤ k) ∧ Aside0 (Kd.R k29 29 w' w.heap.size (fun _ => True) v266 x5_1) ∧ Aside0 (Kd.R (Kd.int .i64) 3 w' w.heap.size (fun _ => True) v7 x7_1) ∧ Aside0 (w'.heap[gb261]? = some (.cells #[.int .i64 a0_0, .int .i64 a0_1, .int .i64 a0_2, .int .i64 a0_3, (.slice A0_4 l0_4.length c0_4), (.slice A0_5 l0_5.length c0_5)] 25 (0, 0))) ∧ Aside0 (Below w.heap.size w w'))
 case atStart => exact ⟨(y265), (y268), H', ⟨Nat.le_refl _⟩, ⟨by (with_reducible repeat (first | apply Kd.R_alloc | apply Kd.R_drewN | apply Kd.R_drew)); exact HO267.out⟩, ⟨by (with_reducible repeat (first | apply Kd.R_alloc | apply Kd.R_drewN | apply Kd.R_drew)); exact HO270.out⟩, ⟨by (with_reducible repeat (first | refine blk_drewN ?_ _ | refine blk_drew ?_ | refine blk_alloc ?_ _)); exact BK261.out⟩, ⟨by repeat (first | (with_reducible first | exact HB.out | apply below_alloc | apply pw_below_drewN | apply below_drew1 | refine below_set ?_ GE261.out) | exact HB.out)⟩⟩
 clear H'
 try clear c1
 try clear p2
 try clear c3
 try clear c12
 try clear hcz10_0
 try clear hcz10_1
 try clear hcz10_2
 try clear hcz10_3
 try clear hcz10_4
 try clear hcz10_5
 try clear hcz8_0
 try clear hcz8_1
 try clear hcz8_2
 try clear hcz8_3
 try clear hcz8_4
 try clear hcz8_5
 try clear hfz10_0
 try clear hfz10_1
 try clear hfz10_2
 try clear hfz10_3
 try clear hfz10_4
 try clear hfz10_5
 try clear hfz8_0
 try clear hfz8_1
 try clear hfz8_2
 try clear hfz8_3
 try clear hfz8_4
 try clear hfz8_5
 obtain ⟨x5_1, x7_1, HA, HK1, HO_5, HO_7, BK261, HB⟩ := hrel
 rcases gk with _ | k1
 ·exact absurd HA.out (by simp [newsreelref41_Over.l0])
 have H := HA.out
 clear HA
 simp only [newsreelref41_Over.l0] at H
 replace H := Option.bind_eq_some_iff.mp H
 obtain ⟨t271, A130, H⟩ := H
 replace H : (if t271 > ji4 then (newsreelref41_Over.l1 k1 a1 x5_1 ji4 x7_1 (-1) 0) else (some x7_1)) = some r := H
 have A13 := mkA A130
 clear A130
 by_cases c14 : t271 > ji4
 rotate_left
 ·rw [if_neg c14] at H
  have c14b0 : decide (ji4 < t271) = false := decide_eq_false c14
  clear c14
  as_aux_lemma =>
   obtain rfl := Option.some.inj H
   obtain ⟨Ao43, co43, eo43⟩ := Kd.R_slice HO_5.out
   subst eo43
   go_wp2_with (first | ((with_reducible refine gate_load (t := 25) rfl ?_); refine load_row3 (t := 25) (g := gb261) ?hg BK261.out ?ho ?hb Try.underlying25 rfl ?hs ?_; (case hg => rfl); (case ho => refine ⟨_, rfl, ?_⟩; first | (with_reducible rfl) | (go_simp; done)); (case hb => (with_reducible repeat (first | refine blk_drewN ?_ _ | refine blk_drew ?_ | refine blk_alloc ?_ _)); with_reducible exact BK261.out); (case hs => kernel_rfl)) | ((with_reducible refine gate_callee (f := 23) rfl ?_); refine goesL_ (some 20) rfl rfl Try.func23 (by kernel_rfl) rfl #[.slice Ao43 x5_1.length co43, .int .i64 a1] rfl ca ?_; (with_reducible refine (newsreelref41_published.calls _ _ _ _ _ _ _ ?side1 ?side2 A13.out).mono ?_); (case side1 => exact Kd.C_y (Kd.R_reads' HO_5.out).2.2); (case side2 => exact (Kd.R_reads' HO_5.out).2.1); rintro e w' ⟨rfl, ⟨nd, rfl⟩⟩; refine ⟨_, rfl, ?_⟩))
   go_ret
   exact ⟨_, by first | rfl | (simp [errW_none, errW_some] <;> rfl) | (simp only [← hji4]; first | rfl | (simp [errW_none, errW_some] <;> rfl)) | (simp [*, errW_none, errW_some] <;> rfl), by (with_reducible repeat (first | apply Kd.R_alloc | apply Kd.R_drewN | apply Kd.R_drew)); exact HO_7.out, by repeat (first | (with_reducible first | exact HB.out | apply below_alloc | apply pw_below_drewN | apply below_drew1 | refine below_set ?_ GE261.out) | exact HB.out)⟩
 rw [if_pos c14] at H
 have c14b0 : decide (ji4 < t271) = true := decide_eq_true c14
 clear c14
 have H' := mkA H
 clear H
 obtain ⟨Ao15, co15, eo15⟩ := Kd.R_slice HO_5.out
 subst eo15
 go_wp2_with (first | ((with_reducible refine gate_load (t := 25) rfl ?_); refine load_row3 (t := 25) (g := gb261) ?hg BK261.out ?ho ?hb Try.underlying25 rfl ?hs ?_; (case hg => rfl); (case ho => refine ⟨_, rfl, ?_⟩; first | (with_reducible rfl) | (go_simp; done)); (case hb => (with_reducible repeat (first | refine blk_drewN ?_ _ | refine blk_drew ?_ | refine blk_alloc ?_ _)); with_reducible exact BK261.out); (case hs => kernel_rfl)) | ((with_reducible refine gate_callee (f := 23) rfl ?_); refine goesL_ (some 20) rfl rfl Try.func23 (by kernel_rfl) rfl #[.slice Ao15 x5_1.length co15, .int .i64 a1] rfl ca ?_; (with_reducible refine (newsreelref41_published.calls _ _ _ _ _ _ _ ?side1 ?side2 A13.out).mono ?_); (case side1 => exact Kd.C_y (Kd.R_reads' HO_5.out).2.2); (case side2 => exact (Kd.R_reads' HO_5.out).2.1); rintro e w' ⟨rfl, ⟨nd, rfl⟩⟩; refine ⟨_, rfl, ?_⟩))
 go_loopg [8, 9] k1 (fun kq v8 v9 w' => ∃ (x8_2 : Int) (x9_2 : Int), v8 = .int .i64 x8_2 ∧ v9 = .int .i64 x9_2 ∧ Aside0 (newsreelref41_Over.l1 kq a1 x5_1 ji4 x7_1 x8_2 x9_2 = some r) ∧ Aside0 (kq ≤ k1) ∧ Aside0 (Kd.R k29 29 w' w.heap.size (fun _ => True) (.slice Ao15 x5_1.length co15) x5_1) ∧ Aside0 (Kd.R (Kd.int .i64) 3 w' w.heap.size (fun _ => True) u7 x7_1) ∧ Aside0 (w'.heap[gb261]? = some (.cells #[.int .i64 a0_0, .int .i64 a0_1, .int .i64 a0_2, .int .i64 a0_3, (.slice A0_4 l0_4.length c0_4), (.slice A0_5 l0_5.length c0_5)] 25 (0, 0))) ∧ Aside0 (Below w.heap.size w w'))
 case atStart => exact ⟨((-1)), (0), (by first | rfl | (simp; done) | (simp [*]; done)), (by first | rfl | (simp; done) | (simp [*]; done)), H', ⟨Nat.le_refl _⟩, ⟨by (with_reducible repeat (first | apply Kd.R_alloc | apply Kd.R_drewN | apply Kd.R_drew)); exact HO_5.out⟩, ⟨by (with_reducible repeat (first | apply Kd.R_alloc | apply Kd.R_drewN | apply Kd.R_drew)); exact HO_7.out⟩, ⟨by (with_reducible repeat (first | refine blk_drewN ?_ _ | refine blk_drew ?_ | refine blk_alloc ?_ _)); exact BK261.out⟩, ⟨by repeat (first | (with_reducible first | exact HB.out | apply below_alloc | apply pw_below_drewN | apply below_drew1 | refine below_set ?_ GE261.out) | exact HB.out)⟩⟩
 clear H'
 try clear c1
 try clear c2
 try clear p2
 try clear c3
 try clear c12
 try clear c14
 try clear c14b0
 try clear hcz10_0
 try clear hcz10_1
 try clear hcz10_2
 try clear hcz10_3
 try clear hcz10_4
 try clear hcz10_5
 try clear hcz8_0
 try clear hcz8_1
 try clear hcz8_2
 try clear hcz8_3
 try clear hcz8_4
 try clear hcz8_5
 try clear hfz10_0
 try clear hfz10_1
 try clear hfz10_2
 try clear hfz10_3
 try clear hfz10_4
 try clear hfz10_5
 try clear hfz8_0
 try clear hfz8_1
 try clear hfz8_2
 try clear hfz8_3
 try clear hfz8_4
 try clear hfz8_5
 try clear p2
 obtain ⟨x8_2, x9_2, rfl, rfl, HA, HK2, HO_5, HO_7, BK261, HB⟩ := hrel
 rcases gk with _ | k2
 ·exact absurd HA.out (by simp [newsreelref41_Over.l1])
 have H := HA.out
 clear HA
 simp only [newsreelref41_Over.l1] at H
 by_cases c16 : x9_2 < (x5_1.length : Int)
 rotate_left
 ·rw [if_neg c16] at H
  have c16b0 : decide (x9_2 < (x5_1.length : Int)) = false := decide_eq_false c16
  clear c16
  by_cases c35 : x8_2 < 0
  ·rw [if_pos c35] at H
   have c35b0 : decide (x8_2 < 0) = true := decide_eq_true c35
   clear c35
   as_aux_lemma =>
    obtain rfl := Option.some.inj H
    go_wp2_with (first | ((with_reducible refine gate_load (t := 25) rfl ?_); refine load_row3 (t := 25) (g := gb261) ?hg BK261.out ?ho ?hb Try.underlying25 rfl ?hs ?_; (case hg => rfl); (case ho => refine ⟨_, rfl, ?_⟩; first | (with_reducible rfl) | (go_simp; done)); (case hb => (with_reducible repeat (first | refine blk_drewN ?_ _ | refine blk_drew ?_ | refine blk_alloc ?_ _)); with_reducible exact BK261.out); (case hs => kernel_rfl)))
    go_ret
    exact ⟨_, by first | rfl | (simp [errW_none, errW_some] <;> rfl) | (simp only [← hji4]; first | rfl | (simp [errW_none, errW_some] <;> rfl)) | (simp [*, errW_none, errW_some] <;> rfl), by (with_reducible repeat (first | apply Kd.R_alloc | apply Kd.R_drewN | apply Kd.R_drew)); exact HO_7.out, by repeat (first | (with_reducible first | exact HB.out | apply below_alloc | apply pw_below_drewN | apply below_drew1 | refine below_set ?_ GE261.out) | exact HB.out)⟩
  ·rw [if_neg c35] at H
   have c35b0 : decide (x8_2 < 0) = false := decide_eq_false c35
   clear c35
   by_cases c36 : 0 ≤ x8_2
   ·rw [if_pos c36] at H
    have c36b0 : decide (0 ≤ x8_2) = true := decide_eq_true c36
    clear c36
    by_cases c37 : x8_2 < (x5_1.length : Int)
    ·rw [if_pos c37] at H
     have c37b0 : decide (x8_2 < (x5_1.length : Int)) = true := decide_eq_true c37
     clear c37
     by_cases c38 : x7_1.length < 17592186044416
     ·rw [if_pos c38] at H
      have LMc38 := mkA c38
      clear c38
      obtain ⟨y273, hy273⟩ : ∃ y_ : List Int, y_ = (x7_1 ++ [(rd_T29 x5_1 x8_2).f0]) := ⟨_, rfl⟩
      replace H : (newsreelref41_Over.l0 k2 a1 (x5_1.set (x8_2 : Int).toNat (⟨(rd_T29 x5_1 x8_2).f0, (rd_T29 x5_1 x8_2).f1, (rd_T29 x5_1 x8_2).f2, (rd_T29 x5_1 x8_2).f3, (rd_T29 x5_1 x8_2).f4, (rd_T29 x5_1 x8_2).f5, (rd_T29 x5_1 x8_2).f6, 5, (rd_T29 x5_1 x8_2).f8, (rd_T29 x5_1 x8_2).f9, (rd_T29 x5_1 x8_2).f10, (rd_T29 x5_1 x8_2).f11, (rd_T29 x5_1 x8_2).f12, (rd_T29 x5_1 x8_2).f13, (rd_T29 x5_1 x8_2).f14, (rd_T29 x5_1 x8_2).f15, (rd_T29 x5_1 x8_2).f16, (rd_T29 x5_1 x8_2).f17, (rd_T29 x5_1 x8_2).f18, (rd_T29 x5_1 x8_2).f19⟩ : S29)) ji4 y273) = some r := by first | (rw [hy273]; with_reducible exact H) | (have H2_ := (Option.bind_some _ _).symm.trans H; rw [hy273]; with_reducible exact H2_) | (have H2_ := (Option.bind_some _ _).symm.trans H; with_reducible exact H2_) | with_reducible exact H | (rw [hy273]; exact H) | exact H
      have Ny273 := mkA hy273
      clear hy273
      obtain ⟨y276, hy276⟩ : ∃ y_ : List (S29), y_ = (x5_1.set (x8_2 : Int).toNat (⟨(rd_T29 x5_1 x8_2).f0, (rd_T29 x5_1 x8_2).f1, (rd_T29 x5_1 x8_2).f2, (rd_T29 x5_1 x8_2).f3, (rd_T29 x5_1 x8_2).f4, (rd_T29 x5_1 x8_2).f5, (rd_T29 x5_1 x8_2).f6, 5, (rd_T29 x5_1 x8_2).f8, (rd_T29 x5_1 x8_2).f9, (rd_T29 x5_1 x8_2).f10, (rd_T29 x5_1 x8_2).f11, (rd_T29 x5_1 x8_2).f12, (rd_T29 x5_1 x8_2).f13, (rd_T29 x5_1 x8_2).f14, (rd_T29 x5_1 x8_2).f15, (rd_T29 x5_1 x8_2).f16, (rd_T29 x5_1 x8_2).f17, (rd_T29 x5_1 x8_2).f18, (rd_T29 x5_1 x8_2).f19⟩ : S29)) := ⟨_, rfl⟩
      replace H : (newsreelref41_Over.l0 k2 a1 y276 ji4 y273) = some r := by first | (rw [hy276]; with_reducible exact H) | (have H2_ := (Option.bind_some _ _).symm.trans H; rw [hy276]; with_reducible exact H2_) | (have H2_ := (Option.bind_some _ _).symm.trans H; with_reducible exact H2_) | with_reducible exact H | (rw [hy276]; exact H) | exact H
      have Ny276 := mkA hy276
      clear hy276
      as_aux_lemma =>
       have H' := mkA H
       clear H
       have p272 : 0 ≤ (x8_2 : Int) := odt
       have q272 : x8_2 < (x5_1.length : Int) := odt
       obtain ⟨ad272, e272, hx272_0, hx272_1, hx272_2, hx272_3, hx272_4, hx272_5, hx272_6, hx272_7, hx272_8, hx272_9, hx272_10, hx272_11, hx272_12, hx272_13, hx272_14, hx272_15, hx272_16, hx272_17, hx272_18, hx272_19⟩ := at_T29 (Kd.R_reads' HO_5.out).2.2 x8_2 p272 q272
       cases e272
       replace p272 := eq_true p272
       replace q272 := eq_true q272
       go_wp2_with (first | ((with_reducible refine gate_load (t := 25) rfl ?_); refine load_row3 (t := 25) (g := gb261) ?hg BK261.out ?ho ?hb Try.underlying25 rfl ?hs ?_; (case hg => rfl); (case ho => refine ⟨_, rfl, ?_⟩; first | (with_reducible rfl) | (go_simp; done)); (case hb => (with_reducible repeat (first | refine blk_drewN ?_ _ | refine blk_drew ?_ | refine blk_alloc ?_ _)); with_reducible exact BK261.out); (case hs => kernel_rfl)) | ((with_reducible refine gate_builtin (b := .append) (xs := #[.tmp 54, .tmp 60]) rfl ?_); at_builtin; refine Kd.R_append (Kd.int .i64) (w0 := w) w.heap.size rfl (.tmp 54) (.tmp 60) 32 3 (.int .i64 0) 8 rfl Try.underlying32 info3 rfl (by decide) (by omega) u7 x7_1 ((rd_T29 x5_1 x8_2).f0) [.int .i64 ((rd_T29 x5_1 x8_2).f0)] (fun _ => True) (fun _ => False) rfl rfl ?aP (fun _ hk => hk.elim) ?aF ?aO ?aB ?aS ?aL ?_; (case aP => exact rfl); (case aB => exact (below_y HB.out)); (case aF => exact (fun _ _ => trivial)); (case aO => exact (Kd.R_y HO_7.out)); (case aS => exact (below_size (below_y HB.out))); (case aL => have := LMc38.out; omega); intro v274 w40 ho hb hg hat; rw [← Ny273.out] at ho; have n0_ := mkA (Kd.R_over' (Kd.R_y HO_5.out) (Kd.R_typed (Kd.R_y HO_7.out)) (by decide) hg); have n1_ := mkA (blk_grown (blk_y BK261.out) hg (Kd.R_ne HO_7.out BK261.out (by decide))); have n2_ := mkA (hb); have n3_ := mkA (ho); clear HO_5; clear BK261; clear HB; clear HO_7; have HO_5 := n0_; have BK261 := n1_; have HB := n2_; have HO275 := n3_; clear n0_ n1_ n2_ n3_; clear ho hb hg hat; have p39 : 0 ≤ (x8_2 : Int) := odt; have q39 : (x8_2 : Int) < ((x5_1.length : Int) : Int) := odt; obtain ⟨go39, co39, eo39, gb39, gl39, cl39, HG39⟩ := Kd.R_form HO_5.out (by omega); (first | cases eo39 | (injection eo39 with ea_ en_ ec_; (first | subst ea_ | (injection ea_ with ea_; subst ea_)); subst ec_; clear en_)); have GB39 := mkA gb39; have GG39 := mkA HG39; clear gb39 gl39 HG39; (first | simp only [add_plain] at hx272_0 | skip); (first | simp only [add_plain] at hx272_1 | skip); (first | simp only [add_plain] at hx272_2 | skip); (first | simp only [add_plain] at hx272_3 | skip); (first | simp only [add_plain] at hx272_4 | skip); (first | simp only [add_plain] at hx272_5 | skip); (first | simp only [add_plain] at hx272_6 | skip); (first | simp only [add_plain] at hx272_7 | skip); (first | simp only [add_plain] at hx272_8 | skip); (first | simp only [add_plain] at hx272_9 | skip); (first | simp only [add_plain] at hx272_10 | skip); (first | simp only [add_plain] at hx272_11 | skip); (first | simp only [add_plain] at hx272_12 | skip); (first | simp only [add_plain] at hx272_13 | skip); (first | simp only [add_plain] at hx272_14 | skip); (first | simp only [add_plain] at hx272_15 | skip); (first | simp only [add_plain] at hx272_16 | skip); (first | simp only [add_plain] at hx272_17 | skip); (first | simp only [add_plain] at hx272_18 | skip); (first | simp only [add_plain] at hx272_19 | skip); obtain ⟨ce39, hcl39, hM39, hcc39, hfr39⟩ := Kd.R_elem HO_5.out z29 (x8_2 : Int) p39 q39; obtain rfl := k29_openM hM39; have hx39_0 : w40.cell? ⟨go39, (x8_2 : Int).toNat * 20, none⟩ = some (.int .i64 ((rd_T29 x5_1 x8_2).f0)) := hcc39 0 _ rfl; have hx39_1 : w40.cell? ⟨go39, (x8_2 : Int).toNat * 20 + 1, none⟩ = some (.int .i64 ((rd_T29 x5_1 x8_2).f1)) := hcc39 1 _ rfl; have hx39_2 : w40.cell? ⟨go39, (x8_2 : Int).toNat * 20 + 2, none⟩ = some (.string ((rd_T29 x5_1 x8_2).f2)) := hcc39 2 _ rfl; have hx39_3 : w40.cell? ⟨go39, (x8_2 : Int).toNat * 20 + 3, none⟩ = some (.string ((rd_T29 x5_1 x8_2).f3)) := hcc39 3 _ rfl; have hx39_4 : w40.cell? ⟨go39, (x8_2 : Int).toNat * 20 + 4, none⟩ = some (.string ((rd_T29 x5_1 x8_2).f4)) := hcc39 4 _ rfl; have hx39_5 : w40.cell? ⟨go39, (x8_2 : Int).toNat * 20 + 5, none⟩ = some (.int .i64 ((rd_T29 x5_1 x8_2).f5)) := hcc39 5 _ rfl; have hx39_6 : w40.cell? ⟨go39, (x8_2 : Int).toNat * 20 + 6, none⟩ = some (.int .i64 ((rd_T29 x5_1 x8_2).f6)) := hcc39 6 _ rfl; have hx39_7 : w40.cell? ⟨go39, (x8_2 : Int).toNat * 20 + 7, none⟩ = some (.int .i64 ((rd_T29 x5_1 x8_2).f7)) := hcc39 7 _ rfl; have hx39_8 : w40.cell? ⟨go39, (x8_2 : Int).toNat * 20 + 8, none⟩ = some (.int .i64 ((rd_T29 x5_1 x8_2).f8)) := hcc39 8 _ rfl; have hx39_9 : w40.cell? ⟨go39, (x8_2 : Int).toNat * 20 + 9, none⟩ = some (.bool ((rd_T29 x5_1 x8_2).f9)) := hcc39 9 _ rfl; have hx39_10 : w40.cell? ⟨go39, (x8_2 : Int).toNat * 20 + 10, none⟩ = some (.int .i64 ((rd_T29 x5_1 x8_2).f10)) := hcc39 10 _ rfl; have hx39_11 : w40.cell? ⟨go39, (x8_2 : Int).toNat * 20 + 11, none⟩ = some (.int .i64 ((rd_T29 x5_1 x8_2).f11)) := hcc39 11 _ rfl; have hx39_12 : w40.cell? ⟨go39, (x8_2 : Int).toNat * 20 + 12, none⟩ = some (.int .i64 ((rd_T29 x5_1 x8_2).f12)) := hcc39 12 _ rfl; have hx39_13 : w40.cell? ⟨go39, (x8_2 : Int).toNat * 20 + 13, none⟩ = some (.string ((rd_T29 x5_1 x8_2).f13)) := hcc39 13 _ rfl; have hx39_14 : w40.cell? ⟨go39, (x8_2 : Int).toNat * 20 + 14, none⟩ = some (.int .i64 ((rd_T29 x5_1 x8_2).f14)) := hcc39 14 _ rfl; have hx39_15 : w40.cell? ⟨go39, (x8_2 : Int).toNat * 20 + 15, none⟩ = some (.int .i64 ((rd_T29 x5_1 x8_2).f15)) := hcc39 15 _ rfl; have hx39_16 : w40.cell? ⟨go39, (x8_2 : Int).toNat * 20 + 16, none⟩ = some (.string ((rd_T29 x5_1 x8_2).f16)) := hcc39 16 _ rfl; have hx39_17 : w40.cell? ⟨go39, (x8_2 : Int).toNat * 20 + 17, none⟩ = some (.int .i64 ((rd_T29 x5_1 x8_2).f17)) := hcc39 17 _ rfl; have hx39_18 : w40.cell? ⟨go39, (x8_2 : Int).toNat * 20 + 18, none⟩ = some (.int .i64 ((rd_T29 x5_1 x8_2).f18)) := hcc39 18 _ rfl; have hx39_19 : w40.cell? ⟨go39, (x8_2 : Int).toNat * 20 + 19, none⟩ = some (.string ((rd_T29 x5_1 x8_2).f19)) := hcc39 19 _ rfl; have hf39_0 : w40.frozen? ⟨go39, (x8_2 : Int).toNat * 20, none⟩ = false := hfr39 0; have hf39_1 : w40.frozen? ⟨go39, (x8_2 : Int).toNat * 20 + 1, none⟩ = false := hfr39 1; have hf39_2 : w40.frozen? ⟨go39, (x8_2 : Int).toNat * 20 + 2, none⟩ = false := hfr39 2; have hf39_3 : w40.frozen? ⟨go39, (x8_2 : Int).toNat * 20 + 3, none⟩ = false := hfr39 3; have hf39_4 : w40.frozen? ⟨go39, (x8_2 : Int).toNat * 20 + 4, none⟩ = false := hfr39 4; have hf39_5 : w40.frozen? ⟨go39, (x8_2 : Int).toNat * 20 + 5, none⟩ = false := hfr39 5; have hf39_6 : w40.frozen? ⟨go39, (x8_2 : Int).toNat * 20 + 6, none⟩ = false := hfr39 6; have hf39_7 : w40.frozen? ⟨go39, (x8_2 : Int).toNat * 20 + 7, none⟩ = false := hfr39 7; have hf39_8 : w40.frozen? ⟨go39, (x8_2 : Int).toNat * 20 + 8, none⟩ = false := hfr39 8; have hf39_9 : w40.frozen? ⟨go39, (x8_2 : Int).toNat * 20 + 9, none⟩ = false := hfr39 9; have hf39_10 : w40.frozen? ⟨go39, (x8_2 : Int).toNat * 20 + 10, none⟩ = false := hfr39 10; have hf39_11 : w40.frozen? ⟨go39, (x8_2 : Int).toNat * 20 + 11, none⟩ = false := hfr39 11; have hf39_12 : w40.frozen? ⟨go39, (x8_2 : Int).toNat * 20 + 12, none⟩ = false := hfr39 12; have hf39_13 : w40.frozen? ⟨go39, (x8_2 : Int).toNat * 20 + 13, none⟩ = false := hfr39 13; have hf39_14 : w40.frozen? ⟨go39, (x8_2 : Int).toNat * 20 + 14, none⟩ = false := hfr39 14; have hf39_15 : w40.frozen? ⟨go39, (x8_2 : Int).toNat * 20 + 15, none⟩ = false := hfr39 15; have hf39_16 : w40.frozen? ⟨go39, (x8_2 : Int).toNat * 20 + 16, none⟩ = false := hfr39 16; have hf39_17 : w40.frozen? ⟨go39, (x8_2 : Int).toNat * 20 + 17, none⟩ = false := hfr39 17; have hf39_18 : w40.frozen? ⟨go39, (x8_2 : Int).toNat * 20 + 18, none⟩ = false := hfr39 18; have hf39_19 : w40.frozen? ⟨go39, (x8_2 : Int).toNat * 20 + 19, none⟩ = false := hfr39 19; clear hcl39 hcc39 hfr39 hM39; replace p39 := eq_true p39; replace q39 := eq_true q39; have HX41 := mkA (show Kd.R k29 29 w40 w.heap.size (fun _ => True) (.slice (some ⟨go39, 0, none⟩) x5_1.length co15) x5_1 from (Kd.R_y HO_5.out)); obtain ⟨ce41, hcl41, hM41, hcc41, hfr41⟩ := Kd.R_elem HX41.out z29 (x8_2 : Int) (odt) (by have h_ : (x8_2 : Int) < ((x5_1.length : Int) : Int) := odt; first | exact h_ | (have e_ := (Kd.R_reads' HO_5.out).1; omega) | simpa using h_); obtain rfl := k29_openM hM41; have HP41 := Kd.R_seg HX41.out (x8_2 : Int) (odt) (by have h_ : (x8_2 : Int) < ((x5_1.length : Int) : Int) := odt; first | exact h_ | (have e_ := (Kd.R_reads' HO_5.out).1; omega) | simpa using h_) (seg := [.int .i64 5]) (j := 7) hcl41 hcc41 (show 8 ≤ 20 from by decide) (x' := (⟨(rd_T29 x5_1 x8_2).f0, (rd_T29 x5_1 x8_2).f1, (rd_T29 x5_1 x8_2).f2, (rd_T29 x5_1 x8_2).f3, (rd_T29 x5_1 x8_2).f4, (rd_T29 x5_1 x8_2).f5, (rd_T29 x5_1 x8_2).f6, 5, (rd_T29 x5_1 x8_2).f8, (rd_T29 x5_1 x8_2).f9, (rd_T29 x5_1 x8_2).f10, (rd_T29 x5_1 x8_2).f11, (rd_T29 x5_1 x8_2).f12, (rd_T29 x5_1 x8_2).f13, (rd_T29 x5_1 x8_2).f14, (rd_T29 x5_1 x8_2).f15, (rd_T29 x5_1 x8_2).f16, (rd_T29 x5_1 x8_2).f17, (rd_T29 x5_1 x8_2).f18, (rd_T29 x5_1 x8_2).f19⟩ : S29)) (k29_mkM _ _ _ (⟨(rd_T29 x5_1 x8_2).f0, (rd_T29 x5_1 x8_2).f1, (rd_T29 x5_1 x8_2).f2, (rd_T29 x5_1 x8_2).f3, (rd_T29 x5_1 x8_2).f4, (rd_T29 x5_1 x8_2).f5, (rd_T29 x5_1 x8_2).f6, 5, (rd_T29 x5_1 x8_2).f8, (rd_T29 x5_1 x8_2).f9, (rd_T29 x5_1 x8_2).f10, (rd_T29 x5_1 x8_2).f11, (rd_T29 x5_1 x8_2).f12, (rd_T29 x5_1 x8_2).f13, (rd_T29 x5_1 x8_2).f14, (rd_T29 x5_1 x8_2).f15, (rd_T29 x5_1 x8_2).f16, (rd_T29 x5_1 x8_2).f17, (rd_T29 x5_1 x8_2).f18, (rd_T29 x5_1 x8_2).f19⟩ : S29) ) (fun _ hk => hk); have hx41_7 := hcc41 7 _ rfl; (try simp only [show (k29).sz = 20 from rfl, Nat.mul_one, Nat.add_zero] at hx41_7); have hf41_7 := hfr41 7; (try simp only [show (k29).sz = 20 from rfl, Nat.mul_one, Nat.add_zero] at hf41_7); clear hcl41 hcc41 hfr41 hM41) | ((with_reducible refine gate_store (t := 3) (p := 65) rfl ?_); refine store_event (t := 3) (p := 65) (v := ?vo_w42) (w1 := (w40.setCell ⟨go39, (x8_2 : Int).toNat * 20 + 7, none⟩ (.int .i64 5))) ?hg ?ho ?hn ?hr ?_; (case ho => rfl); (case hg => rfl); (case hn => rfl); (case hr => first | (go_simp; done) | (go_simp; rfl)); intro w42 hw; have hg : w40.grownBy w42 (some go39) := (by rw [hw]; exact HP41.2); have hp_ : Kd.R k29 29 w42 w.heap.size (fun _ => True) (.slice (some ⟨go39, 0, none⟩) x5_1.length co15) y276 := (by rw [hw, Ny276.out]; exact HP41.1); clear HP41; have n0_ := mkA (hp_); have n1_ := mkA (blk_grown (blk_y BK261.out) hg (Kd.R_ne HO_5.out BK261.out (by decide))); have n2_ := mkA (Kd.R_over' (v := (.slice (some ⟨go39, 0, none⟩) x5_1.length co15)) (Kd.R_y HO275.out) (Kd.R_typed HO_5.out) (by decide) hg); have n3_ := mkA ((by rw [hw]; exact below_set (HB.out) GB39.out : Below w.heap.size w w42)); clear HO_5; clear BK261; clear HO275; clear HB; have HO_5 := n0_; have BK261 := n1_; have HO275 := n2_; have HB := n3_; clear n0_ n1_ n2_ n3_; clear hg hw hp_))
       go_roundg k2
       case measure => have := HK1.out; have := HK2.out; omega
       case rel => exact ⟨(y276), (y273), H', ⟨by have := HK1.out; have := HK2.out; omega⟩, ⟨by (with_reducible repeat (first | apply Kd.R_alloc | apply Kd.R_drewN | apply Kd.R_drew)); exact HO_5.out⟩, ⟨by (with_reducible repeat (first | apply Kd.R_alloc | apply Kd.R_drewN | apply Kd.R_drew)); exact HO275.out⟩, ⟨by (with_reducible repeat (first | refine blk_drewN ?_ _ | refine blk_drew ?_ | refine blk_alloc ?_ _)); exact BK261.out⟩, ⟨by repeat (first | (with_reducible first | exact HB.out | apply below_alloc | apply pw_below_drewN | apply below_drew1 | refine below_set ?_ GE261.out) | exact HB.out)⟩⟩
     ·rw [if_neg c38] at H
      exact absurd H (by simp)
    ·rw [if_neg c37] at H
     exact absurd H (by simp)
   ·rw [if_neg c36] at H
    exact absurd H (by simp)
 rw [if_pos c16] at H
 have c16b0 : decide (x9_2 < (x5_1.length : Int)) = true := decide_eq_true c16
 clear c16
 by_cases c17 : 0 ≤ x9_2
 rotate_left
 ·rw [if_neg c17] at H
  exact absurd H (by simp)
 rw [if_pos c17] at H
 have c17b0 : decide (0 ≤ x9_2) = true := decide_eq_true c17
 clear c17
 replace H := Option.bind_eq_some_iff.mp H
 obtain ⟨t278, A180, H⟩ := H
 replace H : (if t278 = true then (if x8_2 < 0 then (newsreelref41_Over.l1 k2 a1 x5_1 ji4 x7_1 x9_2 (wrap64 (x9_2 + 1))) else (if 0 ≤ x8_2 then (if x8_2 < (x5_1.length : Int) then ((newsreelref41_older.f ((rd_T29 x5_1 x9_2).f0) ((rd_T29 x5_1 x9_2).f1) ((rd_T29 x5_1 x9_2).f2) ((rd_T29 x5_1 x9_2).f3) ((rd_T29 x5_1 x9_2).f4) ((rd_T29 x5_1 x9_2).f5) ((rd_T29 x5_1 x9_2).f6) ((rd_T29 x5_1 x9_2).f7) ((rd_T29 x5_1 x9_2).f8) ((rd_T29 x5_1 x9_2).f9) ((rd_T29 x5_1 x9_2).f10) ((rd_T29 x5_1 x9_2).f11) ((rd_T29 x5_1 x9_2).f12) ((rd_T29 x5_1 x9_2).f13) ((rd_T29 x5_1 x9_2).f14) ((rd_T29 x5_1 x9_2).f15) ((rd_T29 x5_1 x9_2).f16) ((rd_T29 x5_1 x9_2).f17) ((rd_T29 x5_1 x9_2).f18) ((rd_T29 x5_1 x9_2).f19) ((rd_T29 x5_1 x8_2).f0) ((rd_T29 x5_1 x8_2).f1) ((rd_T29 x5_1 x8_2).f2) ((rd_T29 x5_1 x8_2).f3) ((rd_T29 x5_1 x8_2).f4) ((rd_T29 x5_1 x8_2).f5) ((rd_T29 x5_1 x8_2).f6) ((rd_T29 x5_1 x8_2).f7) ((rd_T29 x5_1 x8_2).f8) ((rd_T29 x5_1 x8_2).f9) ((rd_T29 x5_1 x8_2).f10) ((rd_T29 x5_1 x8_2).f11) ((rd_T29 x5_1 x8_2).f12) ((rd_T29 x5_1 x8_2).f13) ((rd_T29 x5_1 x8_2).f14) ((rd_T29 x5_1 x8_2).f15) ((rd_T29 x5_1 x8_2).f16) ((rd_T29 x5_1 x8_2).f17) ((rd_T29 x5_1 x8_2).f18) ((rd_T29 x5_1 x8_2).f19)).bind fun t281 => (if t281 = true then (newsreelref41_Over.l1 k2 a1 x5_1 ji4 x7_1 x9_2 (wrap64 (x9_2 + 1))) else (newsreelref41_Over.l1 k2 a1 x5_1 ji4 x7_1 x8_2 (wrap64 (x9_2 + 1))))) else (none)) else (none))) else (newsreelref41_Over.l1 k2 a1 x5_1 ji4 x7_1 x8_2 (wrap64 (x9_2 + 1)))) = some r := H
 have A18 := mkA A180
 clear A180
 by_cases c19 : t278 = true
 rotate_left
 ·replace c19 := Bool.eq_false_iff.mpr c19
  subst c19
  have H1 : (newsreelref41_Over.l1 k2 a1 x5_1 ji4 x7_1 x8_2 (wrap64 (x9_2 + 1))) = some r := by rw [if_neg (show ¬ (false = true) by decide)] at H; exact H
  clear H
  have H := H1
  clear H1
  as_aux_lemma =>
   have H' := mkA H
   clear H
   try go_wp2_with (first | ((with_reducible refine gate_load (t := 25) rfl ?_); refine load_row3 (t := 25) (g := gb261) ?hg BK261.out ?ho ?hb Try.underlying25 rfl ?hs ?_; (case hg => rfl); (case ho => refine ⟨_, rfl, ?_⟩; first | (with_reducible rfl) | (go_simp; done)); (case hb => (with_reducible repeat (first | refine blk_drewN ?_ _ | refine blk_drew ?_ | refine blk_alloc ?_ _)); with_reducible exact BK261.out); (case hs => kernel_rfl)))
   have n0_ := mkA (Kd.R_drew HO_5.out)
   have n1_ := mkA (Kd.R_drew HO_7.out)
   have n2_ := mkA (blk_drew BK261.out)
   try (have HBd_ := mkA (below_drew1 (pw_below_drewN HB.out nd)))
   have n3_ := mkA (below_drew1 HB.out)
   clear HO_5 HO_7 BK261 HB
   have HO_5 := n0_
   have HO_7 := n1_
   have BK261 := n2_
   have HB := n3_
   clear n0_ n1_ n2_ n3_
   have p277 : 0 ≤ (x9_2 : Int) := odt
   have q277 : x9_2 < (x5_1.length : Int) := odt
   obtain ⟨ad277, e277, hx277_0, hx277_1, hx277_2, hx277_3, hx277_4, hx277_5, hx277_6, hx277_7, hx277_8, hx277_9, hx277_10, hx277_11, hx277_12, hx277_13, hx277_14, hx277_15, hx277_16, hx277_17, hx277_18, hx277_19⟩ := at_T29 (Kd.R_reads' HO_5.out).2.2 x9_2 p277 q277
   cases e277
   replace p277 := eq_true p277
   replace q277 := eq_true q277
   refine start_ (n := 21) (S := fun w' => ce29 w' (ad277.add ((x9_2).toNat * 20)) (rd_T29 x5_1 x9_2)) (ds := []) #[false, false, false, false, false, false, false, false, false, false, false, false, false, false, false, false, false, false, false, false, false] (by kernel_rfl) rfl rfl ⟨hx277_0, hx277_1, hx277_2, hx277_3, hx277_4, hx277_5, hx277_6, hx277_7, hx277_8, hx277_9, hx277_10, hx277_11, hx277_12, hx277_13, hx277_14, hx277_15, hx277_16, hx277_17, hx277_18, hx277_19⟩ (fun hHeld => ?_); refine with_tabW newsreelref41_Over.tab9 newsreelref41_Over.bits9 (fun HT_ HW_ => ?_)
   generalize wr.drew = w33 at HO_5 HO_7 BK261 HB hx277_0 hx277_1 hx277_10 hx277_11 hx277_12 hx277_13 hx277_14 hx277_15 hx277_16 hx277_17 hx277_18 hx277_19 hx277_2 hx277_3 hx277_4 hx277_5 hx277_6 hx277_7 hx277_8 hx277_9 hHeld ⊢
   refine pu 0 29 HT_ ?_
   refine pu 1 30 HT_ ?_
   refine pu 2 31 HT_ ?_
   refine pu 4 33 HT_ ?_
   refine take_ (i := 3) (N := some 32) (v := ?_) (a' := ?_) #[true, true, true, true, true, false, false, false, false, false, false, false, false, false, false, false, false, false, false, false, false] rfl rfl (take_ofW HT_.out HW_.out (by kernel_rfl)) (fun _ _ _ h => h) (Or.inl ⟨by rfl, ?_⟩) hHeld ?_ ?_
   rotate_left
   ·rintro w' ⟨s0, s1, s2, s3, s4, s5, s6, s7, s8, s9, s10, s11, s12, s13, s14, s15, s16, s17, s18, s19⟩
    first | (have hz_ := fun (a : Act) (o : Oper) (x : Operand) (ho : o.op = .load 29 x) (hx : a.eval x = _) => exec_load_at (P := Try.prog) (W := w') (cs := [_, _, _, _, _, _, _, _, _, _, _, _, _, _, _, _, _, _, _]) ho hx Try.underlying29 rfl (by kernel_rfl) s0 ⟨s1, s2, s3, s4, s5, s6, s7, s8, s9, s10, s11, s12, s13, s14, s15, s16, s17, s18, s19, trivial⟩; refine (hz_ _ _ (.tmp 31) ?_ ?_).trans ?_; (focus rfl); (focus (first | (with_reducible rfl) | (go_simp; done))); with_reducible rfl) | (go_simp; with_reducible rfl)
   rotate_left
   ·simp only [Act.put, sA, s0, sS, i64_w, i32_w]
    rfl
   refine one_ (i := 5) (N := some 34) #[true, true, true, true, true, true, false, false, false, false, false, false, false, false, false, false, false, false, false, false, false] rfl rfl (one_of HT_.out (by kernel_rfl)) (by decide) (fun K hK => ?_)
   refine goes_ Try.func16 (by kernel_rfl) rfl #[.agg #[.int .i64 ((rd_T29 x5_1 x9_2).f0), .int .i64 ((rd_T29 x5_1 x9_2).f1), .string ((rd_T29 x5_1 x9_2).f2), .string ((rd_T29 x5_1 x9_2).f3), .string ((rd_T29 x5_1 x9_2).f4), .int .i64 ((rd_T29 x5_1 x9_2).f5), .int .i64 ((rd_T29 x5_1 x9_2).f6), .int .i64 ((rd_T29 x5_1 x9_2).f7), .int .i64 ((rd_T29 x5_1 x9_2).f8), .bool ((rd_T29 x5_1 x9_2).f9), .int .i64 ((rd_T29 x5_1 x9_2).f10), .int .i64 ((rd_T29 x5_1 x9_2).f11), .int .i64 ((rd_T29 x5_1 x9_2).f12), .string ((rd_T29 x5_1 x9_2).f13), .int .i64 ((rd_T29 x5_1 x9_2).f14), .int .i64 ((rd_T29 x5_1 x9_2).f15), .string ((rd_T29 x5_1 x9_2).f16), .int .i64 ((rd_T29 x5_1 x9_2).f17), .int .i64 ((rd_T29 x5_1 x9_2).f18), .string ((rd_T29 x5_1 x9_2).f19)], .int .i64 a1] (by rfl) rfl rfl ca ?_
   with_reducible refine (newsreelref41_May.calls _ _ _ _ _ _ _ _ _ _ _ _ _ _ _ _ _ _ _ _ _ false _ A18.out).mono ?_
   rintro e w34 ⟨rfl, hb⟩
   have hbk_w34 := mkA hb
   have HS0_ := hs_ hb hHeld.1
   have HS1_ := hs_ hb hHeld.2.1
   have HS2_ := hs_ hb hHeld.2.2.1
   have HS3_ := hs_ hb hHeld.2.2.2.1
   have HS4_ := hs_ hb hHeld.2.2.2.2.1
   have HS5_ := hs_ hb hHeld.2.2.2.2.2.1
   have HS6_ := hs_ hb hHeld.2.2.2.2.2.2.1
   have HS7_ := hs_ hb hHeld.2.2.2.2.2.2.2.1
   have HS8_ := hs_ hb hHeld.2.2.2.2.2.2.2.2.1
   have HS9_ := hs_ hb hHeld.2.2.2.2.2.2.2.2.2.1
   have HS10_ := hs_ hb hHeld.2.2.2.2.2.2.2.2.2.2.1
   have HS11_ := hs_ hb hHeld.2.2.2.2.2.2.2.2.2.2.2.1
   have HS12_ := hs_ hb hHeld.2.2.2.2.2.2.2.2.2.2.2.2.1
   have HS13_ := hs_ hb hHeld.2.2.2.2.2.2.2.2.2.2.2.2.2.1
   have HS14_ := hs_ hb hHeld.2.2.2.2.2.2.2.2.2.2.2.2.2.2.1
   have HS15_ := hs_ hb hHeld.2.2.2.2.2.2.2.2.2.2.2.2.2.2.2.1
   have HS16_ := hs_ hb hHeld.2.2.2.2.2.2.2.2.2.2.2.2.2.2.2.2.1
   have HS17_ := hs_ hb hHeld.2.2.2.2.2.2.2.2.2.2.2.2.2.2.2.2.2.1
   have HS18_ := hs_ hb hHeld.2.2.2.2.2.2.2.2.2.2.2.2.2.2.2.2.2.2.1
   have HS19_ := hs_ hb hHeld.2.2.2.2.2.2.2.2.2.2.2.2.2.2.2.2.2.2.2
   refine ⟨_, rfl, ?_⟩
   have n0_ := mkA (Kd.R_below (Kd.R_y HO_5.out) hb)
   have n1_ := mkA (Kd.R_below (Kd.R_y HO_7.out) hb)
   have n2_ := mkA (blk_below (blk_y BK261.out) hb)
   have n3_ := mkA (below_step (below_y HB.out) hb)
   clear HO_5 HO_7 BK261 HB
   have HO_5 := n0_
   have HO_7 := n1_
   have BK261 := n2_
   have HB := n3_
   clear n0_ n1_ n2_ n3_
   (try clear hb)
   (try clear hb2)
   (try clear hk)
   (try clear hi)
   refine hK.out _ _ ⟨HS0_, HS1_, HS2_, HS3_, HS4_, HS5_, HS6_, HS7_, HS8_, HS9_, HS10_, HS11_, HS12_, HS13_, HS14_, HS15_, HS16_, HS17_, HS18_, HS19_⟩ (fun hHeld => ?_)
   clear hK K
   refine norm_ (a' := ?_) ?_ ?_
   rotate_left
   ·show Act.put _ (some 34) _ = _
    simp only [Act.put, sA, s0, sS, i64_w, i32_w]
    rfl
   refine pu 6 35 HT_ ?_
   refine pn 7 36 HT_ ?_
   refine pn 8 37 HT_ ?_
   refine pn 9 38 HT_ ?_
   refine pn 10 39 HT_ ?_
   refine pn 11 40 HT_ ?_
   refine pn 12 41 HT_ ?_
   refine pn 13 42 HT_ ?_
   refine pn 14 43 HT_ ?_
   refine pn 15 44 HT_ ?_
   refine pn 16 45 HT_ ?_
   refine pn 17 46 HT_ ?_
   refine pn 18 47 HT_ ?_
   refine pn 19 48 HT_ ?_
   refine pu 20 49 HT_ ?_
   refine done_ (done_of HT_.out (by kernel_rfl)) ?_
   try go_wp2_with (first | ((with_reducible refine gate_load (t := 25) rfl ?_); refine load_row3 (t := 25) (g := gb261) ?hg BK261.out ?ho ?hb Try.underlying25 rfl ?hs ?_; (case hg => rfl); (case ho => refine ⟨_, rfl, ?_⟩; first | (with_reducible rfl) | (go_simp; done)); (case hb => (with_reducible repeat (first | refine blk_drewN ?_ _ | refine blk_drew ?_ | refine blk_alloc ?_ _)); with_reducible exact BK261.out); (case hs => kernel_rfl)))
   go_roundg k2
   case measure => have := HK1.out; have := HK2.out; omega
   case rel => exact ⟨(x8_2), (wrap64 (x9_2 + 1)), (by first | rfl | (simp; done) | (simp [*]; done)), (by first | rfl | (simp; done) | (simp [*]; done)), H', ⟨by have := HK1.out; have := HK2.out; omega⟩, ⟨by (with_reducible repeat (first | apply Kd.R_alloc | apply Kd.R_drewN | apply Kd.R_drew)); exact HO_5.out⟩, ⟨by (with_reducible repeat (first | apply Kd.R_alloc | apply Kd.R_drewN | apply Kd.R_drew)); exact HO_7.out⟩, ⟨by (with_reducible repeat (first | refine blk_drewN ?_ _ | refine blk_drew ?_ | refine blk_alloc ?_ _)); exact BK261.out⟩, ⟨by repeat (first | (with_reducible first | exact HB.out | apply below_alloc | apply pw_below_drewN | apply below_drew1 | refine below_set ?_ GE261.out) | exact HB.out)⟩⟩
 subst c19
 have H1 : (if x8_2 < 0 then (newsreelref41_Over.l1 k2 a1 x5_1 ji4 x7_1 x9_2 (wrap64 (x9_2 + 1))) else (if 0 ≤ x8_2 then (if x8_2 < (x5_1.length : Int) then ((newsreelref41_older.f ((rd_T29 x5_1 x9_2).f0) ((rd_T29 x5_1 x9_2).f1) ((rd_T29 x5_1 x9_2).f2) ((rd_T29 x5_1 x9_2).f3) ((rd_T29 x5_1 x9_2).f4) ((rd_T29 x5_1 x9_2).f5) ((rd_T29 x5_1 x9_2).f6) ((rd_T29 x5_1 x9_2).f7) ((rd_T29 x5_1 x9_2).f8) ((rd_T29 x5_1 x9_2).f9) ((rd_T29 x5_1 x9_2).f10) ((rd_T29 x5_1 x9_2).f11) ((rd_T29 x5_1 x9_2).f12) ((rd_T29 x5_1 x9_2).f13) ((rd_T29 x5_1 x9_2).f14) ((rd_T29 x5_1 x9_2).f15) ((rd_T29 x5_1 x9_2).f16) ((rd_T29 x5_1 x9_2).f17) ((rd_T29 x5_1 x9_2).f18) ((rd_T29 x5_1 x9_2).f19) ((rd_T29 x5_1 x8_2).f0) ((rd_T29 x5_1 x8_2).f1) ((rd_T29 x5_1 x8_2).f2) ((rd_T29 x5_1 x8_2).f3) ((rd_T29 x5_1 x8_2).f4) ((rd_T29 x5_1 x8_2).f5) ((rd_T29 x5_1 x8_2).f6) ((rd_T29 x5_1 x8_2).f7) ((rd_T29 x5_1 x8_2).f8) ((rd_T29 x5_1 x8_2).f9) ((rd_T29 x5_1 x8_2).f10) ((rd_T29 x5_1 x8_2).f11) ((rd_T29 x5_1 x8_2).f12) ((rd_T29 x5_1 x8_2).f13) ((rd_T29 x5_1 x8_2).f14) ((rd_T29 x5_1 x8_2).f15) ((rd_T29 x5_1 x8_2).f16) ((rd_T29 x5_1 x8_2).f17) ((rd_T29 x5_1 x8_2).f18) ((rd_T29 x5_1 x8_2).f19)).bind fun t281 => (if t281 = true then (newsreelref41_Over.l1 k2 a1 x5_1 ji4 x7_1 x9_2 (wrap64 (x9_2 + 1))) else (newsreelref41_Over.l1 k2 a1 x5_1 ji4 x7_1 x8_2 (wrap64 (x9_2 + 1))))) else (none)) else (none))) = some r := by rw [if_pos rfl] at H; exact H
 clear H
 have H := H1
 clear H1
 by_cases c20 : x8_2 < 0
 ·rw [if_pos c20] at H
  have c20b0 : decide (x8_2 < 0) = true := decide_eq_true c20
  clear c20
  as_aux_lemma =>
   have H' := mkA H
   clear H
   try go_wp2_with (first | ((with_reducible refine gate_load (t := 25) rfl ?_); refine load_row3 (t := 25) (g := gb261) ?hg BK261.out ?ho ?hb Try.underlying25 rfl ?hs ?_; (case hg => rfl); (case ho => refine ⟨_, rfl, ?_⟩; first | (with_reducible rfl) | (go_simp; done)); (case hb => (with_reducible repeat (first | refine blk_drewN ?_ _ | refine blk_drew ?_ | refine blk_alloc ?_ _)); with_reducible exact BK261.out); (case hs => kernel_rfl)))
   have n0_ := mkA (Kd.R_drew HO_5.out)
   have n1_ := mkA (Kd.R_drew HO_7.out)
   have n2_ := mkA (blk_drew BK261.out)
   try (have HBd_ := mkA (below_drew1 (pw_below_drewN HB.out nd)))
   have n3_ := mkA (below_drew1 HB.out)
   clear HO_5 HO_7 BK261 HB
   have HO_5 := n0_
   have HO_7 := n1_
   have BK261 := n2_
   have HB := n3_
   clear n0_ n1_ n2_ n3_
   have p277 : 0 ≤ (x9_2 : Int) := odt
   have q277 : x9_2 < (x5_1.length : Int) := odt
   obtain ⟨ad277, e277, hx277_0, hx277_1, hx277_2, hx277_3, hx277_4, hx277_5, hx277_6, hx277_7, hx277_8, hx277_9, hx277_10, hx277_11, hx277_12, hx277_13, hx277_14, hx277_15, hx277_16, hx277_17, hx277_18, hx277_19⟩ := at_T29 (Kd.R_reads' HO_5.out).2.2 x9_2 p277 q277
   cases e277
   replace p277 := eq_true p277
   replace q277 := eq_true q277
   refine start_ (n := 21) (S := fun w' => ce29 w' (ad277.add ((x9_2).toNat * 20)) (rd_T29 x5_1 x9_2)) (ds := []) #[false, false, false, false, false, false, false, false, false, false, false, false, false, false, false, false, false, false, false, false, false] (by kernel_rfl) rfl rfl ⟨hx277_0, hx277_1, hx277_2, hx277_3, hx277_4, hx277_5, hx277_6, hx277_7, hx277_8, hx277_9, hx277_10, hx277_11, hx277_12, hx277_13, hx277_14, hx277_15, hx277_16, hx277_17, hx277_18, hx277_19⟩ (fun hHeld => ?_); refine with_tabW newsreelref41_Over.tab9 newsreelref41_Over.bits9 (fun HT_ HW_ => ?_)
   generalize wr.drew = w21 at HO_5 HO_7 BK261 HB hx277_0 hx277_1 hx277_10 hx277_11 hx277_12 hx277_13 hx277_14 hx277_15 hx277_16 hx277_17 hx277_18 hx277_19 hx277_2 hx277_3 hx277_4 hx277_5 hx277_6 hx277_7 hx277_8 hx277_9 hHeld ⊢
   refine pu 0 29 HT_ ?_
   refine pu 1 30 HT_ ?_
   refine pu 2 31 HT_ ?_
   refine pu 4 33 HT_ ?_
   refine take_ (i := 3) (N := some 32) (v := ?_) (a' := ?_) #[true, true, true, true, true, false, false, false, false, false, false, false, false, false, false, false, false, false, false, false, false] rfl rfl (take_ofW HT_.out HW_.out (by kernel_rfl)) (fun _ _ _ h => h) (Or.inl ⟨by rfl, ?_⟩) hHeld ?_ ?_
   rotate_left
   ·rintro w' ⟨s0, s1, s2, s3, s4, s5, s6, s7, s8, s9, s10, s11, s12, s13, s14, s15, s16, s17, s18, s19⟩
    first | (have hz_ := fun (a : Act) (o : Oper) (x : Operand) (ho : o.op = .load 29 x) (hx : a.eval x = _) => exec_load_at (P := Try.prog) (W := w') (cs := [_, _, _, _, _, _, _, _, _, _, _, _, _, _, _, _, _, _, _]) ho hx Try.underlying29 rfl (by kernel_rfl) s0 ⟨s1, s2, s3, s4, s5, s6, s7, s8, s9, s10, s11, s12, s13, s14, s15, s16, s17, s18, s19, trivial⟩; refine (hz_ _ _ (.tmp 31) ?_ ?_).trans ?_; (focus rfl); (focus (first | (with_reducible rfl) | (go_simp; done))); with_reducible rfl) | (go_simp; with_reducible rfl)
   rotate_left
   ·simp only [Act.put, sA, s0, sS, i64_w, i32_w]
    rfl
   refine one_ (i := 5) (N := some 34) #[true, true, true, true, true, true, false, false, false, false, false, false, false, false, false, false, false, false, false, false, false] rfl rfl (one_of HT_.out (by kernel_rfl)) (by decide) (fun K hK => ?_)
   refine goes_ Try.func16 (by kernel_rfl) rfl #[.agg #[.int .i64 ((rd_T29 x5_1 x9_2).f0), .int .i64 ((rd_T29 x5_1 x9_2).f1), .string ((rd_T29 x5_1 x9_2).f2), .string ((rd_T29 x5_1 x9_2).f3), .string ((rd_T29 x5_1 x9_2).f4), .int .i64 ((rd_T29 x5_1 x9_2).f5), .int .i64 ((rd_T29 x5_1 x9_2).f6), .int .i64 ((rd_T29 x5_1 x9_2).f7), .int .i64 ((rd_T29 x5_1 x9_2).f8), .bool ((rd_T29 x5_1 x9_2).f9), .int .i64 ((rd_T29 x5_1 x9_2).f10), .int .i64 ((rd_T29 x5_1 x9_2).f11), .int .i64 ((rd_T29 x5_1 x9_2).f12), .string ((rd_T29 x5_1 x9_2).f13), .int .i64 ((rd_T29 x5_1 x9_2).f14), .int .i64 ((rd_T29 x5_1 x9_2).f15), .string ((rd_T29 x5_1 x9_2).f16), .int .i64 ((rd_T29 x5_1 x9_2).f17), .int .i64 ((rd_T29 x5_1 x9_2).f18), .string ((rd_T29 x5_1 x9_2).f19)], .int .i64 a1] (by rfl) rfl rfl ca ?_
   with_reducible refine (newsreelref41_May.calls _ _ _ _ _ _ _ _ _ _ _ _ _ _ _ _ _ _ _ _ _ true _ A18.out).mono ?_
   rintro e w22 ⟨rfl, hb⟩
   have hbk_w22 := mkA hb
   have HS0_ := hs_ hb hHeld.1
   have HS1_ := hs_ hb hHeld.2.1
   have HS2_ := hs_ hb hHeld.2.2.1
   have HS3_ := hs_ hb hHeld.2.2.2.1
   have HS4_ := hs_ hb hHeld.2.2.2.2.1
   have HS5_ := hs_ hb hHeld.2.2.2.2.2.1
   have HS6_ := hs_ hb hHeld.2.2.2.2.2.2.1
   have HS7_ := hs_ hb hHeld.2.2.2.2.2.2.2.1
   have HS8_ := hs_ hb hHeld.2.2.2.2.2.2.2.2.1
   have HS9_ := hs_ hb hHeld.2.2.2.2.2.2.2.2.2.1
   have HS10_ := hs_ hb hHeld.2.2.2.2.2.2.2.2.2.2.1
   have HS11_ := hs_ hb hHeld.2.2.2.2.2.2.2.2.2.2.2.1
   have HS12_ := hs_ hb hHeld.2.2.2.2.2.2.2.2.2.2.2.2.1
   have HS13_ := hs_ hb hHeld.2.2.2.2.2.2.2.2.2.2.2.2.2.1
   have HS14_ := hs_ hb hHeld.2.2.2.2.2.2.2.2.2.2.2.2.2.2.1
   have HS15_ := hs_ hb hHeld.2.2.2.2.2.2.2.2.2.2.2.2.2.2.2.1
   have HS16_ := hs_ hb hHeld.2.2.2.2.2.2.2.2.2.2.2.2.2.2.2.2.1
   have HS17_ := hs_ hb hHeld.2.2.2.2.2.2.2.2.2.2.2.2.2.2.2.2.2.1
   have HS18_ := hs_ hb hHeld.2.2.2.2.2.2.2.2.2.2.2.2.2.2.2.2.2.2.1
   have HS19_ := hs_ hb hHeld.2.2.2.2.2.2.2.2.2.2.2.2.2.2.2.2.2.2.2
   refine ⟨_, rfl, ?_⟩
   have n0_ := mkA (Kd.R_below (Kd.R_y HO_5.out) hb)
   have n1_ := mkA (Kd.R_below (Kd.R_y HO_7.out) hb)
   have n2_ := mkA (blk_below (blk_y BK261.out) hb)
   have n3_ := mkA (below_step (below_y HB.out) hb)
   clear HO_5 HO_7 BK261 HB
   have HO_5 := n0_
   have HO_7 := n1_
   have BK261 := n2_
   have HB := n3_
   clear n0_ n1_ n2_ n3_
   (try clear hb)
   (try clear hb2)
   (try clear hk)
   (try clear hi)
   refine hK.out _ _ ⟨HS0_, HS1_, HS2_, HS3_, HS4_, HS5_, HS6_, HS7_, HS8_, HS9_, HS10_, HS11_, HS12_, HS13_, HS14_, HS15_, HS16_, HS17_, HS18_, HS19_⟩ (fun hHeld => ?_)
   clear hK K
   refine norm_ (a' := ?_) ?_ ?_
   rotate_left
   ·show Act.put _ (some 34) _ = _
    simp only [Act.put, sA, s0, sS, i64_w, i32_w]
    rfl
   refine pu 6 35 HT_ ?_
   refine pu 7 36 HT_ ?_
   refine pu 8 37 HT_ ?_
   refine pu 9 38 HT_ ?_
   refine pn 10 39 HT_ ?_
   refine pn 11 40 HT_ ?_
   refine pn 12 41 HT_ ?_
   refine pn 13 42 HT_ ?_
   refine pn 14 43 HT_ ?_
   refine pn 15 44 HT_ ?_
   refine pn 16 45 HT_ ?_
   refine pn 17 46 HT_ ?_
   refine pn 18 47 HT_ ?_
   refine pu 19 48 HT_ ?_
   refine pu 20 49 HT_ ?_
   refine done_ (done_of HT_.out (by kernel_rfl)) ?_
   try go_wp2_with (first | ((with_reducible refine gate_load (t := 25) rfl ?_); refine load_row3 (t := 25) (g := gb261) ?hg BK261.out ?ho ?hb Try.underlying25 rfl ?hs ?_; (case hg => rfl); (case ho => refine ⟨_, rfl, ?_⟩; first | (with_reducible rfl) | (go_simp; done)); (case hb => (with_reducible repeat (first | refine blk_drewN ?_ _ | refine blk_drew ?_ | refine blk_alloc ?_ _)); with_reducible exact BK261.out); (case hs => kernel_rfl)))
   go_roundg k2
   case measure => have := HK1.out; have := HK2.out; omega
   case rel => exact ⟨(x9_2), (wrap64 (x9_2 + 1)), (by first | rfl | (simp; done) | (simp [*]; done)), (by first | rfl | (simp; done) | (simp [*]; done)), H', ⟨by have := HK1.out; have := HK2.out; omega⟩, ⟨by (with_reducible repeat (first | apply Kd.R_alloc | apply Kd.R_drewN | apply Kd.R_drew)); exact HO_5.out⟩, ⟨by (with_reducible repeat (first | apply Kd.R_alloc | apply Kd.R_drewN | apply Kd.R_drew)); exact HO_7.out⟩, ⟨by (with_reducible repeat (first | refine blk_drewN ?_ _ | refine blk_drew ?_ | refine blk_alloc ?_ _)); exact BK261.out⟩, ⟨by repeat (first | (with_reducible first | exact HB.out | apply below_alloc | apply pw_below_drewN | apply below_drew1 | refine below_set ?_ GE261.out) | exact HB.out)⟩⟩
 rw [if_neg c20] at H
 have c20b0 : decide (x8_2 < 0) = false := decide_eq_false c20
 clear c20
 by_cases c23 : 0 ≤ x8_2
 rotate_left
 ·rw [if_neg c23] at H
  exact absurd H (by simp)
 rw [if_pos c23] at H
 have c23b0 : decide (0 ≤ x8_2) = true := decide_eq_true c23
 clear c23
 by_cases c24 : x8_2 < (x5_1.length : Int)
 rotate_left
 ·rw [if_neg c24] at H
  exact absurd H (by simp)
 rw [if_pos c24] at H
 have c24b0 : decide (x8_2 < (x5_1.length : Int)) = true := decide_eq_true c24
 clear c24
 replace H := Option.bind_eq_some_iff.mp H
 obtain ⟨t281, A250, H⟩ := H
 replace H : (if t281 = true then (newsreelref41_Over.l1 k2 a1 x5_1 ji4 x7_1 x9_2 (wrap64 (x9_2 + 1))) else (newsreelref41_Over.l1 k2 a1 x5_1 ji4 x7_1 x8_2 (wrap64 (x9_2 + 1)))) = some r := H
 have A25 := mkA A250
 clear A250
 by_cases c26 : t281 = true
 ·subst c26
  have H1 : (newsreelref41_Over.l1 k2 a1 x5_1 ji4 x7_1 x9_2 (wrap64 (x9_2 + 1))) = some r := by rw [if_pos rfl] at H; exact H
  clear H
  have H := H1
  clear H1
  as_aux_lemma =>
   have H' := mkA H
   clear H
   try go_wp2_with (first | ((with_reducible refine gate_load (t := 25) rfl ?_); refine load_row3 (t := 25) (g := gb261) ?hg BK261.out ?ho ?hb Try.underlying25 rfl ?hs ?_; (case hg => rfl); (case ho => refine ⟨_, rfl, ?_⟩; first | (with_reducible rfl) | (go_simp; done)); (case hb => (with_reducible repeat (first | refine blk_drewN ?_ _ | refine blk_drew ?_ | refine blk_alloc ?_ _)); with_reducible exact BK261.out); (case hs => kernel_rfl)))
   have n0_ := mkA (Kd.R_drew HO_5.out)
   have n1_ := mkA (Kd.R_drew HO_7.out)
   have n2_ := mkA (blk_drew BK261.out)
   try (have HBd_ := mkA (below_drew1 (pw_below_drewN HB.out nd)))
   have n3_ := mkA (below_drew1 HB.out)
   clear HO_5 HO_7 BK261 HB
   have HO_5 := n0_
   have HO_7 := n1_
   have BK261 := n2_
   have HB := n3_
   clear n0_ n1_ n2_ n3_
   have p277 : 0 ≤ (x9_2 : Int) := odt
   have q277 : x9_2 < (x5_1.length : Int) := odt
   obtain ⟨ad277, e277, hx277_0, hx277_1, hx277_2, hx277_3, hx277_4, hx277_5, hx277_6, hx277_7, hx277_8, hx277_9, hx277_10, hx277_11, hx277_12, hx277_13, hx277_14, hx277_15, hx277_16, hx277_17, hx277_18, hx277_19⟩ := at_T29 (Kd.R_reads' HO_5.out).2.2 x9_2 p277 q277
   cases e277
   replace p277 := eq_true p277
   replace q277 := eq_true q277
   have p279 : 0 ≤ (x9_2 : Int) := odt
   have q279 : x9_2 < (x5_1.length : Int) := odt
   obtain ⟨ad279, e279, hx279_0, hx279_1, hx279_2, hx279_3, hx279_4, hx279_5, hx279_6, hx279_7, hx279_8, hx279_9, hx279_10, hx279_11, hx279_12, hx279_13, hx279_14, hx279_15, hx279_16, hx279_17, hx279_18, hx279_19⟩ := at_T29 (Kd.R_reads' HO_5.out).2.2 x9_2 p279 q279
   obtain rfl : ad277 = ad279 := (by injection e279)
   replace p279 := eq_true p279
   replace q279 := eq_true q279
   have p280 : 0 ≤ (x8_2 : Int) := odt
   have q280 : x8_2 < (x5_1.length : Int) := odt
   obtain ⟨ad280, e280, hx280_0, hx280_1, hx280_2, hx280_3, hx280_4, hx280_5, hx280_6, hx280_7, hx280_8, hx280_9, hx280_10, hx280_11, hx280_12, hx280_13, hx280_14, hx280_15, hx280_16, hx280_17, hx280_18, hx280_19⟩ := at_T29 (Kd.R_reads' HO_5.out).2.2 x8_2 p280 q280
   obtain rfl : ad277 = ad280 := (by injection e280)
   replace p280 := eq_true p280
   replace q280 := eq_true q280
   refine start_ (n := 21) (S := fun w' => cj29 w' (ad277.add ((x9_2).toNat * 20)) (rd_T29 x5_1 x9_2) <| cj29 w' (ad277.add ((x9_2).toNat * 20)) (rd_T29 x5_1 x9_2) <| ce29 w' (ad277.add ((x8_2).toNat * 20)) (rd_T29 x5_1 x8_2)) (ds := []) #[false, false, false, false, false, false, false, false, false, false, false, false, false, false, false, false, false, false, false, false, false] (by kernel_rfl) rfl rfl ⟨hx277_0, hx277_1, hx277_2, hx277_3, hx277_4, hx277_5, hx277_6, hx277_7, hx277_8, hx277_9, hx277_10, hx277_11, hx277_12, hx277_13, hx277_14, hx277_15, hx277_16, hx277_17, hx277_18, hx277_19, hx279_0, hx279_1, hx279_2, hx279_3, hx279_4, hx279_5, hx279_6, hx279_7, hx279_8, hx279_9, hx279_10, hx279_11, hx279_12, hx279_13, hx279_14, hx279_15, hx279_16, hx279_17, hx279_18, hx279_19, hx280_0, hx280_1, hx280_2, hx280_3, hx280_4, hx280_5, hx280_6, hx280_7, hx280_8, hx280_9, hx280_10, hx280_11, hx280_12, hx280_13, hx280_14, hx280_15, hx280_16, hx280_17, hx280_18, hx280_19⟩ (fun hHeld => ?_); refine with_tabW newsreelref41_Over.tab9 newsreelref41_Over.bits9 (fun HT_ HW_ => ?_)
   generalize wr.drew = w27 at HO_5 HO_7 BK261 HB hx277_0 hx277_1 hx277_10 hx277_11 hx277_12 hx277_13 hx277_14 hx277_15 hx277_16 hx277_17 hx277_18 hx277_19 hx277_2 hx277_3 hx277_4 hx277_5 hx277_6 hx277_7 hx277_8 hx277_9 hx279_0 hx279_1 hx279_10 hx279_11 hx279_12 hx279_13 hx279_14 hx279_15 hx279_16 hx279_17 hx279_18 hx279_19 hx279_2 hx279_3 hx279_4 hx279_5 hx279_6 hx279_7 hx279_8 hx279_9 hx280_0 hx280_1 hx280_10 hx280_11 hx280_12 hx280_13 hx280_14 hx280_15 hx280_16 hx280_17 hx280_18 hx280_19 hx280_2 hx280_3 hx280_4 hx280_5 hx280_6 hx280_7 hx280_8 hx280_9 hHeld ⊢
   refine pu 0 29 HT_ ?_
   refine pu 1 30 HT_ ?_
   refine pu 2 31 HT_ ?_
   refine pu 4 33 HT_ ?_
   refine take_ (i := 3) (N := some 32) (v := ?_) (a' := ?_) #[true, true, true, true, true, false, false, false, false, false, false, false, false, false, false, false, false, false, false, false, false] rfl rfl (take_ofW HT_.out HW_.out (by kernel_rfl)) (fun _ _ _ h => h) (Or.inl ⟨by rfl, ?_⟩) hHeld ?_ ?_
   rotate_left
   ·rintro w' ⟨s0, s1, s2, s3, s4, s5, s6, s7, s8, s9, s10, s11, s12, s13, s14, s15, s16, s17, s18, s19, s20, s21, s22, s23, s24, s25, s26, s27, s28, s29, s30, s31, s32, s33, s34, s35, s36, s37, s38, s39, s40, s41, s42, s43, s44, s45, s46, s47, s48, s49, s50, s51, s52, s53, s54, s55, s56, s57, s58, s59⟩
    first | (have hz_ := fun (a : Act) (o : Oper) (x : Operand) (ho : o.op = .load 29 x) (hx : a.eval x = _) => exec_load_at (P := Try.prog) (W := w') (cs := [_, _, _, _, _, _, _, _, _, _, _, _, _, _, _, _, _, _, _]) ho hx Try.underlying29 rfl (by kernel_rfl) s0 ⟨s1, s2, s3, s4, s5, s6, s7, s8, s9, s10, s11, s12, s13, s14, s15, s16, s17, s18, s19, trivial⟩; refine (hz_ _ _ (.tmp 31) ?_ ?_).trans ?_; (focus rfl); (focus (first | (with_reducible rfl) | (go_simp; done))); with_reducible rfl) | (have hz_ := fun (a : Act) (o : Oper) (x : Operand) (ho : o.op = .load 29 x) (hx : a.eval x = _) => exec_load_at (P := Try.prog) (W := w') (cs := [_, _, _, _, _, _, _, _, _, _, _, _, _, _, _, _, _, _, _]) ho hx Try.underlying29 rfl (by kernel_rfl) s20 ⟨s21, s22, s23, s24, s25, s26, s27, s28, s29, s30, s31, s32, s33, s34, s35, s36, s37, s38, s39, trivial⟩; refine (hz_ _ _ (.tmp 31) ?_ ?_).trans ?_; (focus rfl); (focus (first | (with_reducible rfl) | (go_simp; done))); with_reducible rfl) | (have hz_ := fun (a : Act) (o : Oper) (x : Operand) (ho : o.op = .load 29 x) (hx : a.eval x = _) => exec_load_at (P := Try.prog) (W := w') (cs := [_, _, _, _, _, _, _, _, _, _, _, _, _, _, _, _, _, _, _]) ho hx Try.underlying29 rfl (by kernel_rfl) s40 ⟨s41, s42, s43, s44, s45, s46, s47, s48, s49, s50, s51, s52, s53, s54, s55, s56, s57, s58, s59, trivial⟩; refine (hz_ _ _ (.tmp 31) ?_ ?_).trans ?_; (focus rfl); (focus (first | (with_reducible rfl) | (go_simp; done))); with_reducible rfl) | (go_simp; with_reducible rfl)
   rotate_left
   ·simp only [Act.put, sA, s0, sS, i64_w, i32_w]
    rfl
   refine one_ (i := 5) (N := some 34) #[true, true, true, true, true, true, false, false, false, false, false, false, false, false, false, false, false, false, false, false, false] rfl rfl (one_of HT_.out (by kernel_rfl)) (by decide) (fun K hK => ?_)
   refine goes_ Try.func16 (by kernel_rfl) rfl #[.agg #[.int .i64 ((rd_T29 x5_1 x9_2).f0), .int .i64 ((rd_T29 x5_1 x9_2).f1), .string ((rd_T29 x5_1 x9_2).f2), .string ((rd_T29 x5_1 x9_2).f3), .string ((rd_T29 x5_1 x9_2).f4), .int .i64 ((rd_T29 x5_1 x9_2).f5), .int .i64 ((rd_T29 x5_1 x9_2).f6), .int .i64 ((rd_T29 x5_1 x9_2).f7), .int .i64 ((rd_T29 x5_1 x9_2).f8), .bool ((rd_T29 x5_1 x9_2).f9), .int .i64 ((rd_T29 x5_1 x9_2).f10), .int .i64 ((rd_T29 x5_1 x9_2).f11), .int .i64 ((rd_T29 x5_1 x9_2).f12), .string ((rd_T29 x5_1 x9_2).f13), .int .i64 ((rd_T29 x5_1 x9_2).f14), .int .i64 ((rd_T29 x5_1 x9_2).f15), .string ((rd_T29 x5_1 x9_2).f16), .int .i64 ((rd_T29 x5_1 x9_2).f17), .int .i64 ((rd_T29 x5_1 x9_2).f18), .string ((rd_T29 x5_1 x9_2).f19)], .int .i64 a1] (by rfl) rfl rfl ca ?_
   with_reducible refine (newsreelref41_May.calls _ _ _ _ _ _ _ _ _ _ _ _ _ _ _ _ _ _ _ _ _ true _ A18.out).mono ?_
   rintro e w28 ⟨rfl, hb⟩
   have hbk_w28 := mkA hb
   have HS0_ := hs_ hb hHeld.1
   have HS1_ := hs_ hb hHeld.2.1
   have HS2_ := hs_ hb hHeld.2.2.1
   have HS3_ := hs_ hb hHeld.2.2.2.1
   have HS4_ := hs_ hb hHeld.2.2.2.2.1
   have HS5_ := hs_ hb hHeld.2.2.2.2.2.1
   have HS6_ := hs_ hb hHeld.2.2.2.2.2.2.1
   have HS7_ := hs_ hb hHeld.2.2.2.2.2.2.2.1
   have HS8_ := hs_ hb hHeld.2.2.2.2.2.2.2.2.1
   have HS9_ := hs_ hb hHeld.2.2.2.2.2.2.2.2.2.1
   have HS10_ := hs_ hb hHeld.2.2.2.2.2.2.2.2.2.2.1
   have HS11_ := hs_ hb hHeld.2.2.2.2.2.2.2.2.2.2.2.1
   have HS12_ := hs_ hb hHeld.2.2.2.2.2.2.2.2.2.2.2.2.1
   have HS13_ := hs_ hb hHeld.2.2.2.2.2.2.2.2.2.2.2.2.2.1
   have HS14_ := hs_ hb hHeld.2.2.2.2.2.2.2.2.2.2.2.2.2.2.1
   have HS15_ := hs_ hb hHeld.2.2.2.2.2.2.2.2.2.2.2.2.2.2.2.1
   have HS16_ := hs_ hb hHeld.2.2.2.2.2.2.2.2.2.2.2.2.2.2.2.2.1
   have HS17_ := hs_ hb hHeld.2.2.2.2.2.2.2.2.2.2.2.2.2.2.2.2.2.1
   have HS18_ := hs_ hb hHeld.2.2.2.2.2.2.2.2.2.2.2.2.2.2.2.2.2.2.1
   have HS19_ := hs_ hb hHeld.2.2.2.2.2.2.2.2.2.2.2.2.2.2.2.2.2.2.2.1
   have HS20_ := hs_ hb hHeld.2.2.2.2.2.2.2.2.2.2.2.2.2.2.2.2.2.2.2.2.1
   have HS21_ := hs_ hb hHeld.2.2.2.2.2.2.2.2.2.2.2.2.2.2.2.2.2.2.2.2.2.1
   have HS22_ := hs_ hb hHeld.2.2.2.2.2.2.2.2.2.2.2.2.2.2.2.2.2.2.2.2.2.2.1
   have HS23_ := hs_ hb hHeld.2.2.2.2.2.2.2.2.2.2.2.2.2.2.2.2.2.2.2.2.2.2.2.1
   have HS24_ := hs_ hb hHeld.2.2.2.2.2.2.2.2.2.2.2.2.2.2.2.2.2.2.2.2.2.2.2.2.1
   have HS25_ := hs_ hb hHeld.2.2.2.2.2.2.2.2.2.2.2.2.2.2.2.2.2.2.2.2.2.2.2.2.2.1
   have HS26_ := hs_ hb hHeld.2.2.2.2.2.2.2.2.2.2.2.2.2.2.2.2.2.2.2.2.2.2.2.2.2.2.1
   have HS27_ := hs_ hb hHeld.2.2.2.2.2.2.2.2.2.2.2.2.2.2.2.2.2.2.2.2.2.2.2.2.2.2.2.1
   have HS28_ := hs_ hb hHeld.2.2.2.2.2.2.2.2.2.2.2.2.2.2.2.2.2.2.2.2.2.2.2.2.2.2.2.2.1
   have HS29_ := hs_ hb hHeld.2.2.2.2.2.2.2.2.2.2.2.2.2.2.2.2.2.2.2.2.2.2.2.2.2.2.2.2.2.1
   have HS30_ := hs_ hb hHeld.2.2.2.2.2.2.2.2.2.2.2.2.2.2.2.2.2.2.2.2.2.2.2.2.2.2.2.2.2.2.1
   have HS31_ := hs_ hb hHeld.2.2.2.2.2.2.2.2.2.2.2.2.2.2.2.2.2.2.2.2.2.2.2.2.2.2.2.2.2.2.2.1
   have HS32_ := hs_ hb hHeld.2.2.2.2.2.2.2.2.2.2.2.2.2.2.2.2.2.2.2.2.2.2.2.2.2.2.2.2.2.2.2.2.1
   have HS33_ := hs_ hb hHeld.2.2.2.2.2.2.2.2.2.2.2.2.2.2.2.2.2.2.2.2.2.2.2.2.2.2.2.2.2.2.2.2.2.1
   have HS34_ := hs_ hb hHeld.2.2.2.2.2.2.2.2.2.2.2.2.2.2.2.2.2.2.2.2.2.2.2.2.2.2.2.2.2.2.2.2.2.2.1
   have HS35_ := hs_ hb hHeld.2.2.2.2.2.2.2.2.2.2.2.2.2.2.2.2.2.2.2.2.2.2.2.2.2.2.2.2.2.2.2.2.2.2.2.1
   have HS36_ := hs_ hb hHeld.2.2.2.2.2.2.2.2.2.2.2.2.2.2.2.2.2.2.2.2.2.2.2.2.2.2.2.2.2.2.2.2.2.2.2.2.1
   have HS37_ := hs_ hb hHeld.2.2.2.2.2.2.2.2.2.2.2.2.2.2.2.2.2.2.2.2.2.2.2.2.2.2.2.2.2.2.2.2.2.2.2.2.2.1
   have HS38_ := hs_ hb hHeld.2.2.2.2.2.2.2.2.2.2.2.2.2.2.2.2.2.2.2.2.2.2.2.2.2.2.2.2.2.2.2.2.2.2.2.2.2.2.1
   have HS39_ := hs_ hb hHeld.2.2.2.2.2.2.2.2.2.2.2.2.2.2.2.2.2.2.2.2.2.2.2.2.2.2.2.2.2.2.2.2.2.2.2.2.2.2.2.1
   have HS40_ := hs_ hb hHeld.2.2.2.2.2.2.2.2.2.2.2.2.2.2.2.2.2.2.2.2.2.2.2.2.2.2.2.2.2.2.2.2.2.2.2.2.2.2.2.2.1
   have HS41_ := hs_ hb hHeld.2.2.2.2.2.2.2.2.2.2.2.2.2.2.2.2.2.2.2.2.2.2.2.2.2.2.2.2.2.2.2.2.2.2.2.2.2.2.2.2.2.1
   have HS42_ := hs_ hb hHeld.2.2.2.2.2.2.2.2.2.2.2.2.2.2.2.2.2.2.2.2.2.2.2.2.2.2.2.2.2.2.2.2.2.2.2.2.2.2.2.2.2.2.1
   have HS43_ := hs_ hb hHeld.2.2.2.2.2.2.2.2.2.2.2.2.2.2.2.2.2.2.2.2.2.2.2.2.2.2.2.2.2.2.2.2.2.2.2.2.2.2.2.2.2.2.2.1
   have HS44_ := hs_ hb hHeld.2.2.2.2.2.2.2.2.2.2.2.2.2.2.2.2.2.2.2.2.2.2.2.2.2.2.2.2.2.2.2.2.2.2.2.2.2.2.2.2.2.2.2.2.1
   have HS45_ := hs_ hb hHeld.2.2.2.2.2.2.2.2.2.2.2.2.2.2.2.2.2.2.2.2.2.2.2.2.2.2.2.2.2.2.2.2.2.2.2.2.2.2.2.2.2.2.2.2.2.1
   have HS46_ := hs_ hb hHeld.2.2.2.2.2.2.2.2.2.2.2.2.2.2.2.2.2.2.2.2.2.2.2.2.2.2.2.2.2.2.2.2.2.2.2.2.2.2.2.2.2.2.2.2.2.2.1
   have HS47_ := hs_ hb hHeld.2.2.2.2.2.2.2.2.2.2.2.2.2.2.2.2.2.2.2.2.2.2.2.2.2.2.2.2.2.2.2.2.2.2.2.2.2.2.2.2.2.2.2.2.2.2.2.1
   have HS48_ := hs_ hb hHeld.2.2.2.2.2.2.2.2.2.2.2.2.2.2.2.2.2.2.2.2.2.2.2.2.2.2.2.2.2.2.2.2.2.2.2.2.2.2.2.2.2.2.2.2.2.2.2.2.1
   have HS49_ := hs_ hb hHeld.2.2.2.2.2.2.2.2.2.2.2.2.2.2.2.2.2.2.2.2.2.2.2.2.2.2.2.2.2.2.2.2.2.2.2.2.2.2.2.2.2.2.2.2.2.2.2.2.2.1
   have HS50_ := hs_ hb hHeld.2.2.2.2.2.2.2.2.2.2.2.2.2.2.2.2.2.2.2.2.2.2.2.2.2.2.2.2.2.2.2.2.2.2.2.2.2.2.2.2.2.2.2.2.2.2.2.2.2.2.1
   have HS51_ := hs_ hb hHeld.2.2.2.2.2.2.2.2.2.2.2.2.2.2.2.2.2.2.2.2.2.2.2.2.2.2.2.2.2.2.2.2.2.2.2.2.2.2.2.2.2.2.2.2.2.2.2.2.2.2.2.1
   have HS52_ := hs_ hb hHeld.2.2.2.2.2.2.2.2.2.2.2.2.2.2.2.2.2.2.2.2.2.2.2.2.2.2.2.2.2.2.2.2.2.2.2.2.2.2.2.2.2.2.2.2.2.2.2.2.2.2.2.2.1
   have HS53_ := hs_ hb hHeld.2.2.2.2.2.2.2.2.2.2.2.2.2.2.2.2.2.2.2.2.2.2.2.2.2.2.2.2.2.2.2.2.2.2.2.2.2.2.2.2.2.2.2.2.2.2.2.2.2.2.2.2.2.1
   have HS54_ := hs_ hb hHeld.2.2.2.2.2.2.2.2.2.2.2.2.2.2.2.2.2.2.2.2.2.2.2.2.2.2.2.2.2.2.2.2.2.2.2.2.2.2.2.2.2.2.2.2.2.2.2.2.2.2.2.2.2.2.1
   have HS55_ := hs_ hb hHeld.2.2.2.2.2.2.2.2.2.2.2.2.2.2.2.2.2.2.2.2.2.2.2.2.2.2.2.2.2.2.2.2.2.2.2.2.2.2.2.2.2.2.2.2.2.2.2.2.2.2.2.2.2.2.2.1
   have HS56_ := hs_ hb hHeld.2.2.2.2.2.2.2.2.2.2.2.2.2.2.2.2.2.2.2.2.2.2.2.2.2.2.2.2.2.2.2.2.2.2.2.2.2.2.2.2.2.2.2.2.2.2.2.2.2.2.2.2.2.2.2.2.1
   have HS57_ := hs_ hb hHeld.2.2.2.2.2.2.2.2.2.2.2.2.2.2.2.2.2.2.2.2.2.2.2.2.2.2.2.2.2.2.2.2.2.2.2.2.2.2.2.2.2.2.2.2.2.2.2.2.2.2.2.2.2.2.2.2.2.1
   have HS58_ := hs_ hb hHeld.2.2.2.2.2.2.2.2.2.2.2.2.2.2.2.2.2.2.2.2.2.2.2.2.2.2.2.2.2.2.2.2.2.2.2.2.2.2.2.2.2.2.2.2.2.2.2.2.2.2.2.2.2.2.2.2.2.2.1
   have HS59_ := hs_ hb hHeld.2.2.2.2.2.2.2.2.2.2.2.2.2.2.2.2.2.2.2.2.2.2.2.2.2.2.2.2.2.2.2.2.2.2.2.2.2.2.2.2.2.2.2.2.2.2.2.2.2.2.2.2.2.2.2.2.2.2.2
   refine ⟨_, rfl, ?_⟩
   have n0_ := mkA (Kd.R_below (Kd.R_y HO_5.out) hb)
   have n1_ := mkA (Kd.R_below (Kd.R_y HO_7.out) hb)
   have n2_ := mkA (blk_below (blk_y BK261.out) hb)
   have n3_ := mkA (below_step (below_y HB.out) hb)
   clear HO_5 HO_7 BK261 HB
   have HO_5 := n0_
   have HO_7 := n1_
   have BK261 := n2_
   have HB := n3_
   clear n0_ n1_ n2_ n3_
   (try clear hb)
   (try clear hb2)
   (try clear hk)
   (try clear hi)
   refine hK.out _ _ ⟨HS0_, HS1_, HS2_, HS3_, HS4_, HS5_, HS6_, HS7_, HS8_, HS9_, HS10_, HS11_, HS12_, HS13_, HS14_, HS15_, HS16_, HS17_, HS18_, HS19_, HS20_, HS21_, HS22_, HS23_, HS24_, HS25_, HS26_, HS27_, HS28_, HS29_, HS30_, HS31_, HS32_, HS33_, HS34_, HS35_, HS36_, HS37_, HS38_, HS39_, HS40_, HS41_, HS42_, HS43_, HS44_, HS45_, HS46_, HS47_, HS48_, HS49_, HS50_, HS51_, HS52_, HS53_, HS54_, HS55_, HS56_, HS57_, HS58_, HS59_⟩ (fun hHeld => ?_)
   clear hK K
   refine norm_ (a' := ?_) ?_ ?_
   rotate_left
   ·show Act.put _ (some 34) _ = _
    simp only [Act.put, sA, s0, sS, i64_w, i32_w]
    rfl
   refine pu 6 35 HT_ ?_
   refine pu 7 36 HT_ ?_
   refine pu 8 37 HT_ ?_
   refine pu 9 38 HT_ ?_
   refine pu 10 39 HT_ ?_
   refine pu 11 40 HT_ ?_
   refine pu 12 41 HT_ ?_
   refine pu 14 43 HT_ ?_
   refine pu 15 44 HT_ ?_
   refine pu 16 45 HT_ ?_
   refine take_ (i := 13) (N := some 42) (v := ?_) (a' := ?_) #[true, true, true, true, true, true, true, true, true, true, true, true, true, true, true, true, true, false, false, false, false] rfl rfl (take_ofW HT_.out HW_.out (by kernel_rfl)) (fun _ _ _ h => h) (Or.inl ⟨by rfl, ?_⟩) hHeld ?_ ?_
   rotate_left
   ·rintro w' ⟨s0, s1, s2, s3, s4, s5, s6, s7, s8, s9, s10, s11, s12, s13, s14, s15, s16, s17, s18, s19, s20, s21, s22, s23, s24, s25, s26, s27, s28, s29, s30, s31, s32, s33, s34, s35, s36, s37, s38, s39, s40, s41, s42, s43, s44, s45, s46, s47, s48, s49, s50, s51, s52, s53, s54, s55, s56, s57, s58, s59⟩
    first | (have hz_ := fun (a : Act) (o : Oper) (x : Operand) (ho : o.op = .load 29 x) (hx : a.eval x = _) => exec_load_at (P := Try.prog) (W := w') (cs := [_, _, _, _, _, _, _, _, _, _, _, _, _, _, _, _, _, _, _]) ho hx Try.underlying29 rfl (by kernel_rfl) s0 ⟨s1, s2, s3, s4, s5, s6, s7, s8, s9, s10, s11, s12, s13, s14, s15, s16, s17, s18, s19, trivial⟩; refine (hz_ _ _ (.tmp 41) ?_ ?_).trans ?_; (focus rfl); (focus (first | (with_reducible rfl) | (go_simp; done))); with_reducible rfl) | (have hz_ := fun (a : Act) (o : Oper) (x : Operand) (ho : o.op = .load 29 x) (hx : a.eval x = _) => exec_load_at (P := Try.prog) (W := w') (cs := [_, _, _, _, _, _, _, _, _, _, _, _, _, _, _, _, _, _, _]) ho hx Try.underlying29 rfl (by kernel_rfl) s20 ⟨s21, s22, s23, s24, s25, s26, s27, s28, s29, s30, s31, s32, s33, s34, s35, s36, s37, s38, s39, trivial⟩; refine (hz_ _ _ (.tmp 41) ?_ ?_).trans ?_; (focus rfl); (focus (first | (with_reducible rfl) | (go_simp; done))); with_reducible rfl) | (have hz_ := fun (a : Act) (o : Oper) (x : Operand) (ho : o.op = .load 29 x) (hx : a.eval x = _) => exec_load_at (P := Try.prog) (W := w') (cs := [_, _, _, _, _, _, _, _, _, _, _, _, _, _, _, _, _, _, _]) ho hx Try.underlying29 rfl (by kernel_rfl) s40 ⟨s41, s42, s43, s44, s45, s46, s47, s48, s49, s50, s51, s52, s53, s54, s55, s56, s57, s58, s59, trivial⟩; refine (hz_ _ _ (.tmp 41) ?_ ?_).trans ?_; (focus rfl); (focus (first | (with_reducible rfl) | (go_simp; done))); with_reducible rfl) | (go_simp; with_reducible rfl)
   rotate_left
   ·simp only [Act.put, sA, s0, sS, i64_w, i32_w]
    rfl
   refine take_ (i := 17) (N := some 46) (v := ?_) (a' := ?_) #[true, true, true, true, true, true, true, true, true, true, true, true, true, true, true, true, true, true, false, false, false] rfl rfl (take_ofW HT_.out HW_.out (by kernel_rfl)) (fun _ _ _ h => h) (Or.inl ⟨by rfl, ?_⟩) hHeld ?_ ?_
   rotate_left
   ·rintro w' ⟨s0, s1, s2, s3, s4, s5, s6, s7, s8, s9, s10, s11, s12, s13, s14, s15, s16, s17, s18, s19, s20, s21, s22, s23, s24, s25, s26, s27, s28, s29, s30, s31, s32, s33, s34, s35, s36, s37, s38, s39, s40, s41, s42, s43, s44, s45, s46, s47, s48, s49, s50, s51, s52, s53, s54, s55, s56, s57, s58, s59⟩
    first | (have hz_ := fun (a : Act) (o : Oper) (x : Operand) (ho : o.op = .load 29 x) (hx : a.eval x = _) => exec_load_at (P := Try.prog) (W := w') (cs := [_, _, _, _, _, _, _, _, _, _, _, _, _, _, _, _, _, _, _]) ho hx Try.underlying29 rfl (by kernel_rfl) s0 ⟨s1, s2, s3, s4, s5, s6, s7, s8, s9, s10, s11, s12, s13, s14, s15, s16, s17, s18, s19, trivial⟩; refine (hz_ _ _ (.tmp 45) ?_ ?_).trans ?_; (focus rfl); (focus (first | (with_reducible rfl) | (go_simp; done))); with_reducible rfl) | (have hz_ := fun (a : Act) (o : Oper) (x : Operand) (ho : o.op = .load 29 x) (hx : a.eval x = _) => exec_load_at (P := Try.prog) (W := w') (cs := [_, _, _, _, _, _, _, _, _, _, _, _, _, _, _, _, _, _, _]) ho hx Try.underlying29 rfl (by kernel_rfl) s20 ⟨s21, s22, s23, s24, s25, s26, s27, s28, s29, s30, s31, s32, s33, s34, s35, s36, s37, s38, s39, trivial⟩; refine (hz_ _ _ (.tmp 45) ?_ ?_).trans ?_; (focus rfl); (focus (first | (with_reducible rfl) | (go_simp; done))); with_reducible rfl) | (have hz_ := fun (a : Act) (o : Oper) (x : Operand) (ho : o.op = .load 29 x) (hx : a.eval x = _) => exec_load_at (P := Try.prog) (W := w') (cs := [_, _, _, _, _, _, _, _, _, _, _, _, _, _, _, _, _, _, _]) ho hx Try.underlying29 rfl (by kernel_rfl) s40 ⟨s41, s42, s43, s44, s45, s46, s47, s48, s49, s50, s51, s52, s53, s54, s55, s56, s57, s58, s59, trivial⟩; refine (hz_ _ _ (.tmp 45) ?_ ?_).trans ?_; (focus rfl); (focus (first | (with_reducible rfl) | (go_simp; done))); with_reducible rfl) | (go_simp; with_reducible rfl)
   rotate_left
   ·simp only [Act.put, sA, s0, sS, i64_w, i32_w]
    rfl
   refine one_ (i := 18) (N := some 47) #[true, true, true, true, true, true, true, true, true, true, true, true, true, true, true, true, true, true, true, false, false] rfl rfl (one_of HT_.out (by kernel_rfl)) (by decide) (fun K hK => ?_)
   refine goes_ Try.func24 (by kernel_rfl) rfl #[.agg #[.int .i64 ((rd_T29 x5_1 x9_2).f0), .int .i64 ((rd_T29 x5_1 x9_2).f1), .string ((rd_T29 x5_1 x9_2).f2), .string ((rd_T29 x5_1 x9_2).f3), .string ((rd_T29 x5_1 x9_2).f4), .int .i64 ((rd_T29 x5_1 x9_2).f5), .int .i64 ((rd_T29 x5_1 x9_2).f6), .int .i64 ((rd_T29 x5_1 x9_2).f7), .int .i64 ((rd_T29 x5_1 x9_2).f8), .bool ((rd_T29 x5_1 x9_2).f9), .int .i64 ((rd_T29 x5_1 x9_2).f10), .int .i64 ((rd_T29 x5_1 x9_2).f11), .int .i64 ((rd_T29 x5_1 x9_2).f12), .string ((rd_T29 x5_1 x9_2).f13), .int .i64 ((rd_T29 x5_1 x9_2).f14), .int .i64 ((rd_T29 x5_1 x9_2).f15), .string ((rd_T29 x5_1 x9_2).f16), .int .i64 ((rd_T29 x5_1 x9_2).f17), .int .i64 ((rd_T29 x5_1 x9_2).f18), .string ((rd_T29 x5_1 x9_2).f19)], .agg #[.int .i64 ((rd_T29 x5_1 x8_2).f0), .int .i64 ((rd_T29 x5_1 x8_2).f1), .string ((rd_T29 x5_1 x8_2).f2), .string ((rd_T29 x5_1 x8_2).f3), .string ((rd_T29 x5_1 x8_2).f4), .int .i64 ((rd_T29 x5_1 x8_2).f5), .int .i64 ((rd_T29 x5_1 x8_2).f6), .int .i64 ((rd_T29 x5_1 x8_2).f7), .int .i64 ((rd_T29 x5_1 x8_2).f8), .bool ((rd_T29 x5_1 x8_2).f9), .int .i64 ((rd_T29 x5_1 x8_2).f10), .int .i64 ((rd_T29 x5_1 x8_2).f11), .int .i64 ((rd_T29 x5_1 x8_2).f12), .string ((rd_T29 x5_1 x8_2).f13), .int .i64 ((rd_T29 x5_1 x8_2).f14), .int .i64 ((rd_T29 x5_1 x8_2).f15), .string ((rd_T29 x5_1 x8_2).f16), .int .i64 ((rd_T29 x5_1 x8_2).f17), .int .i64 ((rd_T29 x5_1 x8_2).f18), .string ((rd_T29 x5_1 x8_2).f19)]] (by rfl) rfl rfl ca ?_
   with_reducible refine (newsreelref41_older.calls _ _ _ _ _ _ _ _ _ _ _ _ _ _ _ _ _ _ _ _ _ _ _ _ _ _ _ _ _ _ _ _ _ _ _ _ _ _ _ _ true _ A25.out).mono ?_
   rintro e w29 ⟨rfl, hb⟩
   have hbk_w29 := mkA hb
   have HS0_ := hs_ hb hHeld.1
   have HS1_ := hs_ hb hHeld.2.1
   have HS2_ := hs_ hb hHeld.2.2.1
   have HS3_ := hs_ hb hHeld.2.2.2.1
   have HS4_ := hs_ hb hHeld.2.2.2.2.1
   have HS5_ := hs_ hb hHeld.2.2.2.2.2.1
   have HS6_ := hs_ hb hHeld.2.2.2.2.2.2.1
   have HS7_ := hs_ hb hHeld.2.2.2.2.2.2.2.1
   have HS8_ := hs_ hb hHeld.2.2.2.2.2.2.2.2.1
   have HS9_ := hs_ hb hHeld.2.2.2.2.2.2.2.2.2.1
   have HS10_ := hs_ hb hHeld.2.2.2.2.2.2.2.2.2.2.1
   have HS11_ := hs_ hb hHeld.2.2.2.2.2.2.2.2.2.2.2.1
   have HS12_ := hs_ hb hHeld.2.2.2.2.2.2.2.2.2.2.2.2.1
   have HS13_ := hs_ hb hHeld.2.2.2.2.2.2.2.2.2.2.2.2.2.1
   have HS14_ := hs_ hb hHeld.2.2.2.2.2.2.2.2.2.2.2.2.2.2.1
   have HS15_ := hs_ hb hHeld.2.2.2.2.2.2.2.2.2.2.2.2.2.2.2.1
   have HS16_ := hs_ hb hHeld.2.2.2.2.2.2.2.2.2.2.2.2.2.2.2.2.1
   have HS17_ := hs_ hb hHeld.2.2.2.2.2.2.2.2.2.2.2.2.2.2.2.2.2.1
   have HS18_ := hs_ hb hHeld.2.2.2.2.2.2.2.2.2.2.2.2.2.2.2.2.2.2.1
   have HS19_ := hs_ hb hHeld.2.2.2.2.2.2.2.2.2.2.2.2.2.2.2.2.2.2.2.1
   have HS20_ := hs_ hb hHeld.2.2.2.2.2.2.2.2.2.2.2.2.2.2.2.2.2.2.2.2.1
   have HS21_ := hs_ hb hHeld.2.2.2.2.2.2.2.2.2.2.2.2.2.2.2.2.2.2.2.2.2.1
   have HS22_ := hs_ hb hHeld.2.2.2.2.2.2.2.2.2.2.2.2.2.2.2.2.2.2.2.2.2.2.1
   have HS23_ := hs_ hb hHeld.2.2.2.2.2.2.2.2.2.2.2.2.2.2.2.2.2.2.2.2.2.2.2.1
   have HS24_ := hs_ hb hHeld.2.2.2.2.2.2.2.2.2.2.2.2.2.2.2.2.2.2.2.2.2.2.2.2.1
   have HS25_ := hs_ hb hHeld.2.2.2.2.2.2.2.2.2.2.2.2.2.2.2.2.2.2.2.2.2.2.2.2.2.1
   have HS26_ := hs_ hb hHeld.2.2.2.2.2.2.2.2.2.2.2.2.2.2.2.2.2.2.2.2.2.2.2.2.2.2.1
   have HS27_ := hs_ hb hHeld.2.2.2.2.2.2.2.2.2.2.2.2.2.2.2.2.2.2.2.2.2.2.2.2.2.2.2.1
   have HS28_ := hs_ hb hHeld.2.2.2.2.2.2.2.2.2.2.2.2.2.2.2.2.2.2.2.2.2.2.2.2.2.2.2.2.1
   have HS29_ := hs_ hb hHeld.2.2.2.2.2.2.2.2.2.2.2.2.2.2.2.2.2.2.2.2.2.2.2.2.2.2.2.2.2.1
   have HS30_ := hs_ hb hHeld.2.2.2.2.2.2.2.2.2.2.2.2.2.2.2.2.2.2.2.2.2.2.2.2.2.2.2.2.2.2.1
   have HS31_ := hs_ hb hHeld.2.2.2.2.2.2.2.2.2.2.2.2.2.2.2.2.2.2.2.2.2.2.2.2.2.2.2.2.2.2.2.1
   have HS32_ := hs_ hb hHeld.2.2.2.2.2.2.2.2.2.2.2.2.2.2.2.2.2.2.2.2.2.2.2.2.2.2.2.2.2.2.2.2.1
   have HS33_ := hs_ hb hHeld.2.2.2.2.2.2.2.2.2.2.2.2.2.2.2.2.2.2.2.2.2.2.2.2.2.2.2.2.2.2.2.2.2.1
   have HS34_ := hs_ hb hHeld.2.2.2.2.2.2.2.2.2.2.2.2.2.2.2.2.2.2.2.2.2.2.2.2.2.2.2.2.2.2.2.2.2.2.1
   have HS35_ := hs_ hb hHeld.2.2.2.2.2.2.2.2.2.2.2.2.2.2.2.2.2.2.2.2.2.2.2.2.2.2.2.2.2.2.2.2.2.2.2.1
   have HS36_ := hs_ hb hHeld.2.2.2.2.2.2.2.2.2.2.2.2.2.2.2.2.2.2.2.2.2.2.2.2.2.2.2.2.2.2.2.2.2.2.2.2.1
   have HS37_ := hs_ hb hHeld.2.2.2.2.2.2.2.2.2.2.2.2.2.2.2.2.2.2.2.2.2.2.2.2.2.2.2.2.2.2.2.2.2.2.2.2.2.1
   have HS38_ := hs_ hb hHeld.2.2.2.2.2.2.2.2.2.2.2.2.2.2.2.2.2.2.2.2.2.2.2.2.2.2.2.2.2.2.2.2.2.2.2.2.2.2.1
   have HS39_ := hs_ hb hHeld.2.2.2.2.2.2.2.2.2.2.2.2.2.2.2.2.2.2.2.2.2.2.2.2.2.2.2.2.2.2.2.2.2.2.2.2.2.2.2.1
   have HS40_ := hs_ hb hHeld.2.2.2.2.2.2.2.2.2.2.2.2.2.2.2.2.2.2.2.2.2.2.2.2.2.2.2.2.2.2.2.2.2.2.2.2.2.2.2.2.1
   have HS41_ := hs_ hb hHeld.2.2.2.2.2.2.2.2.2.2.2.2.2.2.2.2.2.2.2.2.2.2.2.2.2.2.2.2.2.2.2.2.2.2.2.2.2.2.2.2.2.1
   have HS42_ := hs_ hb hHeld.2.2.2.2.2.2.2.2.2.2.2.2.2.2.2.2.2.2.2.2.2.2.2.2.2.2.2.2.2.2.2.2.2.2.2.2.2.2.2.2.2.2.1
   have HS43_ := hs_ hb hHeld.2.2.2.2.2.2.2.2.2.2.2.2.2.2.2.2.2.2.2.2.2.2.2.2.2.2.2.2.2.2.2.2.2.2.2.2.2.2.2.2.2.2.2.1
   have HS44_ := hs_ hb hHeld.2.2.2.2.2.2.2.2.2.2.2.2.2.2.2.2.2.2.2.2.2.2.2.2.2.2.2.2.2.2.2.2.2.2.2.2.2.2.2.2.2.2.2.2.1
   have HS45_ := hs_ hb hHeld.2.2.2.2.2.2.2.2.2.2.2.2.2.2.2.2.2.2.2.2.2.2.2.2.2.2.2.2.2.2.2.2.2.2.2.2.2.2.2.2.2.2.2.2.2.1
   have HS46_ := hs_ hb hHeld.2.2.2.2.2.2.2.2.2.2.2.2.2.2.2.2.2.2.2.2.2.2.2.2.2.2.2.2.2.2.2.2.2.2.2.2.2.2.2.2.2.2.2.2.2.2.1
   have HS47_ := hs_ hb hHeld.2.2.2.2.2.2.2.2.2.2.2.2.2.2.2.2.2.2.2.2.2.2.2.2.2.2.2.2.2.2.2.2.2.2.2.2.2.2.2.2.2.2.2.2.2.2.2.1
   have HS48_ := hs_ hb hHeld.2.2.2.2.2.2.2.2.2.2.2.2.2.2.2.2.2.2.2.2.2.2.2.2.2.2.2.2.2.2.2.2.2.2.2.2.2.2.2.2.2.2.2.2.2.2.2.2.1
   have HS49_ := hs_ hb hHeld.2.2.2.2.2.2.2.2.2.2.2.2.2.2.2.2.2.2.2.2.2.2.2.2.2.2.2.2.2.2.2.2.2.2.2.2.2.2.2.2.2.2.2.2.2.2.2.2.2.1
   have HS50_ := hs_ hb hHeld.2.2.2.2.2.2.2.2.2.2.2.2.2.2.2.2.2.2.2.2.2.2.2.2.2.2.2.2.2.2.2.2.2.2.2.2.2.2.2.2.2.2.2.2.2.2.2.2.2.2.1
   have HS51_ := hs_ hb hHeld.2.2.2.2.2.2.2.2.2.2.2.2.2.2.2.2.2.2.2.2.2.2.2.2.2.2.2.2.2.2.2.2.2.2.2.2.2.2.2.2.2.2.2.2.2.2.2.2.2.2.2.1
   have HS52_ := hs_ hb hHeld.2.2.2.2.2.2.2.2.2.2.2.2.2.2.2.2.2.2.2.2.2.2.2.2.2.2.2.2.2.2.2.2.2.2.2.2.2.2.2.2.2.2.2.2.2.2.2.2.2.2.2.2.1
   have HS53_ := hs_ hb hHeld.2.2.2.2.2.2.2.2.2.2.2.2.2.2.2.2.2.2.2.2.2.2.2.2.2.2.2.2.2.2.2.2.2.2.2.2.2.2.2.2.2.2.2.2.2.2.2.2.2.2.2.2.2.1
   have HS54_ := hs_ hb hHeld.2.2.2.2.2.2.2.2.2.2.2.2.2.2.2.2.2.2.2.2.2.2.2.2.2.2.2.2.2.2.2.2.2.2.2.2.2.2.2.2.2.2.2.2.2.2.2.2.2.2.2.2.2.2.1
   have HS55_ := hs_ hb hHeld.2.2.2.2.2.2.2.2.2.2.2.2.2.2.2.2.2.2.2.2.2.2.2.2.2.2.2.2.2.2.2.2.2.2.2.2.2.2.2.2.2.2.2.2.2.2.2.2.2.2.2.2.2.2.2.1
   have HS56_ := hs_ hb hHeld.2.2.2.2.2.2.2.2.2.2.2.2.2.2.2.2.2.2.2.2.2.2.2.2.2.2.2.2.2.2.2.2.2.2.2.2.2.2.2.2.2.2.2.2.2.2.2.2.2.2.2.2.2.2.2.2.1
   have HS57_ := hs_ hb hHeld.2.2.2.2.2.2.2.2.2.2.2.2.2.2.2.2.2.2.2.2.2.2.2.2.2.2.2.2.2.2.2.2.2.2.2.2.2.2.2.2.2.2.2.2.2.2.2.2.2.2.2.2.2.2.2.2.2.1
   have HS58_ := hs_ hb hHeld.2.2.2.2.2.2.2.2.2.2.2.2.2.2.2.2.2.2.2.2.2.2.2.2.2.2.2.2.2.2.2.2.2.2.2.2.2.2.2.2.2.2.2.2.2.2.2.2.2.2.2.2.2.2.2.2.2.2.1
   have HS59_ := hs_ hb hHeld.2.2.2.2.2.2.2.2.2.2.2.2.2.2.2.2.2.2.2.2.2.2.2.2.2.2.2.2.2.2.2.2.2.2.2.2.2.2.2.2.2.2.2.2.2.2.2.2.2.2.2.2.2.2.2.2.2.2.2
   refine ⟨_, rfl, ?_⟩
   have n0_ := mkA (Kd.R_below (Kd.R_y HO_5.out) hb)
   have n1_ := mkA (Kd.R_below (Kd.R_y HO_7.out) hb)
   have n2_ := mkA (blk_below (blk_y BK261.out) hb)
   have n3_ := mkA (below_step (below_y HB.out) hb)
   clear HO_5 HO_7 BK261 HB
   have HO_5 := n0_
   have HO_7 := n1_
   have BK261 := n2_
   have HB := n3_
   clear n0_ n1_ n2_ n3_
   (try clear hb)
   (try clear hb2)
   (try clear hk)
   (try clear hi)
   refine hK.out _ _ ⟨HS0_, HS1_, HS2_, HS3_, HS4_, HS5_, HS6_, HS7_, HS8_, HS9_, HS10_, HS11_, HS12_, HS13_, HS14_, HS15_, HS16_, HS17_, HS18_, HS19_, HS20_, HS21_, HS22_, HS23_, HS24_, HS25_, HS26_, HS27_, HS28_, HS29_, HS30_, HS31_, HS32_, HS33_, HS34_, HS35_, HS36_, HS37_, HS38_, HS39_, HS40_, HS41_, HS42_, HS43_, HS44_, HS45_, HS46_, HS47_, HS48_, HS49_, HS50_, HS51_, HS52_, HS53_, HS54_, HS55_, HS56_, HS57_, HS58_, HS59_⟩ (fun hHeld => ?_)
   clear hK K
   refine norm_ (a' := ?_) ?_ ?_
   rotate_left
   ·show Act.put _ (some 47) _ = _
    simp only [Act.put, sA, s0, sS, i64_w, i32_w]
    rfl
   refine pu 19 48 HT_ ?_
   refine pu 20 49 HT_ ?_
   refine done_ (done_of HT_.out (by kernel_rfl)) ?_
   try go_wp2_with (first | ((with_reducible refine gate_load (t := 25) rfl ?_); refine load_row3 (t := 25) (g := gb261) ?hg BK261.out ?ho ?hb Try.underlying25 rfl ?hs ?_; (case hg => rfl); (case ho => refine ⟨_, rfl, ?_⟩; first | (with_reducible rfl) | (go_simp; done)); (case hb => (with_reducible repeat (first | refine blk_drewN ?_ _ | refine blk_drew ?_ | refine blk_alloc ?_ _)); with_reducible exact BK261.out); (case hs => kernel_rfl)))
   go_roundg k2
   case measure => have := HK1.out; have := HK2.out; omega
   case rel => exact ⟨(x9_2), (wrap64 (x9_2 + 1)), (by first | rfl | (simp; done) | (simp [*]; done)), (by first | rfl | (simp; done) | (simp [*]; done)), H', ⟨by have := HK1.out; have := HK2.out; omega⟩, ⟨by (with_reducible repeat (first | apply Kd.R_alloc | apply Kd.R_drewN | apply Kd.R_drew)); exact HO_5.out⟩, ⟨by (with_reducible repeat (first | apply Kd.R_alloc | apply Kd.R_drewN | apply Kd.R_drew)); exact HO_7.out⟩, ⟨by (with_reducible repeat (first | refine blk_drewN ?_ _ | refine blk_drew ?_ | refine blk_alloc ?_ _)); exact BK261.out⟩, ⟨by repeat (first | (with_reducible first | exact HB.out | apply below_alloc | apply pw_below_drewN | apply below_drew1 | refine below_set ?_ GE261.out) | exact HB.out)⟩⟩
 replace c26 := Bool.eq_false_iff.mpr c26
 subst c26
 have H1 : (newsreelref41_Over.l1 k2 a1 x5_1 ji4 x7_1 x8_2 (wrap64 (x9_2 + 1))) = some r := by rw [if_neg (show ¬ (false = true) by decide)] at H; exact H
 clear H
 have H := H1
 clear H1
 as_aux_lemma =>
  have H' := mkA H
  clear H
  try go_wp2_with (first | ((with_reducible refine gate_load (t := 25) rfl ?_); refine load_row3 (t := 25) (g := gb261) ?hg BK261.out ?ho ?hb Try.underlying25 rfl ?hs ?_; (case hg => rfl); (case ho => refine ⟨_, rfl, ?_⟩; first | (with_reducible rfl) | (go_simp; done)); (case hb => (with_reducible repeat (first | refine blk_drewN ?_ _ | refine blk_drew ?_ | refine blk_alloc ?_ _)); with_reducible exact BK261.out); (case hs => kernel_rfl)))
  have n0_ := mkA (Kd.R_drew HO_5.out)
  have n1_ := mkA (Kd.R_drew HO_7.out)
  have n2_ := mkA (blk_drew BK261.out)
  try (have HBd_ := mkA (below_drew1 (pw_below_drewN HB.out nd)))
  have n3_ := mkA (below_drew1 HB.out)
  clear HO_5 HO_7 BK261 HB
  have HO_5 := n0_
  have HO_7 := n1_
  have BK261 := n2_
  have HB := n3_
  clear n0_ n1_ n2_ n3_
  have p277 : 0 ≤ (x9_2 : Int) := odt
  have q277 : x9_2 < (x5_1.length : Int) := odt
  obtain ⟨ad277, e277, hx277_0, hx277_1, hx277_2, hx277_3, hx277_4, hx277_5, hx277_6, hx277_7, hx277_8, hx277_9, hx277_10, hx277_11, hx277_12, hx277_13, hx277_14, hx277_15, hx277_16, hx277_17, hx277_18, hx277_19⟩ := at_T29 (Kd.R_reads' HO_5.out).2.2 x9_2 p277 q277
  cases e277
  replace p277 := eq_true p277
  replace q277 := eq_true q277
  have p279 : 0 ≤ (x9_2 : Int) := odt
  have q279 : x9_2 < (x5_1.length : Int) := odt
  obtain ⟨ad279, e279, hx279_0, hx279_1, hx279_2, hx279_3, hx279_4, hx279_5, hx279_6, hx279_7, hx279_8, hx279_9, hx279_10, hx279_11, hx279_12, hx279_13, hx279_14, hx279_15, hx279_16, hx279_17, hx279_18, hx279_19⟩ := at_T29 (Kd.R_reads' HO_5.out).2.2 x9_2 p279 q279
  obtain rfl : ad277 = ad279 := (by injection e279)
  replace p279 := eq_true p279
  replace q279 := eq_true q279
  have p280 : 0 ≤ (x8_2 : Int) := odt
  have q280 : x8_2 < (x5_1.length : Int) := odt
  obtain ⟨ad280, e280, hx280_0, hx280_1, hx280_2, hx280_3, hx280_4, hx280_5, hx280_6, hx280_7, hx280_8, hx280_9, hx280_10, hx280_11, hx280_12, hx280_13, hx280_14, hx280_15, hx280_16, hx280_17, hx280_18, hx280_19⟩ := at_T29 (Kd.R_reads' HO_5.out).2.2 x8_2 p280 q280
  obtain rfl : ad277 = ad280 := (by injection e280)
  replace p280 := eq_true p280
  replace q280 := eq_true q280
  refine start_ (n := 21) (S := fun w' => cj29 w' (ad277.add ((x9_2).toNat * 20)) (rd_T29 x5_1 x9_2) <| cj29 w' (ad277.add ((x9_2).toNat * 20)) (rd_T29 x5_1 x9_2) <| ce29 w' (ad277.add ((x8_2).toNat * 20)) (rd_T29 x5_1 x8_2)) (ds := []) #[false, false, false, false, false, false, false, false, false, false, false, false, false, false, false, false, false, false, false, false, false] (by kernel_rfl) rfl rfl ⟨hx277_0, hx277_1, hx277_2, hx277_3, hx277_4, hx277_5, hx277_6, hx277_7, hx277_8, hx277_9, hx277_10, hx277_11, hx277_12, hx277_13, hx277_14, hx277_15, hx277_16, hx277_17, hx277_18, hx277_19, hx279_0, hx279_1, hx279_2, hx279_3, hx279_4, hx279_5, hx279_6, hx279_7, hx279_8, hx279_9, hx279_10, hx279_11, hx279_12, hx279_13, hx279_14, hx279_15, hx279_16, hx279_17, hx279_18, hx279_19, hx280_0, hx280_1, hx280_2, hx280_3, hx280_4, hx280_5, hx280_6, hx280_7, hx280_8, hx280_9, hx280_10, hx280_11, hx280_12, hx280_13, hx280_14, hx280_15, hx280_16, hx280_17, hx280_18, hx280_19⟩ (fun hHeld => ?_); refine with_tabW newsreelref41_Over.tab9 newsreelref41_Over.bits9 (fun HT_ HW_ => ?_)
  generalize wr.drew = w30 at HO_5 HO_7 BK261 HB hx277_0 hx277_1 hx277_10 hx277_11 hx277_12 hx277_13 hx277_14 hx277_15 hx277_16 hx277_17 hx277_18 hx277_19 hx277_2 hx277_3 hx277_4 hx277_5 hx277_6 hx277_7 hx277_8 hx277_9 hx279_0 hx279_1 hx279_10 hx279_11 hx279_12 hx279_13 hx279_14 hx279_15 hx279_16 hx279_17 hx279_18 hx279_19 hx279_2 hx279_3 hx279_4 hx279_5 hx279_6 hx279_7 hx279_8 hx279_9 hx280_0 hx280_1 hx280_10 hx280_11 hx280_12 hx280_13 hx280_14 hx280_15 hx280_16 hx280_17 hx280_18 hx280_19 hx280_2 hx280_3 hx280_4 hx280_5 hx280_6 hx280_7 hx280_8 hx280_9 hHeld ⊢
  refine pu 0 29 HT_ ?_
  refine pu 1 30 HT_ ?_
  refine pu 2 31 HT_ ?_
  refine pu 4 33 HT_ ?_
  refine take_ (i := 3) (N := some 32) (v := ?_) (a' := ?_) #[true, true, true, true, true, false, false, false, false, false, false, false, false, false, false, false, false, false, false, false, false] rfl rfl (take_ofW HT_.out HW_.out (by kernel_rfl)) (fun _ _ _ h => h) (Or.inl ⟨by rfl, ?_⟩) hHeld ?_ ?_
  rotate_left
  ·rintro w' ⟨s0, s1, s2, s3, s4, s5, s6, s7, s8, s9, s10, s11, s12, s13, s14, s15, s16, s17, s18, s19, s20, s21, s22, s23, s24, s25, s26, s27, s28, s29, s30, s31, s32, s33, s34, s35, s36, s37, s38, s39, s40, s41, s42, s43, s44, s45, s46, s47, s48, s49, s50, s51, s52, s53, s54, s55, s56, s57, s58, s59⟩
   first | (have hz_ := fun (a : Act) (o : Oper) (x : Operand) (ho : o.op = .load 29 x) (hx : a.eval x = _) => exec_load_at (P := Try.prog) (W := w') (cs := [_, _, _, _, _, _, _, _, _, _, _, _, _, _, _, _, _, _, _]) ho hx Try.underlying29 rfl (by kernel_rfl) s0 ⟨s1, s2, s3, s4, s5, s6, s7, s8, s9, s10, s11, s12, s13, s14, s15, s16, s17, s18, s19, trivial⟩; refine (hz_ _ _ (.tmp 31) ?_ ?_).trans ?_; (focus rfl); (focus (first | (with_reducible rfl) | (go_simp; done))); with_reducible rfl) | (have hz_ := fun (a : Act) (o : Oper) (x : Operand) (ho : o.op = .load 29 x) (hx : a.eval x = _) => exec_load_at (P := Try.prog) (W := w') (cs := [_, _, _, _, _, _, _, _, _, _, _, _, _, _, _, _, _, _, _]) ho hx Try.underlying29 rfl (by kernel_rfl) s20 ⟨s21, s22, s23, s24, s25, s26, s27, s28, s29, s30, s31, s32, s33, s34, s35, s36, s37, s38, s39, trivial⟩; refine (hz_ _ _ (.tmp 31) ?_ ?_).trans ?_; (focus rfl); (focus (first | (with_reducible rfl) | (go_simp; done))); with_reducible rfl) | (have hz_ := fun (a : Act) (o : Oper) (x : Operand) (ho : o.op = .load 29 x) (hx : a.eval x = _) => exec_load_at (P := Try.prog) (W := w') (cs := [_, _, _, _, _, _, _, _, _, _, _, _, _, _, _, _, _, _, _]) ho hx Try.underlying29 rfl (by kernel_rfl) s40 ⟨s41, s42, s43, s44, s45, s46, s47, s48, s49, s50, s51, s52, s53, s54, s55, s56, s57, s58, s59, trivial⟩; refine (hz_ _ _ (.tmp 31) ?_ ?_).trans ?_; (focus rfl); (focus (first | (with_reducible rfl) | (go_simp; done))); with_reducible rfl) | (go_simp; with_reducible rfl)
  rotate_left
  ·simp only [Act.put, sA, s0, sS, i64_w, i32_w]
   rfl
  refine one_ (i := 5) (N := some 34) #[true, true, true, true, true, true, false, false, false, false, false, false, false, false, false, false, false, false, false, false, false] rfl rfl (one_of HT_.out (by kernel_rfl)) (by decide) (fun K hK => ?_)
  refine goes_ Try.func16 (by kernel_rfl) rfl #[.agg #[.int .i64 ((rd_T29 x5_1 x9_2).f0), .int .i64 ((rd_T29 x5_1 x9_2).f1), .string ((rd_T29 x5_1 x9_2).f2), .string ((rd_T29 x5_1 x9_2).f3), .string ((rd_T29 x5_1 x9_2).f4), .int .i64 ((rd_T29 x5_1 x9_2).f5), .int .i64 ((rd_T29 x5_1 x9_2).f6), .int .i64 ((rd_T29 x5_1 x9_2).f7), .int .i64 ((rd_T29 x5_1 x9_2).f8), .bool ((rd_T29 x5_1 x9_2).f9), .int .i64 ((rd_T29 x5_1 x9_2).f10), .int .i64 ((rd_T29 x5_1 x9_2).f11), .int .i64 ((rd_T29 x5_1 x9_2).f12), .string ((rd_T29 x5_1 x9_2).f13), .int .i64 ((rd_T29 x5_1 x9_2).f14), .int .i64 ((rd_T29 x5_1 x9_2).f15), .string ((rd_T29 x5_1 x9_2).f16), .int .i64 ((rd_T29 x5_1 x9_2).f17), .int .i64 ((rd_T29 x5_1 x9_2).f18), .string ((rd_T29 x5_1 x9_2).f19)], .int .i64 a1] (by rfl) rfl rfl ca ?_
  with_reducible refine (newsreelref41_May.calls _ _ _ _ _ _ _ _ _ _ _ _ _ _ _ _ _ _ _ _ _ true _ A18.out).mono ?_
  rintro e w31 ⟨rfl, hb⟩
  have hbk_w31 := mkA hb
  have HS0_ := hs_ hb hHeld.1
  have HS1_ := hs_ hb hHeld.2.1
  have HS2_ := hs_ hb hHeld.2.2.1
  have HS3_ := hs_ hb hHeld.2.2.2.1
  have HS4_ := hs_ hb hHeld.2.2.2.2.1
  have HS5_ := hs_ hb hHeld.2.2.2.2.2.1
  have HS6_ := hs_ hb hHeld.2.2.2.2.2.2.1
  have HS7_ := hs_ hb hHeld.2.2.2.2.2.2.2.1
  have HS8_ := hs_ hb hHeld.2.2.2.2.2.2.2.2.1
  have HS9_ := hs_ hb hHeld.2.2.2.2.2.2.2.2.2.1
  have HS10_ := hs_ hb hHeld.2.2.2.2.2.2.2.2.2.2.1
  have HS11_ := hs_ hb hHeld.2.2.2.2.2.2.2.2.2.2.2.1
  have HS12_ := hs_ hb hHeld.2.2.2.2.2.2.2.2.2.2.2.2.1
  have HS13_ := hs_ hb hHeld.2.2.2.2.2.2.2.2.2.2.2.2.2.1
  have HS14_ := hs_ hb hHeld.2.2.2.2.2.2.2.2.2.2.2.2.2.2.1
  have HS15_ := hs_ hb hHeld.2.2.2.2.2.2.2.2.2.2.2.2.2.2.2.1
  have HS16_ := hs_ hb hHeld.2.2.2.2.2.2.2.2.2.2.2.2.2.2.2.2.1
  have HS17_ := hs_ hb hHeld.2.2.2.2.2.2.2.2.2.2.2.2.2.2.2.2.2.1
  have HS18_ := hs_ hb hHeld.2.2.2.2.2.2.2.2.2.2.2.2.2.2.2.2.2.2.1
  have HS19_ := hs_ hb hHeld.2.2.2.2.2.2.2.2.2.2.2.2.2.2.2.2.2.2.2.1
  have HS20_ := hs_ hb hHeld.2.2.2.2.2.2.2.2.2.2.2.2.2.2.2.2.2.2.2.2.1
  have HS21_ := hs_ hb hHeld.2.2.2.2.2.2.2.2.2.2.2.2.2.2.2.2.2.2.2.2.2.1
  have HS22_ := hs_ hb hHeld.2.2.2.2.2.2.2.2.2.2.2.2.2.2.2.2.2.2.2.2.2.2.1
  have HS23_ := hs_ hb hHeld.2.2.2.2.2.2.2.2.2.2.2.2.2.2.2.2.2.2.2.2.2.2.2.1
  have HS24_ := hs_ hb hHeld.2.2.2.2.2.2.2.2.2.2.2.2.2.2.2.2.2.2.2.2.2.2.2.2.1
  have HS25_ := hs_ hb hHeld.2.2.2.2.2.2.2.2.2.2.2.2.2.2.2.2.2.2.2.2.2.2.2.2.2.1
  have HS26_ := hs_ hb hHeld.2.2.2.2.2.2.2.2.2.2.2.2.2.2.2.2.2.2.2.2.2.2.2.2.2.2.1
  have HS27_ := hs_ hb hHeld.2.2.2.2.2.2.2.2.2.2.2.2.2.2.2.2.2.2.2.2.2.2.2.2.2.2.2.1
  have HS28_ := hs_ hb hHeld.2.2.2.2.2.2.2.2.2.2.2.2.2.2.2.2.2.2.2.2.2.2.2.2.2.2.2.2.1
  have HS29_ := hs_ hb hHeld.2.2.2.2.2.2.2.2.2.2.2.2.2.2.2.2.2.2.2.2.2.2.2.2.2.2.2.2.2.1
  have HS30_ := hs_ hb hHeld.2.2.2.2.2.2.2.2.2.2.2.2.2.2.2.2.2.2.2.2.2.2.2.2.2.2.2.2.2.2.1
  have HS31_ := hs_ hb hHeld.2.2.2.2.2.2.2.2.2.2.2.2.2.2.2.2.2.2.2.2.2.2.2.2.2.2.2.2.2.2.2.1
  have HS32_ := hs_ hb hHeld.2.2.2.2.2.2.2.2.2.2.2.2.2.2.2.2.2.2.2.2.2.2.2.2.2.2.2.2.2.2.2.2.1
  have HS33_ := hs_ hb hHeld.2.2.2.2.2.2.2.2.2.2.2.2.2.2.2.2.2.2.2.2.2.2.2.2.2.2.2.2.2.2.2.2.2.1
  have HS34_ := hs_ hb hHeld.2.2.2.2.2.2.2.2.2.2.2.2.2.2.2.2.2.2.2.2.2.2.2.2.2.2.2.2.2.2.2.2.2.2.1
  have HS35_ := hs_ hb hHeld.2.2.2.2.2.2.2.2.2.2.2.2.2.2.2.2.2.2.2.2.2.2.2.2.2.2.2.2.2.2.2.2.2.2.2.1
  have HS36_ := hs_ hb hHeld.2.2.2.2.2.2.2.2.2.2.2.2.2.2.2.2.2.2.2.2.2.2.2.2.2.2.2.2.2.2.2.2.2.2.2.2.1
  have HS37_ := hs_ hb hHeld.2.2.2.2.2.2.2.2.2.2.2.2.2.2.2.2.2.2.2.2.2.2.2.2.2.2.2.2.2.2.2.2.2.2.2.2.2.1
  have HS38_ := hs_ hb hHeld.2.2.2.2.2.2.2.2.2.2.2.2.2.2.2.2.2.2.2.2.2.2.2.2.2.2.2.2.2.2.2.2.2.2.2.2.2.2.1
  have HS39_ := hs_ hb hHeld.2.2.2.2.2.2.2.2.2.2.2.2.2.2.2.2.2.2.2.2.2.2.2.2.2.2.2.2.2.2.2.2.2.2.2.2.2.2.2.1
  have HS40_ := hs_ hb hHeld.2.2.2.2.2.2.2.2.2.2.2.2.2.2.2.2.2.2.2.2.2.2.2.2.2.2.2.2.2.2.2.2.2.2.2.2.2.2.2.2.1
  have HS41_ := hs_ hb hHeld.2.2.2.2.2.2.2.2.2.2.2.2.2.2.2.2.2.2.2.2.2.2.2.2.2.2.2.2.2.2.2.2.2.2.2.2.2.2.2.2.2.1
  have HS42_ := hs_ hb hHeld.2.2.2.2.2.2.2.2.2.2.2.2.2.2.2.2.2.2.2.2.2.2.2.2.2.2.2.2.2.2.2.2.2.2.2.2.2.2.2.2.2.2.1
  have HS43_ := hs_ hb hHeld.2.2.2.2.2.2.2.2.2.2.2.2.2.2.2.2.2.2.2.2.2.2.2.2.2.2.2.2.2.2.2.2.2.2.2.2.2.2.2.2.2.2.2.1
  have HS44_ := hs_ hb hHeld.2.2.2.2.2.2.2.2.2.2.2.2.2.2.2.2.2.2.2.2.2.2.2.2.2.2.2.2.2.2.2.2.2.2.2.2.2.2.2.2.2.2.2.2.1
  have HS45_ := hs_ hb hHeld.2.2.2.2.2.2.2.2.2.2.2.2.2.2.2.2.2.2.2.2.2.2.2.2.2.2.2.2.2.2.2.2.2.2.2.2.2.2.2.2.2.2.2.2.2.1
  have HS46_ := hs_ hb hHeld.2.2.2.2.2.2.2.2.2.2.2.2.2.2.2.2.2.2.2.2.2.2.2.2.2.2.2.2.2.2.2.2.2.2.2.2.2.2.2.2.2.2.2.2.2.2.1
  have HS47_ := hs_ hb hHeld.2.2.2.2.2.2.2.2.2.2.2.2.2.2.2.2.2.2.2.2.2.2.2.2.2.2.2.2.2.2.2.2.2.2.2.2.2.2.2.2.2.2.2.2.2.2.2.1
  have HS48_ := hs_ hb hHeld.2.2.2.2.2.2.2.2.2.2.2.2.2.2.2.2.2.2.2.2.2.2.2.2.2.2.2.2.2.2.2.2.2.2.2.2.2.2.2.2.2.2.2.2.2.2.2.2.1
  have HS49_ := hs_ hb hHeld.2.2.2.2.2.2.2.2.2.2.2.2.2.2.2.2.2.2.2.2.2.2.2.2.2.2.2.2.2.2.2.2.2.2.2.2.2.2.2.2.2.2.2.2.2.2.2.2.2.1
  have HS50_ := hs_ hb hHeld.2.2.2.2.2.2.2.2.2.2.2.2.2.2.2.2.2.2.2.2.2.2.2.2.2.2.2.2.2.2.2.2.2.2.2.2.2.2.2.2.2.2.2.2.2.2.2.2.2.2.1
  have HS51_ := hs_ hb hHeld.2.2.2.2.2.2.2.2.2.2.2.2.2.2.2.2.2.2.2.2.2.2.2.2.2.2.2.2.2.2.2.2.2.2.2.2.2.2.2.2.2.2.2.2.2.2.2.2.2.2.2.1
  have HS52_ := hs_ hb hHeld.2.2.2.2.2.2.2.2.2.2.2.2.2.2.2.2.2.2.2.2.2.2.2.2.2.2.2.2.2.2.2.2.2.2.2.2.2.2.2.2.2.2.2.2.2.2.2.2.2.2.2.2.1
  have HS53_ := hs_ hb hHeld.2.2.2.2.2.2.2.2.2.2.2.2.2.2.2.2.2.2.2.2.2.2.2.2.2.2.2.2.2.2.2.2.2.2.2.2.2.2.2.2.2.2.2.2.2.2.2.2.2.2.2.2.2.1
  have HS54_ := hs_ hb hHeld.2.2.2.2.2.2.2.2.2.2.2.2.2.2.2.2.2.2.2.2.2.2.2.2.2.2.2.2.2.2.2.2.2.2.2.2.2.2.2.2.2.2.2.2.2.2.2.2.2.2.2.2.2.2.1
  have HS55_ := hs_ hb hHeld.2.2.2.2.2.2.2.2.2.2.2.2.2.2.2.2.2.2.2.2.2.2.2.2.2.2.2.2.2.2.2.2.2.2.2.2.2.2.2.2.2.2.2.2.2.2.2.2.2.2.2.2.2.2.2.1
  have HS56_ := hs_ hb hHeld.2.2.2.2.2.2.2.2.2.2.2.2.2.2.2.2.2.2.2.2.2.2.2.2.2.2.2.2.2.2.2.2.2.2.2.2.2.2.2.2.2.2.2.2.2.2.2.2.2.2.2.2.2.2.2.2.1
  have HS57_ := hs_ hb hHeld.2.2.2.2.2.2.2.2.2.2.2.2.2.2.2.2.2.2.2.2.2.2.2.2.2.2.2.2.2.2.2.2.2.2.2.2.2.2.2.2.2.2.2.2.2.2.2.2.2.2.2.2.2.2.2.2.2.1
  have HS58_ := hs_ hb hHeld.2.2.2.2.2.2.2.2.2.2.2.2.2.2.2.2.2.2.2.2.2.2.2.2.2.2.2.2.2.2.2.2.2.2.2.2.2.2.2.2.2.2.2.2.2.2.2.2.2.2.2.2.2.2.2.2.2.2.1
  have HS59_ := hs_ hb hHeld.2.2.2.2.2.2.2.2.2.2.2.2.2.2.2.2.2.2.2.2.2.2.2.2.2.2.2.2.2.2.2.2.2.2.2.2.2.2.2.2.2.2.2.2.2.2.2.2.2.2.2.2.2.2.2.2.2.2.2
  refine ⟨_, rfl, ?_⟩
  have n0_ := mkA (Kd.R_below (Kd.R_y HO_5.out) hb)
  have n1_ := mkA (Kd.R_below (Kd.R_y HO_7.out) hb)
  have n2_ := mkA (blk_below (blk_y BK261.out) hb)
  have n3_ := mkA (below_step (below_y HB.out) hb)
  clear HO_5 HO_7 BK261 HB
  have HO_5 := n0_
  have HO_7 := n1_
  have BK261 := n2_
  have HB := n3_
  clear n0_ n1_ n2_ n3_
  (try clear hb)
  (try clear hb2)
  (try clear hk)
  (try clear hi)
  refine hK.out _ _ ⟨HS0_, HS1_, HS2_, HS3_, HS4_, HS5_, HS6_, HS7_, HS8_, HS9_, HS10_, HS11_, HS12_, HS13_, HS14_, HS15_, HS16_, HS17_, HS18_, HS19_, HS20_, HS21_, HS22_, HS23_, HS24_, HS25_, HS26_, HS27_, HS28_, HS29_, HS30_, HS31_, HS32_, HS33_, HS34_, HS35_, HS36_, HS37_, HS38_, HS39_, HS40_, HS41_, HS42_, HS43_, HS44_, HS45_, HS46_, HS47_, HS48_, HS49_, HS50_, HS51_, HS52_, HS53_, HS54_, HS55_, HS56_, HS57_, HS58_, HS59_⟩ (fun hHeld => ?_)
  clear hK K
  refine norm_ (a' := ?_) ?_ ?_
  rotate_left
  ·show Act.put _ (some 34) _ = _
   simp only [Act.put, sA, s0, sS, i64_w, i32_w]
   rfl
  refine pu 6 35 HT_ ?_
  refine pu 7 36 HT_ ?_
  refine pu 8 37 HT_ ?_
  refine pu 9 38 HT_ ?_
  refine pu 10 39 HT_ ?_
  refine pu 11 40 HT_ ?_
  refine pu 12 41 HT_ ?_
  refine pu 14 43 HT_ ?_
  refine pu 15 44 HT_ ?_
  refine pu 16 45 HT_ ?_
  refine take_ (i := 13) (N := some 42) (v := ?_) (a' := ?_) #[true, true, true, true, true, true, true, true, true, true, true, true, true, true, true, true, true, false, false, false, false] rfl rfl (take_ofW HT_.out HW_.out (by kernel_rfl)) (fun _ _ _ h => h) (Or.inl ⟨by rfl, ?_⟩) hHeld ?_ ?_
  rotate_left
  ·rintro w' ⟨s0, s1, s2, s3, s4, s5, s6, s7, s8, s9, s10, s11, s12, s13, s14, s15, s16, s17, s18, s19, s20, s21, s22, s23, s24, s25, s26, s27, s28, s29, s30, s31, s32, s33, s34, s35, s36, s37, s38, s39, s40, s41, s42, s43, s44, s45, s46, s47, s48, s49, s50, s51, s52, s53, s54, s55, s56, s57, s58, s59⟩
   first | (have hz_ := fun (a : Act) (o : Oper) (x : Operand) (ho : o.op = .load 29 x) (hx : a.eval x = _) => exec_load_at (P := Try.prog) (W := w') (cs := [_, _, _, _, _, _, _, _, _, _, _, _, _, _, _, _, _, _, _]) ho hx Try.underlying29 rfl (by kernel_rfl) s0 ⟨s1, s2, s3, s4, s5, s6, s7, s8, s9, s10, s11, s12, s13, s14, s15, s16, s17, s18, s19, trivial⟩; refine (hz_ _ _ (.tmp 41) ?_ ?_).trans ?_; (focus rfl); (focus (first | (with_reducible rfl) | (go_simp; done))); with_reducible rfl) | (have hz_ := fun (a : Act) (o : Oper) (x : Operand) (ho : o.op = .load 29 x) (hx : a.eval x = _) => exec_load_at (P := Try.prog) (W := w') (cs := [_, _, _, _, _, _, _, _, _, _, _, _, _, _, _, _, _, _, _]) ho hx Try.underlying29 rfl (by kernel_rfl) s20 ⟨s21, s22, s23, s24, s25, s26, s27, s28, s29, s30, s31, s32, s33, s34, s35, s36, s37, s38, s39, trivial⟩; refine (hz_ _ _ (.tmp 41) ?_ ?_).trans ?_; (focus rfl); (focus (first | (with_reducible rfl) | (go_simp; done))); with_reducible rfl) | (have hz_ := fun (a : Act) (o : Oper) (x : Operand) (ho : o.op = .load 29 x) (hx : a.eval x = _) => exec_load_at (P := Try.prog) (W := w') (cs := [_, _, _, _, _, _, _, _, _, _, _, _, _, _, _, _, _, _, _]) ho hx Try.underlying29 rfl (by kernel_rfl) s40 ⟨s41, s42, s43, s44, s45, s46, s47, s48, s49, s50, s51, s52, s53, s54, s55, s56, s57, s58, s59, trivial⟩; refine (hz_ _ _ (.tmp 41) ?_ ?_).trans ?_; (focus rfl); (focus (first | (with_reducible rfl) | (go_simp; done))); with_reducible rfl) | (go_simp; with_reducible rfl)
  rotate_left
  ·simp only [Act.put, sA, s0, sS, i64_w, i32_w]
   rfl
  refine take_ (i := 17) (N := some 46) (v := ?_) (a' := ?_) #[true, true, true, true, true, true, true, true, true, true, true, true, true, true, true, true, true, true, false, false, false] rfl rfl (take_ofW HT_.out HW_.out (by kernel_rfl)) (fun _ _ _ h => h) (Or.inl ⟨by rfl, ?_⟩) hHeld ?_ ?_
  rotate_left
  ·rintro w' ⟨s0, s1, s2, s3, s4, s5, s6, s7, s8, s9, s10, s11, s12, s13, s14, s15, s16, s17, s18, s19, s20, s21, s22, s23, s24, s25, s26, s27, s28, s29, s30, s31, s32, s33, s34, s35, s36, s37, s38, s39, s40, s41, s42, s43, s44, s45, s46, s47, s48, s49, s50, s51, s52, s53, s54, s55, s56, s57, s58, s59⟩
   first | (have hz_ := fun (a : Act) (o : Oper) (x : Operand) (ho : o.op = .load 29 x) (hx : a.eval x = _) => exec_load_at (P := Try.prog) (W := w') (cs := [_, _, _, _, _, _, _, _, _, _, _, _, _, _, _, _, _, _, _]) ho hx Try.underlying29 rfl (by kernel_rfl) s0 ⟨s1, s2, s3, s4, s5, s6, s7, s8, s9, s10, s11, s12, s13, s14, s15, s16, s17, s18, s19, trivial⟩; refine (hz_ _ _ (.tmp 45) ?_ ?_).trans ?_; (focus rfl); (focus (first | (with_reducible rfl) | (go_simp; done))); with_reducible rfl) | (have hz_ := fun (a : Act) (o : Oper) (x : Operand) (ho : o.op = .load 29 x) (hx : a.eval x = _) => exec_load_at (P := Try.prog) (W := w') (cs := [_, _, _, _, _, _, _, _, _, _, _, _, _, _, _, _, _, _, _]) ho hx Try.underlying29 rfl (by kernel_rfl) s20 ⟨s21, s22, s23, s24, s25, s26, s27, s28, s29, s30, s31, s32, s33, s34, s35, s36, s37, s38, s39, trivial⟩; refine (hz_ _ _ (.tmp 45) ?_ ?_).trans ?_; (focus rfl); (focus (first | (with_reducible rfl) | (go_simp; done))); with_reducible rfl) | (have hz_ := fun (a : Act) (o : Oper) (x : Operand) (ho : o.op = .load 29 x) (hx : a.eval x = _) => exec_load_at (P := Try.prog) (W := w') (cs := [_, _, _, _, _, _, _, _, _, _, _, _, _, _, _, _, _, _, _]) ho hx Try.underlying29 rfl (by kernel_rfl) s40 ⟨s41, s42, s43, s44, s45, s46, s47, s48, s49, s50, s51, s52, s53, s54, s55, s56, s57, s58, s59, trivial⟩; refine (hz_ _ _ (.tmp 45) ?_ ?_).trans ?_; (focus rfl); (focus (first | (with_reducible rfl) | (go_simp; done))); with_reducible rfl) | (go_simp; with_reducible rfl)
  rotate_left
  ·simp only [Act.put, sA, s0, sS, i64_w, i32_w]
   rfl
  refine one_ (i := 18) (N := some 47) #[true, true, true, true, true, true, true, true, true, true, true, true, true, true, true, true, true, true, true, false, false] rfl rfl (one_of HT_.out (by kernel_rfl)) (by decide) (fun K hK => ?_)
  refine goes_ Try.func24 (by kernel_rfl) rfl #[.agg #[.int .i64 ((rd_T29 x5_1 x9_2).f0), .int .i64 ((rd_T29 x5_1 x9_2).f1), .string ((rd_T29 x5_1 x9_2).f2), .string ((rd_T29 x5_1 x9_2).f3), .string ((rd_T29 x5_1 x9_2).f4), .int .i64 ((rd_T29 x5_1 x9_2).f5), .int .i64 ((rd_T29 x5_1 x9_2).f6), .int .i64 ((rd_T29 x5_1 x9_2).f7), .int .i64 ((rd_T29 x5_1 x9_2).f8), .bool ((rd_T29 x5_1 x9_2).f9), .int .i64 ((rd_T29 x5_1 x9_2).f10), .int .i64 ((rd_T29 x5_1 x9_2).f11), .int .i64 ((rd_T29 x5_1 x9_2).f12), .string ((rd_T29 x5_1 x9_2).f13), .int .i64 ((rd_T29 x5_1 x9_2).f14), .int .i64 ((rd_T29 x5_1 x9_2).f15), .string ((rd_T29 x5_1 x9_2).f16), .int .i64 ((rd_T29 x5_1 x9_2).f17), .int .i64 ((rd_T29 x5_1 x9_2).f18), .string ((rd_T29 x5_1 x9_2).f19)], .agg #[.int .i64 ((rd_T29 x5_1 x8_2).f0), .int .i64 ((rd_T29 x5_1 x8_2).f1), .string ((rd_T29 x5_1 x8_2).f2), .string ((rd_T29 x5_1 x8_2).f3), .string ((rd_T29 x5_1 x8_2).f4), .int .i64 ((rd_T29 x5_1 x8_2).f5), .int .i64 ((rd_T29 x5_1 x8_2).f6), .int .i64 ((rd_T29 x5_1 x8_2).f7), .int .i64 ((rd_T29 x5_1 x8_2).f8), .bool ((rd_T29 x5_1 x8_2).f9), .int .i64 ((rd_T29 x5_1 x8_2).f10), .int .i64 ((rd_T29 x5_1 x8_2).f11), .int .i64 ((rd_T29 x5_1 x8_2).f12), .string ((rd_T29 x5_1 x8_2).f13), .int .i64 ((rd_T29 x5_1 x8_2).f14), .int .i64 ((rd_T29 x5_1 x8_2).f15), .string ((rd_T29 x5_1 x8_2).f16), .int .i64 ((rd_T29 x5_1 x8_2).f17), .int .i64 ((rd_T29 x5_1 x8_2).f18), .string ((rd_T29 x5_1 x8_2).f19)]] (by rfl) rfl rfl ca ?_
  with_reducible refine (newsreelref41_older.calls _ _ _ _ _ _ _ _ _ _ _ _ _ _ _ _ _ _ _ _ _ _ _ _ _ _ _ _ _ _ _ _ _ _ _ _ _ _ _ _ false _ A25.out).mono ?_
  rintro e w32 ⟨rfl, hb⟩
  have hbk_w32 := mkA hb
  have HS0_ := hs_ hb hHeld.1
  have HS1_ := hs_ hb hHeld.2.1
  have HS2_ := hs_ hb hHeld.2.2.1
  have HS3_ := hs_ hb hHeld.2.2.2.1
  have HS4_ := hs_ hb hHeld.2.2.2.2.1
  have HS5_ := hs_ hb hHeld.2.2.2.2.2.1
  have HS6_ := hs_ hb hHeld.2.2.2.2.2.2.1
  have HS7_ := hs_ hb hHeld.2.2.2.2.2.2.2.1
  have HS8_ := hs_ hb hHeld.2.2.2.2.2.2.2.2.1
  have HS9_ := hs_ hb hHeld.2.2.2.2.2.2.2.2.2.1
  have HS10_ := hs_ hb hHeld.2.2.2.2.2.2.2.2.2.2.1
  have HS11_ := hs_ hb hHeld.2.2.2.2.2.2.2.2.2.2.2.1
  have HS12_ := hs_ hb hHeld.2.2.2.2.2.2.2.2.2.2.2.2.1
  have HS13_ := hs_ hb hHeld.2.2.2.2.2.2.2.2.2.2.2.2.2.1
  have HS14_ := hs_ hb hHeld.2.2.2.2.2.2.2.2.2.2.2.2.2.2.1
  have HS15_ := hs_ hb hHeld.2.2.2.2.2.2.2.2.2.2.2.2.2.2.2.1
  have HS16_ := hs_ hb hHeld.2.2.2.2.2.2.2.2.2.2.2.2.2.2.2.2.1
  have HS17_ := hs_ hb hHeld.2.2.2.2.2.2.2.2.2.2.2.2.2.2.2.2.2.1
  have HS18_ := hs_ hb hHeld.2.2.2.2.2.2.2.2.2.2.2.2.2.2.2.2.2.2.1
  have HS19_ := hs_ hb hHeld.2.2.2.2.2.2.2.2.2.2.2.2.2.2.2.2.2.2.2.1
  have HS20_ := hs_ hb hHeld.2.2.2.2.2.2.2.2.2.2.2.2.2.2.2.2.2.2.2.2.1
  have HS21_ := hs_ hb hHeld.2.2.2.2.2.2.2.2.2.2.2.2.2.2.2.2.2.2.2.2.2.1
  have HS22_ := hs_ hb hHeld.2.2.2.2.2.2.2.2.2.2.2.2.2.2.2.2.2.2.2.2.2.2.1
  have HS23_ := hs_ hb hHeld.2.2.2.2.2.2.2.2.2.2.2.2.2.2.2.2.2.2.2.2.2.2.2.1
  have HS24_ := hs_ hb hHeld.2.2.2.2.2.2.2.2.2.2.2.2.2.2.2.2.2.2.2.2.2.2.2.2.1
  have HS25_ := hs_ hb hHeld.2.2.2.2.2.2.2.2.2.2.2.2.2.2.2.2.2.2.2.2.2.2.2.2.2.1
  have HS26_ := hs_ hb hHeld.2.2.2.2.2.2.2.2.2.2.2.2.2.2.2.2.2.2.2.2.2.2.2.2.2.2.1
  have HS27_ := hs_ hb hHeld.2.2.2.2.2.2.2.2.2.2.2.2.2.2.2.2.2.2.2.2.2.2.2.2.2.2.2.1
  have HS28_ := hs_ hb hHeld.2.2.2.2.2.2.2.2.2.2.2.2.2.2.2.2.2.2.2.2.2.2.2.2.2.2.2.2.1
  have HS29_ := hs_ hb hHeld.2.2.2.2.2.2.2.2.2.2.2.2.2.2.2.2.2.2.2.2.2.2.2.2.2.2.2.2.2.1
  have HS30_ := hs_ hb hHeld.2.2.2.2.2.2.2.2.2.2.2.2.2.2.2.2.2.2.2.2.2.2.2.2.2.2.2.2.2.2.1
  have HS31_ := hs_ hb hHeld.2.2.2.2.2.2.2.2.2.2.2.2.2.2.2.2.2.2.2.2.2.2.2.2.2.2.2.2.2.2.2.1
  have HS32_ := hs_ hb hHeld.2.2.2.2.2.2.2.2.2.2.2.2.2.2.2.2.2.2.2.2.2.2.2.2.2.2.2.2.2.2.2.2.1
  have HS33_ := hs_ hb hHeld.2.2.2.2.2.2.2.2.2.2.2.2.2.2.2.2.2.2.2.2.2.2.2.2.2.2.2.2.2.2.2.2.2.1
  have HS34_ := hs_ hb hHeld.2.2.2.2.2.2.2.2.2.2.2.2.2.2.2.2.2.2.2.2.2.2.2.2.2.2.2.2.2.2.2.2.2.2.1
  have HS35_ := hs_ hb hHeld.2.2.2.2.2.2.2.2.2.2.2.2.2.2.2.2.2.2.2.2.2.2.2.2.2.2.2.2.2.2.2.2.2.2.2.1
  have HS36_ := hs_ hb hHeld.2.2.2.2.2.2.2.2.2.2.2.2.2.2.2.2.2.2.2.2.2.2.2.2.2.2.2.2.2.2.2.2.2.2.2.2.1
  have HS37_ := hs_ hb hHeld.2.2.2.2.2.2.2.2.2.2.2.2.2.2.2.2.2.2.2.2.2.2.2.2.2.2.2.2.2.2.2.2.2.2.2.2.2.1
  have HS38_ := hs_ hb hHeld.2.2.2.2.2.2.2.2.2.2.2.2.2.2.2.2.2.2.2.2.2.2.2.2.2.2.2.2.2.2.2.2.2.2.2.2.2.2.1
  have HS39_ := hs_ hb hHeld.2.2.2.2.2.2.2.2.2.2.2.2.2.2.2.2.2.2.2.2.2.2.2.2.2.2.2.2.2.2.2.2.2.2.2.2.2.2.2.1
  have HS40_ := hs_ hb hHeld.2.2.2.2.2.2.2.2.2.2.2.2.2.2.2.2.2.2.2.2.2.2.2.2.2.2.2.2.2.2.2.2.2.2.2.2.2.2.2.2.1
  have HS41_ := hs_ hb hHeld.2.2.2.2.2.2.2.2.2.2.2.2.2.2.2.2.2.2.2.2.2.2.2.2.2.2.2.2.2.2.2.2.2.2.2.2.2.2.2.2.2.1
  have HS42_ := hs_ hb hHeld.2.2.2.2.2.2.2.2.2.2.2.2.2.2.2.2.2.2.2.2.2.2.2.2.2.2.2.2.2.2.2.2.2.2.2.2.2.2.2.2.2.2.1
  have HS43_ := hs_ hb hHeld.2.2.2.2.2.2.2.2.2.2.2.2.2.2.2.2.2.2.2.2.2.2.2.2.2.2.2.2.2.2.2.2.2.2.2.2.2.2.2.2.2.2.2.1
  have HS44_ := hs_ hb hHeld.2.2.2.2.2.2.2.2.2.2.2.2.2.2.2.2.2.2.2.2.2.2.2.2.2.2.2.2.2.2.2.2.2.2.2.2.2.2.2.2.2.2.2.2.1
  have HS45_ := hs_ hb hHeld.2.2.2.2.2.2.2.2.2.2.2.2.2.2.2.2.2.2.2.2.2.2.2.2.2.2.2.2.2.2.2.2.2.2.2.2.2.2.2.2.2.2.2.2.2.1
  have HS46_ := hs_ hb hHeld.2.2.2.2.2.2.2.2.2.2.2.2.2.2.2.2.2.2.2.2.2.2.2.2.2.2.2.2.2.2.2.2.2.2.2.2.2.2.2.2.2.2.2.2.2.2.1
  have HS47_ := hs_ hb hHeld.2.2.2.2.2.2.2.2.2.2.2.2.2.2.2.2.2.2.2.2.2.2.2.2.2.2.2.2.2.2.2.2.2.2.2.2.2.2.2.2.2.2.2.2.2.2.2.1
  have HS48_ := hs_ hb hHeld.2.2.2.2.2.2.2.2.2.2.2.2.2.2.2.2.2.2.2.2.2.2.2.2.2.2.2.2.2.2.2.2.2.2.2.2.2.2.2.2.2.2.2.2.2.2.2.2.1
  have HS49_ := hs_ hb hHeld.2.2.2.2.2.2.2.2.2.2.2.2.2.2.2.2.2.2.2.2.2.2.2.2.2.2.2.2.2.2.2.2.2.2.2.2.2.2.2.2.2.2.2.2.2.2.2.2.2.1
  have HS50_ := hs_ hb hHeld.2.2.2.2.2.2.2.2.2.2.2.2.2.2.2.2.2.2.2.2.2.2.2.2.2.2.2.2.2.2.2.2.2.2.2.2.2.2.2.2.2.2.2.2.2.2.2.2.2.2.1
  have HS51_ := hs_ hb hHeld.2.2.2.2.2.2.2.2.2.2.2.2.2.2.2.2.2.2.2.2.2.2.2.2.2.2.2.2.2.2.2.2.2.2.2.2.2.2.2.2.2.2.2.2.2.2.2.2.2.2.2.1
  have HS52_ := hs_ hb hHeld.2.2.2.2.2.2.2.2.2.2.2.2.2.2.2.2.2.2.2.2.2.2.2.2.2.2.2.2.2.2.2.2.2.2.2.2.2.2.2.2.2.2.2.2.2.2.2.2.2.2.2.2.1
  have HS53_ := hs_ hb hHeld.2.2.2.2.2.2.2.2.2.2.2.2.2.2.2.2.2.2.2.2.2.2.2.2.2.2.2.2.2.2.2.2.2.2.2.2.2.2.2.2.2.2.2.2.2.2.2.2.2.2.2.2.2.1
  have HS54_ := hs_ hb hHeld.2.2.2.2.2.2.2.2.2.2.2.2.2.2.2.2.2.2.2.2.2.2.2.2.2.2.2.2.2.2.2.2.2.2.2.2.2.2.2.2.2.2.2.2.2.2.2.2.2.2.2.2.2.2.1
  have HS55_ := hs_ hb hHeld.2.2.2.2.2.2.2.2.2.2.2.2.2.2.2.2.2.2.2.2.2.2.2.2.2.2.2.2.2.2.2.2.2.2.2.2.2.2.2.2.2.2.2.2.2.2.2.2.2.2.2.2.2.2.2.1
  have HS56_ := hs_ hb hHeld.2.2.2.2.2.2.2.2.2.2.2.2.2.2.2.2.2.2.2.2.2.2.2.2.2.2.2.2.2.2.2.2.2.2.2.2.2.2.2.2.2.2.2.2.2.2.2.2.2.2.2.2.2.2.2.2.1
  have HS57_ := hs_ hb hHeld.2.2.2.2.2.2.2.2.2.2.2.2.2.2.2.2.2.2.2.2.2.2.2.2.2.2.2.2.2.2.2.2.2.2.2.2.2.2.2.2.2.2.2.2.2.2.2.2.2.2.2.2.2.2.2.2.2.1
  have HS58_ := hs_ hb hHeld.2.2.2.2.2.2.2.2.2.2.2.2.2.2.2.2.2.2.2.2.2.2.2.2.2.2.2.2.2.2.2.2.2.2.2.2.2.2.2.2.2.2.2.2.2.2.2.2.2.2.2.2.2.2.2.2.2.2.1
  have HS59_ := hs_ hb hHeld.2.2.2.2.2.2.2.2.2.2.2.2.2.2.2.2.2.2.2.2.2.2.2.2.2.2.2.2.2.2.2.2.2.2.2.2.2.2.2.2.2.2.2.2.2.2.2.2.2.2.2.2.2.2.2.2.2.2.2
  refine ⟨_, rfl, ?_⟩
  have n0_ := mkA (Kd.R_below (Kd.R_y HO_5.out) hb)
  have n1_ := mkA (Kd.R_below (Kd.R_y HO_7.out) hb)
  have n2_ := mkA (blk_below (blk_y BK261.out) hb)
  have n3_ := mkA (below_step (below_y HB.out) hb)
  clear HO_5 HO_7 BK261 HB
  have HO_5 := n0_
  have HO_7 := n1_
  have BK261 := n2_
  have HB := n3_
  clear n0_ n1_ n2_ n3_
  (try clear hb)
  (try clear hb2)
  (try clear hk)
  (try clear hi)
  refine hK.out _ _ ⟨HS0_, HS1_, HS2_, HS3_, HS4_, HS5_, HS6_, HS7_, HS8_, HS9_, HS10_, HS11_, HS12_, HS13_, HS14_, HS15_, HS16_, HS17_, HS18_, HS19_, HS20_, HS21_, HS22_, HS23_, HS24_, HS25_, HS26_, HS27_, HS28_, HS29_, HS30_, HS31_, HS32_, HS33_, HS34_, HS35_, HS36_, HS37_, HS38_, HS39_, HS40_, HS41_, HS42_, HS43_, HS44_, HS45_, HS46_, HS47_, HS48_, HS49_, HS50_, HS51_, HS52_, HS53_, HS54_, HS55_, HS56_, HS57_, HS58_, HS59_⟩ (fun hHeld => ?_)
  clear hK K
  refine norm_ (a' := ?_) ?_ ?_
  rotate_left
  ·show Act.put _ (some 47) _ = _
   simp only [Act.put, sA, s0, sS, i64_w, i32_w]
   rfl
  refine pu 19 48 HT_ ?_
  refine pu 20 49 HT_ ?_
  refine done_ (done_of HT_.out (by kernel_rfl)) ?_
  try go_wp2_with (first | ((with_reducible refine gate_load (t := 25) rfl ?_); refine load_row3 (t := 25) (g := gb261) ?hg BK261.out ?ho ?hb Try.underlying25 rfl ?hs ?_; (case hg => rfl); (case ho => refine ⟨_, rfl, ?_⟩; first | (with_reducible rfl) | (go_simp; done)); (case hb => (with_reducible repeat (first | refine blk_drewN ?_ _ | refine blk_drew ?_ | refine blk_alloc ?_ _)); with_reducible exact BK261.out); (case hs => kernel_rfl)))
  go_roundg k2
  case measure => have := HK1.out; have := HK2.out; omega
  case rel => exact ⟨(x8_2), (wrap64 (x9_2 + 1)), (by first | rfl | (simp; done) | (simp [*]; done)), (by first | rfl | (simp; done) | (simp [*]; done)), H', ⟨by have := HK1.out; have := HK2.out; omega⟩, ⟨by (with_reducible repeat (first | apply Kd.R_alloc | apply Kd.R_drewN | apply Kd.R_drew)); exact HO_5.out⟩, ⟨by (with_reducible repeat (first | apply Kd.R_alloc | apply Kd.R_drewN | apply Kd.R_drew)); exact HO_7.out⟩, ⟨by (with_reducible repeat (first | refine blk_drewN ?_ _ | refine blk_drew ?_ | refine blk_alloc ?_ _)); exact BK261.out⟩, ⟨by repeat (first | (with_reducible first | exact HB.out | apply below_alloc | apply pw_below_drewN | apply below_drew1 | refine below_set ?_ GE261.out) | exact HB.out)⟩⟩

end Go.Proofs.Ytcpojadlnpnbaaa.XRet
