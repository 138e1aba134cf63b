-- By a program of this work (xprint.py) over the translation; Lean checks it.
import Derived.Test.YtcpojadlnpnbaaaXRetx0
import Derived.Test.YtcpojadlnpnbaaaXRetx27
import Derived.Test.YtcpojadlnpnbaaaXRetx30
import Derived.Test.YtcpojadlnpnbaaaXRetx32
namespace Go.Proofs.Ytcpojadlnpnbaaa.XRet
open Go.RowKit Go.Proofs.YtcpojadlnpnbaaaW.PrintWords Go.Proofs.YtcpojadlnpnbaaaW.PrintLast Go.Proofs.YtcpojadlnpnbaaaW.PrintMore
attribute [local go_sem] max2_int min2_int max_two min_two max_three min_three max_four min_four   -- for this text's walks alone
set_option linter.unusedVariables false
set_option linter.unusedSimpArgs false

/-! ### newsreelref41_Apply: function 15 -/
def newsreelref41_Apply.l0 : Nat → List Int → List (S46) → Int → Int → Int → Int → Int → List (S43) → List (S29) → Option ((List (S46)))
 | 0, _, _, _, _, _, _, _, _, _ => none
 | k + 1, x5, x6, x7, x289000, x289001, x289002, x289003, x289004, x289005 => if x7 < (x5.length : Int) then (if 0 ≤ x7 then ((newsreelref15_Ep.f k x289000 x289001 x289002 x289003 x289004 x289005 (rd x5 x7)).bind fun bt296 => ((newsreelref41_Gone.f bt296.1 bt296.2.1 bt296.2.2.1 bt296.2.2.2.1 bt296.2.2.2.2.1 bt296.2.2.2.2.2.1 bt296.2.2.2.2.2.2.1 bt296.2.2.2.2.2.2.2.1 bt296.2.2.2.2.2.2.2.2.1 bt296.2.2.2.2.2.2.2.2.2.1 bt296.2.2.2.2.2.2.2.2.2.2.1 bt296.2.2.2.2.2.2.2.2.2.2.2.1 bt296.2.2.2.2.2.2.2.2.2.2.2.2.1 bt296.2.2.2.2.2.2.2.2.2.2.2.2.2.1 bt296.2.2.2.2.2.2.2.2.2.2.2.2.2.2.1 bt296.2.2.2.2.2.2.2.2.2.2.2.2.2.2.2.1 bt296.2.2.2.2.2.2.2.2.2.2.2.2.2.2.2.2.1 bt296.2.2.2.2.2.2.2.2.2.2.2.2.2.2.2.2.2.1 bt296.2.2.2.2.2.2.2.2.2.2.2.2.2.2.2.2.2.2.1 bt296.2.2.2.2.2.2.2.2.2.2.2.2.2.2.2.2.2.2.2.1).bind fun bt318 => (if x6.length < 488671834567 then (newsreelref41_Apply.l0 k x5 (x6 ++ [(⟨3, (⟨0, (⟨#[]⟩ : ByteArray), (⟨#[]⟩ : ByteArray), 0, 0⟩ : S43), (⟨bt318.1, bt318.2.1, bt318.2.2.1, bt318.2.2.2.1, bt318.2.2.2.2.1, bt318.2.2.2.2.2.1, bt318.2.2.2.2.2.2.1, bt318.2.2.2.2.2.2.2.1, bt318.2.2.2.2.2.2.2.2.1, bt318.2.2.2.2.2.2.2.2.2.1, bt318.2.2.2.2.2.2.2.2.2.2.1, bt318.2.2.2.2.2.2.2.2.2.2.2.1, bt318.2.2.2.2.2.2.2.2.2.2.2.2.1, bt318.2.2.2.2.2.2.2.2.2.2.2.2.2.1, bt318.2.2.2.2.2.2.2.2.2.2.2.2.2.2.1, bt318.2.2.2.2.2.2.2.2.2.2.2.2.2.2.2.1, bt318.2.2.2.2.2.2.2.2.2.2.2.2.2.2.2.2.1, bt318.2.2.2.2.2.2.2.2.2.2.2.2.2.2.2.2.2.1, bt318.2.2.2.2.2.2.2.2.2.2.2.2.2.2.2.2.2.2.1, bt318.2.2.2.2.2.2.2.2.2.2.2.2.2.2.2.2.2.2.2⟩ : S29), 0, 0⟩ : S46)]) (wrap64 (x7 + 1)) x289000 x289001 x289002 x289003 x289004 x289005) else (none)))) else (none)) else (some x6)
def newsreelref41_Apply.f (k : Nat) (a0_0 : Int) (a0_1 : Int) (a0_2 : Int) (a0_3 : Int) (l0_4 : List (S43)) (l0_5 : List (S29)) (a1 : Int) : Option ((List (S46))) := (newsreelref41_Over.f k a0_0 a0_1 a0_2 a0_3 l0_4 l0_5 a1).bind fun t289 => (newsreelref41_Apply.l0 k t289 (([] : List (S46))) 0 a0_0 a0_1 a0_2 a0_3 l0_4 l0_5)
theorem newsreelref41_Apply.mono_l : ∀ k, (∀ y0 y1 y2 y3 y4 y5 y6 y7 y8, LeO (newsreelref41_Apply.l0 k y0 y1 y2 y3 y4 y5 y6 y7 y8) (newsreelref41_Apply.l0 (k + 1) y0 y1 y2 y3 y4 y5 y6 y7 y8))
 | 0 => fun _ _ _ _ _ _ _ _ _ r h => by simp [newsreelref41_Apply.l0] at h
 | k + 1 => by
  have ih0 := newsreelref41_Apply.mono_l k
  ·intro y0 y1 y2 y3 y4 y5 y6 y7 y8
   unfold newsreelref41_Apply.l0
   repeat' first
   | (with_reducible exact ih0 _ _ _ _ _ _ _ _ _)
   | (with_reducible exact newsreelref15_Ep.mono _ _ _ _ _ _ _ _)
   | (with_reducible exact newsreelref41_Over.mono _ _ _ _ _ _ _ _)
   | (with_reducible exact LeO.refl _)
   | (with_reducible exact LeO.none _)
   | (with_reducible refine LeO.ite ?_ ?_)
   | (with_reducible refine LeO.bind ?_ (fun _ => ?_))
   | exact ih0 _ _ _ _ _ _ _ _ _
   | exact newsreelref15_Ep.mono _ _ _ _ _ _ _ _
   | exact newsreelref41_Over.mono _ _ _ _ _ _ _ _
   | exact LeO.none _
   | refine LeO.ite ?_ ?_
   | refine LeO.bind ?_ (fun _ => ?_)
theorem newsreelref41_Apply.mono : ∀ a0 a1 a2 a3 a4 a5 a6 k, LeO (newsreelref41_Apply.f k a0 a1 a2 a3 a4 a5 a6) (newsreelref41_Apply.f (k + 1) a0 a1 a2 a3 a4 a5 a6) := by
 intro a0 a1 a2 a3 a4 a5 a6 k
 have ih0 := newsreelref41_Apply.mono_l k
 unfold newsreelref41_Apply.f
 repeat' first
   | (with_reducible exact ih0 _ _ _ _ _ _ _ _ _)
   | (with_reducible exact newsreelref15_Ep.mono _ _ _ _ _ _ _ _)
   | (with_reducible exact newsreelref41_Over.mono _ _ _ _ _ _ _ _)
   | (with_reducible exact LeO.refl _)
   | (with_reducible exact LeO.none _)
   | (with_reducible refine LeO.ite ?_ ?_)
   | (with_reducible refine LeO.bind ?_ (fun _ => ?_))
   | exact ih0 _ _ _ _ _ _ _ _ _
   | exact newsreelref15_Ep.mono _ _ _ _ _ _ _ _
   | exact newsreelref41_Over.mono _ _ _ _ _ _ _ _
   | exact LeO.none _
   | refine LeO.ite ?_ ?_
   | refine LeO.bind ?_ (fun _ => ?_)
def newsreelref41_Apply.T6 : Bool × List (List Nat × List Nat) := (true, [([], []), ([], []), ([], []), ([1, 2], [1, 2]), ([3], [3]), ([0, 4], [0, 4]), ([5], [5]), ([6], [6]), ([6], [6]), ([], []), ([9, 7, 5, 0, 1, 2, 3, 4, 5, 6, 7, 9], [7, 9]), ([8, 10, 0, 1, 2, 3, 4, 5, 6, 7, 8, 9, 10], [8])])
def newsreelref41_Apply.B6 : List Nat := [0, 0, 0, 6, 14, 31, 63, 127, 127, 0, 767, 2047]
theorem newsreelref41_Apply.tab6 : rtab .any (opsOf Try.f15 6) = newsreelref41_Apply.T6 := by kernel_rfl
theorem newsreelref41_Apply.bits6 : waitsOk newsreelref41_Apply.T6.2 newsreelref41_Apply.B6 = true := by kernel_rfl
set_option maxHeartbeats 2000000 in
set_option maxRecDepth 100000 in
theorem newsreelref41_Apply.calls (k : Nat) (a0_0 : Int) (a0_1 : Int) (a0_2 : Int) (a0_3 : Int) (A0_4 : Option Addr) (c0_4 : Nat) (l0_4 : List (S43)) (A0_5 : Option Addr) (c0_5 : Nat) (l0_5 : List (S29)) (a1 : Int) (r : List (S46)) (w : World) (hr0_4 : Kd.C k43 w A0_4 l0_4.length l0_4) (hc0_4 : l0_4.length ≤ c0_4) (hr0_5 : Kd.C k29 w A0_5 l0_5.length l0_5) (hc0_5 : l0_5.length ≤ c0_5) (h : newsreelref41_Apply.f k a0_0 a0_1 a0_2 a0_3 l0_4 l0_5 a1 = some r) :
  Calls Try.prog 15 #[.agg #[.int .i64 a0_0, .int .i64 a0_1, .int .i64 a0_2, .int .i64 a0_3, .slice A0_4 l0_4.length c0_4, .slice A0_5 l0_5.length c0_5], .int .i64 a1] w fun e w' => ∃ v0_ : Value, e = .returned (v0_) ∧ Kd.R k46 46 w' w.heap.size (fun _ => True) v0_ r ∧ Below w.heap.size w w' := by
 have hu25 := Try.underlying25
 have hu29 := Try.underlying29
 have hu46 := Try.underlying46
 have HR0_4 := mkA hr0_4
 have HC0_4 := mkA hc0_4
 clear hr0_4 hc0_4
 have HR0_5 := mkA hr0_5
 have HC0_5 := mkA hc0_5
 clear hr0_5 hc0_5
 have HB := mkA (Below.refl w.heap.size w)
 have H : ((newsreelref41_Over.f k a0_0 a0_1 a0_2 a0_3 l0_4 l0_5 a1).bind fun t289 => (newsreelref41_Apply.l0 k t289 (([] : List (S46))) 0 a0_0 a0_1 a0_2 a0_3 l0_4 l0_5)) = some r := h
 clear h
 replace H := Option.bind_eq_some_iff.mp H
 obtain ⟨t289, A30, H⟩ := H
 replace H : (newsreelref41_Apply.l0 k t289 (([] : List (S46))) 0 a0_0 a0_1 a0_2 a0_3 l0_4 l0_5) = some r := H
 have A3 := mkA A30
 clear A30
 obtain ⟨y292, hy292⟩ : ∃ y_ : List (S46), y_ = (([] : List (S46))) := ⟨_, rfl⟩
 replace H : (newsreelref41_Apply.l0 k t289 y292 0 a0_0 a0_1 a0_2 a0_3 l0_4 l0_5) = some r := by first | (rw [hy292]; with_reducible exact H) | (have H2_ := (Option.bind_some _ _).symm.trans H; rw [hy292]; with_reducible exact H2_) | (have H2_ := (Option.bind_some _ _).symm.trans H; with_reducible exact H2_) | with_reducible exact H | (rw [hy292]; exact H) | exact H
 have Ny292 := mkA hy292
 clear hy292
 have H' := mkA H
 clear H
 go_enter Try.func15, Try.ntmps15
 go_wp2_with (first | ((with_reducible refine gate_load (t := 25) rfl ?_); refine load_row3 (t := 25) (g := gb288) ?hg BK288.out ?ho ?hb Try.underlying25 rfl ?hs ?_; (case hg => rfl); (case ho => refine ⟨_, rfl, ?_⟩; first | (with_reducible rfl) | (go_simp; done)); (case hb => (with_reducible repeat (first | refine blk_drewN ?_ _ | refine blk_drew ?_ | refine blk_alloc ?_ _)); with_reducible exact BK288.out); (case hs => kernel_rfl)) | ((with_reducible refine gate_dst (N := 2) rfl ?_); refine box_event ?hg (N := 2) ?hd (cs := #[.int .i64 a0_0, .int .i64 a0_1, .int .i64 a0_2, .int .i64 a0_3, .slice A0_4 l0_4.length c0_4, .slice A0_5 l0_5.length c0_5]) (t := 25) ?hr ?_; (case hd => rfl); (case hg => rfl); (case hr => first | (go_simp; done) | (go_simp; rfl)); intro gb288 hg w4 hbox hb; have n0_ := mkA (below_step (below_y HB.out) hb); have n1_ := mkA (hbox); have n2_ := mkA ((gz hg HB.out : w.heap.size ≤ gb288)); have n3_ := mkA ((gz hg HB.out : w.heap.size ≤ gb288)); clear HB; have HB := n0_; have BK288 := n1_; have GW288 := n2_; have GE288 := n3_; clear n0_ n1_ n2_ n3_; clear hb hbox hg; have hcz5_0 := bc BK288.out 0 _ rfl; have hcz5_1 := bc BK288.out 1 _ rfl; have hcz5_2 := bc BK288.out 2 _ rfl; have hcz5_3 := bc BK288.out 3 _ rfl; have hcz5_4 := bc BK288.out 4 _ rfl; have hcz5_5 := bc BK288.out 5 _ rfl; have hfz5_0 := blk_frozen BK288.out 0; have hfz5_1 := blk_frozen BK288.out 1; have hfz5_2 := blk_frozen BK288.out 2; have hfz5_3 := blk_frozen BK288.out 3; have hfz5_4 := blk_frozen BK288.out 4; have hfz5_5 := blk_frozen BK288.out 5) | ((with_reducible refine gate_callee (f := 12) rfl ?_); refine goesL_ (some 12) rfl rfl Try.func12 (by kernel_rfl) rfl #[.agg #[.int .i64 a0_0, .int .i64 a0_1, .int .i64 a0_2, .int .i64 a0_3, .slice A0_4 l0_4.length c0_4, .slice A0_5 l0_5.length c0_5], .int .i64 a1] rfl ca ?_; (with_reducible refine (newsreelref41_Over.calls _ _ _ _ _ _ _ _ _ _ _ _ _ _ ?side1 ?side2 ?side3 ?side4 A3.out).mono ?_); (case side1 => exact cz HR0_4.out HB.out); (case side2 => exact HC0_4.out); (case side3 => exact cz HR0_5.out HB.out); (case side4 => exact HC0_5.out); rintro e w6 ⟨v290, rfl, ho0, hb⟩; refine ⟨_, rfl, ?_⟩; have n0_ := mkA (Kd.R_lower ho0 (below_size (below_y HB.out))); have n1_ := mkA (blk_below (blk_y BK288.out) hb); have n2_ := mkA (below_step (below_y HB.out) hb); clear BK288; clear HB; have HO291 := n0_; have BK288 := n1_; have HB := n2_; clear n0_ n1_ n2_; (try clear hb); (try clear hb2); (try clear hk); (try clear hi); (try clear ho0)) | ((with_reducible refine gate_dst (N := 13) rfl ?_); refine Kd.R_lit k46 _ 46 ?hg (N := 13) ?hd (xs := ([] : List (S46))) (inner := []) (ok := fun _ => True) (okp := fun _ => True) ?hr ?hp (fun _ hk => hk) trivial (Below.refl _ _) (Nat.le_refl _) (by simp) ?_; (case hd => rfl); (case hg => rfl); (case hr => first | (go_simp; done) | (go_simp; rfl)); (case hp => exact (Reps.none _ _)); intro v293 w7 ho8 hb hg_ hnew_; clear hg_ hnew_; (first | rw [← Ny292.out] at ho8 | (simp only [Int.reduceToNat] at ho8; rw [← Ny292.out] at ho8)); have n0_ := mkA (Kd.R_below (Kd.R_y HO291.out) hb); have n1_ := mkA (Kd.R_lower ho8 (below_size (below_y HB.out))); have n2_ := mkA (blk_below (blk_y BK288.out) hb); have n3_ := mkA (below_step (below_y HB.out) hb); clear HO291; clear BK288; clear HB; have HO291 := n0_; have HO294 := n1_; have BK288 := n2_; have HB := n3_; clear n0_ n1_ n2_ n3_; clear hb ho8))
 go_loopg [6, 7] k (fun kq v6 v7 w' => ∃ (x6_1 : List (S46)) (x7_1 : Int), v7 = .int .i64 x7_1 ∧ Aside0 (newsreelref41_Apply.l0 kq t289 x6_1 x7_1 a0_0 a0_1 a0_2 a0_3 l0_4 l0_5 = some r) ∧ Aside0 (kq ≤ k) ∧ Aside0 (Kd.R (Kd.int .i64) 3 w' w.heap.size (fun _ => True) v290 t289) ∧ Aside0 (Kd.R k46 46 w' w.heap.size (fun _ => True) v6 x6_1) ∧ Aside0 (w'.heap[gb288]? = some (.cells #[.int .i64 a0_0, .int .i64 a0_1, .int .i64 a0_2, .int .i64 a0_3, (.slice A0_4 l0_4.length c0_4), (.slice A0_5 l0_5.length c0_5)] 25 (0, 0))) ∧ Aside0 (Below w.heap.size w w'))
 case atStart => exact ⟨(y292), (0), (by first | rfl | (simp; done) | (simp [*]; done)), H', ⟨Nat.le_refl _⟩, ⟨by (with_reducible repeat (first | apply Kd.R_alloc | apply Kd.R_drewN | apply Kd.R_drew)); exact HO291.out⟩, ⟨by (with_reducible repeat (first | apply Kd.R_alloc | apply Kd.R_drewN | apply Kd.R_drew)); exact HO294.out⟩, ⟨by (with_reducible repeat (first | refine blk_drewN ?_ _ | refine blk_drew ?_ | refine blk_alloc ?_ _)); exact BK288.out⟩, ⟨by repeat (first | (with_reducible first | exact HB.out | apply below_alloc | apply pw_below_drewN | apply below_drew1 | refine below_set ?_ GE288.out) | exact HB.out)⟩⟩
 clear H'
 try clear c1
 try clear p2
 try clear hcz5_0
 try clear hcz5_1
 try clear hcz5_2
 try clear hcz5_3
 try clear hcz5_4
 try clear hcz5_5
 try clear hfz5_0
 try clear hfz5_1
 try clear hfz5_2
 try clear hfz5_3
 try clear hfz5_4
 try clear hfz5_5
 obtain ⟨x6_1, x7_1, rfl, HA, HK1, HO_5, HO_6, BK288, HB⟩ := hrel
 rcases gk with _ | k1
 ·exact absurd HA.out (by simp [newsreelref41_Apply.l0])
 have H := HA.out
 clear HA
 simp only [newsreelref41_Apply.l0] at H
 by_cases c9 : x7_1 < (t289.length : Int)
 rotate_left
 ·rw [if_neg c9] at H
  have c9b0 : decide (x7_1 < (t289.length : Int)) = false := decide_eq_false c9
  clear c9
  obtain rfl := Option.some.inj H
  obtain ⟨Ao43, co43, eo43⟩ := Kd.R_slice HO_5.out
  subst eo43
  go_wp2_with (first | ((with_reducible refine gate_load (t := 25) rfl ?_); refine load_row3 (t := 25) (g := gb288) ?hg BK288.out ?ho ?hb Try.underlying25 rfl ?hs ?_; (case hg => rfl); (case ho => refine ⟨_, rfl, ?_⟩; first | (with_reducible rfl) | (go_simp; done)); (case hb => (with_reducible repeat (first | refine blk_drewN ?_ _ | refine blk_drew ?_ | refine blk_alloc ?_ _)); with_reducible exact BK288.out); (case hs => kernel_rfl)))
  go_ret
  exact ⟨_, by first | rfl | (simp [errW_none, errW_some] <;> rfl) | (simp [*, errW_none, errW_some] <;> rfl), by (with_reducible repeat (first | apply Kd.R_alloc | apply Kd.R_drewN | apply Kd.R_drew)); exact HO_6.out, by repeat (first | (with_reducible first | exact HB.out | apply below_alloc | apply pw_below_drewN | apply below_drew1 | refine below_set ?_ GE288.out) | exact HB.out)⟩
 rw [if_pos c9] at H
 have c9b0 : decide (x7_1 < (t289.length : Int)) = true := decide_eq_true c9
 clear c9
 by_cases c10 : 0 ≤ x7_1
 rotate_left
 ·rw [if_neg c10] at H
  exact absurd H (by simp)
 rw [if_pos c10] at H
 have c10b0 : decide (0 ≤ x7_1) = true := decide_eq_true c10
 clear c10
 replace H := Option.bind_eq_some_iff.mp H
 obtain ⟨⟨t296, t297, t298, t299, t300, t301, t302, t303, t304, t305, t306, t307, t308, t309, t310, t311, t312, t313, t314, t315, t316⟩, A110, H⟩ := H
 replace H : ((newsreelref41_Gone.f t296 t297 t298 t299 t300 t301 t302 t303 t304 t305 t306 t307 t308 t309 t310 t311 t312 t313 t314 t315).bind fun bt318 => (if x6_1.length < 488671834567 then (newsreelref41_Apply.l0 k1 t289 (x6_1 ++ [(⟨3, (⟨0, (⟨#[]⟩ : ByteArray), (⟨#[]⟩ : ByteArray), 0, 0⟩ : S43), (⟨bt318.1, bt318.2.1, bt318.2.2.1, bt318.2.2.2.1, bt318.2.2.2.2.1, bt318.2.2.2.2.2.1, bt318.2.2.2.2.2.2.1, bt318.2.2.2.2.2.2.2.1, bt318.2.2.2.2.2.2.2.2.1, bt318.2.2.2.2.2.2.2.2.2.1, bt318.2.2.2.2.2.2.2.2.2.2.1, bt318.2.2.2.2.2.2.2.2.2.2.2.1, bt318.2.2.2.2.2.2.2.2.2.2.2.2.1, bt318.2.2.2.2.2.2.2.2.2.2.2.2.2.1, bt318.2.2.2.2.2.2.2.2.2.2.2.2.2.2.1, bt318.2.2.2.2.2.2.2.2.2.2.2.2.2.2.2.1, bt318.2.2.2.2.2.2.2.2.2.2.2.2.2.2.2.2.1, bt318.2.2.2.2.2.2.2.2.2.2.2.2.2.2.2.2.2.1, bt318.2.2.2.2.2.2.2.2.2.2.2.2.2.2.2.2.2.2.1, bt318.2.2.2.2.2.2.2.2.2.2.2.2.2.2.2.2.2.2.2⟩ : S29), 0, 0⟩ : S46)]) (wrap64 (x7_1 + 1)) a0_0 a0_1 a0_2 a0_3 l0_4 l0_5) else (none))) = some r := H
 have A11 := mkA A110
 clear A110
 replace H := Option.bind_eq_some_iff.mp H
 obtain ⟨⟨t318, t319, t320, t321, t322, t323, t324, t325, t326, t327, t328, t329, t330, t331, t332, t333, t334, t335, t336, t337⟩, A120, H⟩ := H
 replace H : (if x6_1.length < 488671834567 then (newsreelref41_Apply.l0 k1 t289 (x6_1 ++ [(⟨3, (⟨0, (⟨#[]⟩ : ByteArray), (⟨#[]⟩ : ByteArray), 0, 0⟩ : S43), (⟨t318, t319, t320, t321, t322, t323, t324, t325, t326, t327, t328, t329, t330, t331, t332, t333, t334, t335, t336, t337⟩ : S29), 0, 0⟩ : S46)]) (wrap64 (x7_1 + 1)) a0_0 a0_1 a0_2 a0_3 l0_4 l0_5) else (none)) = some r := H
 have A12 := mkA A120
 clear A120
 by_cases c13 : x6_1.length < 488671834567
 rotate_left
 ·rw [if_neg c13] at H
  exact absurd H (by simp)
 rw [if_pos c13] at H
 have LMc13 := mkA c13
 clear c13
 obtain ⟨y338, hy338⟩ : ∃ y_ : List (S46), y_ = (x6_1 ++ [(⟨3, (⟨0, (⟨#[]⟩ : ByteArray), (⟨#[]⟩ : ByteArray), 0, 0⟩ : S43), (⟨t318, t319, t320, t321, t322, t323, t324, t325, t326, t327, t328, t329, t330, t331, t332, t333, t334, t335, t336, t337⟩ : S29), 0, 0⟩ : S46)]) := ⟨_, rfl⟩
 replace H : (newsreelref41_Apply.l0 k1 t289 y338 (wrap64 (x7_1 + 1)) a0_0 a0_1 a0_2 a0_3 l0_4 l0_5) = some r := by first | (rw [hy338]; with_reducible exact H) | (have H2_ := (Option.bind_some _ _).symm.trans H; rw [hy338]; with_reducible exact H2_) | (have H2_ := (Option.bind_some _ _).symm.trans H; with_reducible exact H2_) | with_reducible exact H | (rw [hy338]; exact H) | exact H
 have Ny338 := mkA hy338
 clear hy338
 have H' := mkA H
 clear H
 obtain ⟨Ao14, co14, eo14⟩ := Kd.R_slice HO_5.out
 subst eo14
 try go_wp2_with (first | ((with_reducible refine gate_load (t := 25) rfl ?_); refine load_row3 (t := 25) (g := gb288) ?hg BK288.out ?ho ?hb Try.underlying25 rfl ?hs ?_; (case hg => rfl); (case ho => refine ⟨_, rfl, ?_⟩; first | (with_reducible rfl) | (go_simp; done)); (case hb => (with_reducible repeat (first | refine blk_drewN ?_ _ | refine blk_drew ?_ | refine blk_alloc ?_ _)); with_reducible exact BK288.out); (case hs => kernel_rfl)) | ((with_reducible refine gate_load (t := 29) rfl ?_); refine load_row3 (t := 29) (g := gb317) ?hg BK317.out ?ho ?hb Try.underlying29 rfl ?hs ?_; (case hg => rfl); (case ho => refine ⟨_, rfl, ?_⟩; first | (with_reducible rfl) | (go_simp; done)); (case hb => (with_reducible repeat (first | refine blk_drewN ?_ _ | refine blk_drew ?_ | refine blk_alloc ?_ _)); with_reducible exact BK317.out); (case hs => kernel_rfl)))
 have n0_ := mkA (Kd.R_drew HO_5.out)
 have n1_ := mkA (Kd.R_drew HO_6.out)
 have n2_ := mkA (blk_drew BK288.out)
 have n3_ := mkA (below_drew1 HB.out)
 clear HO_5 HO_6 BK288 HB
 have HO_5 := n0_
 have HO_6 := n1_
 have BK288 := n2_
 have HB := n3_
 clear n0_ n1_ n2_ n3_
 have p295 : 0 ≤ (x7_1 : Int) := odt
 have q295 : x7_1 < (t289.length : Int) := odt
 obtain ⟨ad295, e295, hx295_0⟩ := Kd.at_int (Kd.R_reads' HO_5.out).2.2 x7_1 p295 q295
 cases e295
 replace p295 := eq_true p295
 replace q295 := eq_true q295
 refine start_ (n := 12) (S := fun w' => w'.cell? ⟨gb288, 0, none⟩ = some (.int .i64 a0_0) ∧ w'.cell? ⟨gb288, 1, none⟩ = some (.int .i64 a0_1) ∧ w'.cell? ⟨gb288, 2, none⟩ = some (.int .i64 a0_2) ∧ w'.cell? ⟨gb288, 3, none⟩ = some (.int .i64 a0_3) ∧ w'.cell? ⟨gb288, 4, none⟩ = some (.slice A0_4 l0_4.length c0_4) ∧ w'.cell? ⟨gb288, 5, none⟩ = some (.slice A0_5 l0_5.length c0_5) ∧ w'.cell? (ad295.add (x7_1).toNat) = some (.int .i64 (rd t289 x7_1))) (ds := []) #[false, false, false, false, false, false, false, false, false, false, false, false] (by kernel_rfl) rfl rfl ⟨(blk_cell BK288.out 0).trans rfl, (blk_cell BK288.out 1).trans rfl, (blk_cell BK288.out 2).trans rfl, (blk_cell BK288.out 3).trans rfl, (blk_cell BK288.out 4).trans rfl, (blk_cell BK288.out 5).trans rfl, hx295_0⟩ (fun hHeld => ?_); refine with_tabW newsreelref41_Apply.tab6 newsreelref41_Apply.bits6 (fun HT_ HW_ => ?_)
 generalize wr.drew = w15 at HO_5 HO_6 BK288 HB hx295_0 hHeld ⊢
 refine pu 1 22 HT_ ?_
 refine pu 2 23 HT_ ?_
 refine pu 3 24 HT_ ?_
 refine take_ (i := 0) (N := some 21) (v := ?_) (a' := ?_) #[true, true, true, true, false, false, false, false, false, false, false, false] rfl rfl (take_ofW HT_.out HW_.out (by kernel_rfl)) (fun _ _ _ h => h) (Or.inl ⟨by rfl, ?_⟩) hHeld ?_ ?_
 rotate_left
 ·rintro w' ⟨s0, s1, s2, s3, s4, s5, s6⟩
  first | (have hz_ := fun (a : Act) (o : Oper) (x : Operand) (ho : o.op = .load 25 x) (hx : a.eval x = _) => exec_load_at (P := Try.prog) (W := w') (cs := [_, _, _, _, _]) ho hx Try.underlying25 rfl (by kernel_rfl) s0 ⟨s1, s2, s3, s4, s5, trivial⟩; refine (hz_ _ _ (.tmp 2) ?_ ?_).trans ?_; (focus rfl); (focus (first | (with_reducible rfl) | (go_simp; done))); with_reducible rfl) | (go_simp; with_reducible rfl)
 rotate_left
 ·simp only [Act.put, sA, s0, sS, i64_w, i32_w]
  rfl
 refine tk 4 25 HT_ HW_ hHeld ?_
 refine join_ (σ := Nat) 2 #[true, true, true, true, true, true, true, true, true, true, false, false] (fun s_ => [(26, .tuple #[.agg #[.int .i64 t296, .int .i64 t297, .string t298, .string t299, .string t300, .int .i64 t301, .int .i64 t302, .int .i64 t303, .int .i64 t304, .bool t305, .int .i64 t306, .int .i64 t307, .int .i64 t308, .string t309, .int .i64 t310, .int .i64 t311, .string t312, .int .i64 t313, .int .i64 t314, .string t315], .bool t316]), (8, .pointer (some ⟨s_, 0, none⟩)), (20, .tuple #[.agg #[.int .i64 t296, .int .i64 t297, .string t298, .string t299, .string t300, .int .i64 t301, .int .i64 t302, .int .i64 t303, .int .i64 t304, .bool t305, .int .i64 t306, .int .i64 t307, .int .i64 t308, .string t309, .int .i64 t310, .int .i64 t311, .string t312, .int .i64 t313, .int .i64 t314, .string t315], .bool t316]), (27, .agg #[.int .i64 t296, .int .i64 t297, .string t298, .string t299, .string t300, .int .i64 t301, .int .i64 t302, .int .i64 t303, .int .i64 t304, .bool t305, .int .i64 t306, .int .i64 t307, .int .i64 t308, .string t309, .int .i64 t310, .int .i64 t311, .string t312, .int .i64 t313, .int .i64 t314, .string t315]), (28, .bool t316)]) (fun s_ w' => (w'.cell? ⟨gb288, 0, none⟩ = some (.int .i64 a0_0) ∧ w'.cell? ⟨gb288, 1, none⟩ = some (.int .i64 a0_1) ∧ w'.cell? ⟨gb288, 2, none⟩ = some (.int .i64 a0_2) ∧ w'.cell? ⟨gb288, 3, none⟩ = some (.int .i64 a0_3) ∧ w'.cell? ⟨gb288, 4, none⟩ = some (.slice A0_4 l0_4.length c0_4) ∧ w'.cell? ⟨gb288, 5, none⟩ = some (.slice A0_5 l0_5.length c0_5) ∧ w'.cell? (ad295.add (x7_1).toNat) = some (.int .i64 (rd t289 x7_1))) ∧ (Kd.R (Kd.int .i64) 3 w' w.heap.size (fun _ => True) (.slice (some ad295) t289.length co14) t289) ∧ (Kd.R k46 46 w' w.heap.size (fun _ => True) u6 x6_1) ∧ (w'.heap[gb288]? = some (.cells #[.int .i64 a0_0, .int .i64 a0_1, .int .i64 a0_2, .int .i64 a0_3, .slice A0_4 l0_4.length c0_4, .slice A0_5 l0_5.length c0_5] 25 (0, 0))) ∧ (w'.heap[s_]? = some (.cells #[.int .i64 0, .int .i64 0, .string (⟨#[]⟩ : ByteArray), .string (⟨#[]⟩ : ByteArray), .string (⟨#[]⟩ : ByteArray), .int .i64 0, .int .i64 0, .int .i64 0, .int .i64 0, .bool false, .int .i64 0, .int .i64 0, .int .i64 0, .string (⟨#[]⟩ : ByteArray), .int .i64 0, .int .i64 0, .string (⟨#[]⟩ : ByteArray), .int .i64 0, .int .i64 0, .string (⟨#[]⟩ : ByteArray)] 29 (0, 0))) ∧ (w.heap.size ≤ s_) ∧ (w.heap.size ≤ s_) ∧ (gb288 ≠ s_) ∧ (s_ ≠ gb288) ∧ (Below w.heap.size w w')) ?_ ?_
 rotate_left
 ·intro hCont
  refine two_ (i := 5) (j := 9) (Ni := some 26) (Nj := some 8) #[true, true, true, true, true, true, false, false, false, false, false, false] #[true, true, true, true, true, false, false, false, false, true, false, false] rfl rfl rfl rfl (two_of HT_.out (by kernel_rfl)) (by decide) (by decide) (fun K hK => ?_) (fun K hK => ?_)
  ·skip
   refine goes_ Try.func17 (by kernel_rfl) rfl #[.agg #[.int .i64 a0_0, .int .i64 a0_1, .int .i64 a0_2, .int .i64 a0_3, .slice A0_4 l0_4.length c0_4, .slice A0_5 l0_5.length c0_5], .int .i64 (rd t289 x7_1)] (by rfl) rfl rfl ca ?_
   with_reducible refine (newsreelref15_Ep.calls _ _ _ _ _ _ _ _ _ _ _ _ _ _ _ _ _ _ _ _ _ _ _ _ _ _ _ _ _ _ _ _ _ _ ?side1 ?side2 ?side3 ?side4 A11.out).mono ?_
   (case side1 => exact cz HR0_4.out HB.out)
   (case side2 => exact HC0_4.out)
   (case side3 => exact cz HR0_5.out HB.out)
   (case side4 => exact HC0_5.out)
   rintro e w16 ⟨rfl, hb⟩
   have hbk_w16 := mkA hb
   have HS6_ := hs_ hb hHeld.2.2.2.2.2.2
   refine ⟨_, rfl, ?_⟩
   have n0_ := mkA (Kd.R_below (Kd.R_y HO_5.out) hb)
   have n1_ := mkA (Kd.R_below (Kd.R_y HO_6.out) hb)
   have n2_ := mkA (blk_below (blk_y BK288.out) hb)
   have n3_ := mkA (below_step (below_y HB.out) hb)
   clear HO_5 HO_6 BK288 HB
   have HO_5 := n0_
   have HO_6 := n1_
   have BK288 := n2_
   have HB := n3_
   clear n0_ n1_ n2_ n3_
   (try clear hb)
   (try clear hb2)
   (try clear hk)
   (try clear hi)
   refine hK.out _ _ ⟨(blk_cell BK288.out 0).trans rfl, (blk_cell BK288.out 1).trans rfl, (blk_cell BK288.out 2).trans rfl, (blk_cell BK288.out 3).trans rfl, (blk_cell BK288.out 4).trans rfl, (blk_cell BK288.out 5).trans rfl, HS6_⟩ (fun hHeld => ?_)
   clear hK K
   refine norm_ (a' := ?_) ?_ ?_
   rotate_left
   ·show Act.put _ (some 26) _ = _
    simp only [Act.put, sA, s0, sS, i64_w, i32_w]
    rfl
   refine pu 6 20 HT_ ?_
   refine pu 7 27 HT_ ?_
   refine pu 8 28 HT_ ?_
   refine one_ (i := 9) (N := some 8) #[true, true, true, true, true, true, true, true, true, true, false, false] rfl rfl (one_of HT_.out (by kernel_rfl)) (by decide) (fun K hK => ?_)
   refine box_step ?hg (N := 8) ?hd (cs := #[.int .i64 0, .int .i64 0, .string (⟨#[]⟩ : ByteArray), .string (⟨#[]⟩ : ByteArray), .string (⟨#[]⟩ : ByteArray), .int .i64 0, .int .i64 0, .int .i64 0, .int .i64 0, .bool false, .int .i64 0, .int .i64 0, .int .i64 0, .string (⟨#[]⟩ : ByteArray), .int .i64 0, .int .i64 0, .string (⟨#[]⟩ : ByteArray), .int .i64 0, .int .i64 0, .string (⟨#[]⟩ : ByteArray)]) (t := 29) ?hr ?_; (case hd => rfl); (case hg => rfl); (case hr => first | (go_simp; done) | (go_simp; rfl))
   intro gb317 hg w17 hbox hb
   have HS6_ := hs_ hb hHeld.2.2.2.2.2.2
   have n0_ := mkA (Kd.R_below (Kd.R_y HO_5.out) hb)
   have n1_ := mkA (Kd.R_below (Kd.R_y HO_6.out) hb)
   have n2_ := mkA (blk_below (blk_y BK288.out) hb)
   have n3_ := mkA (below_step (below_y HB.out) hb)
   have n4_ := mkA (hbox)
   have n5_ := mkA ((gz hg HB.out : w.heap.size ≤ gb317))
   have n6_ := mkA ((gz hg HB.out : w.heap.size ≤ gb317))
   have n7_ := mkA ((gn hg BK288.out : gb288 ≠ gb317))
   have n8_ := mkA ((gm hg BK288.out : gb317 ≠ gb288))
   clear HO_5 HO_6 BK288 HB
   have HO_5 := n0_
   have HO_6 := n1_
   have BK288 := n2_
   have HB := n3_
   have BK317 := n4_
   have GW317 := n5_
   have GE317 := n6_
   have NB288_317 := n7_
   have NB317_288 := n8_
   clear n0_ n1_ n2_ n3_ n4_ n5_ n6_ n7_ n8_ hb hbox hg
   refine hK.out _ _ ⟨(blk_cell BK288.out 0).trans rfl, (blk_cell BK288.out 1).trans rfl, (blk_cell BK288.out 2).trans rfl, (blk_cell BK288.out 3).trans rfl, (blk_cell BK288.out 4).trans rfl, (blk_cell BK288.out 5).trans rfl, HS6_⟩ (fun hHeld => ?_)
   clear hK K
   refine norm_ (a' := ?_) ?_ ?_
   rotate_left
   ·show Act.put _ (some 8) _ = _
    simp only [Act.put, sA, s0, sS, i64_w, i32_w]
    rfl
   exact norm_ (by simp only [putAll, Act.put, sA, s0, sS]) (hCont (gb317) _ ⟨hHeld, (Kd.R_y HO_5.out), (Kd.R_y HO_6.out), (blk_y BK288.out), (blk_y BK317.out), GW317.out, GE317.out, NB288_317.out, NB317_288.out, (below_y HB.out)⟩)
  ·skip
   refine box_step ?hg (N := 8) ?hd (cs := #[.int .i64 0, .int .i64 0, .string (⟨#[]⟩ : ByteArray), .string (⟨#[]⟩ : ByteArray), .string (⟨#[]⟩ : ByteArray), .int .i64 0, .int .i64 0, .int .i64 0, .int .i64 0, .bool false, .int .i64 0, .int .i64 0, .int .i64 0, .string (⟨#[]⟩ : ByteArray), .int .i64 0, .int .i64 0, .string (⟨#[]⟩ : ByteArray), .int .i64 0, .int .i64 0, .string (⟨#[]⟩ : ByteArray)]) (t := 29) ?hr ?_; (case hd => rfl); (case hg => rfl); (case hr => first | (go_simp; done) | (go_simp; rfl))
   intro gb317 hg w16 hbox hb
   have HS6_ := hs_ hb hHeld.2.2.2.2.2.2
   have n0_ := mkA (Kd.R_below (Kd.R_y HO_5.out) hb)
   have n1_ := mkA (Kd.R_below (Kd.R_y HO_6.out) hb)
   have n2_ := mkA (blk_below (blk_y BK288.out) hb)
   have n3_ := mkA (below_step (below_y HB.out) hb)
   have n4_ := mkA (hbox)
   have n5_ := mkA ((gz hg HB.out : w.heap.size ≤ gb317))
   have n6_ := mkA ((gz hg HB.out : w.heap.size ≤ gb317))
   have n7_ := mkA ((gn hg BK288.out : gb288 ≠ gb317))
   have n8_ := mkA ((gm hg BK288.out : gb317 ≠ gb288))
   clear HO_5 HO_6 BK288 HB
   have HO_5 := n0_
   have HO_6 := n1_
   have BK288 := n2_
   have HB := n3_
   have BK317 := n4_
   have GW317 := n5_
   have GE317 := n6_
   have NB288_317 := n7_
   have NB317_288 := n8_
   clear n0_ n1_ n2_ n3_ n4_ n5_ n6_ n7_ n8_ hb hbox hg
   refine hK.out _ _ ⟨(blk_cell BK288.out 0).trans rfl, (blk_cell BK288.out 1).trans rfl, (blk_cell BK288.out 2).trans rfl, (blk_cell BK288.out 3).trans rfl, (blk_cell BK288.out 4).trans rfl, (blk_cell BK288.out 5).trans rfl, HS6_⟩ (fun hHeld => ?_)
   clear hK K
   refine norm_ (a' := ?_) ?_ ?_
   rotate_left
   ·show Act.put _ (some 8) _ = _
    simp only [Act.put, sA, s0, sS, i64_w, i32_w]
    rfl
   refine one_ (i := 5) (N := some 26) #[true, true, true, true, true, true, false, false, false, true, false, false] rfl rfl (one_of HT_.out (by kernel_rfl)) (by decide) (fun K hK => ?_)
   refine goes_ Try.func17 (by kernel_rfl) rfl #[.agg #[.int .i64 a0_0, .int .i64 a0_1, .int .i64 a0_2, .int .i64 a0_3, .slice A0_4 l0_4.length c0_4, .slice A0_5 l0_5.length c0_5], .int .i64 (rd t289 x7_1)] (by rfl) rfl rfl ca ?_
   with_reducible refine (newsreelref15_Ep.calls _ _ _ _ _ _ _ _ _ _ _ _ _ _ _ _ _ _ _ _ _ _ _ _ _ _ _ _ _ _ _ _ _ _ ?side1 ?side2 ?side3 ?side4 A11.out).mono ?_
   (case side1 => exact cz HR0_4.out HB.out)
   (case side2 => exact HC0_4.out)
   (case side3 => exact cz HR0_5.out HB.out)
   (case side4 => exact HC0_5.out)
   rintro e w17 ⟨rfl, hb⟩
   have hbk_w17 := mkA hb
   have HS6_ := hs_ hb hHeld.2.2.2.2.2.2
   refine ⟨_, rfl, ?_⟩
   have n0_ := mkA (Kd.R_below (Kd.R_y HO_5.out) hb)
   have n1_ := mkA (Kd.R_below (Kd.R_y HO_6.out) hb)
   have n2_ := mkA (blk_below (blk_y BK288.out) hb)
   have n3_ := mkA (blk_below (g := gb317) (o := .cells #[.int .i64 0, .int .i64 0, .string (⟨#[]⟩ : ByteArray), .string (⟨#[]⟩ : ByteArray), .string (⟨#[]⟩ : ByteArray), .int .i64 0, .int .i64 0, .int .i64 0, .int .i64 0, .bool false, .int .i64 0, .int .i64 0, .int .i64 0, .string (⟨#[]⟩ : ByteArray), .int .i64 0, .int .i64 0, .string (⟨#[]⟩ : ByteArray), .int .i64 0, .int .i64 0, .string (⟨#[]⟩ : ByteArray)] 29 (0, 0)) (blk_y BK317.out) hb)
   have n4_ := mkA (below_step (below_y HB.out) hb)
   clear HO_5 HO_6 BK288 BK317 HB
   have HO_5 := n0_
   have HO_6 := n1_
   have BK288 := n2_
   have BK317 := n3_
   have HB := n4_
   clear n0_ n1_ n2_ n3_ n4_
   (try clear hb)
   (try clear hb2)
   (try clear hk)
   (try clear hi)
   refine hK.out _ _ ⟨(blk_cell BK288.out 0).trans rfl, (blk_cell BK288.out 1).trans rfl, (blk_cell BK288.out 2).trans rfl, (blk_cell BK288.out 3).trans rfl, (blk_cell BK288.out 4).trans rfl, (blk_cell BK288.out 5).trans rfl, HS6_⟩ (fun hHeld => ?_)
   clear hK K
   refine norm_ (a' := ?_) ?_ ?_
   rotate_left
   ·show Act.put _ (some 26) _ = _
    simp only [Act.put, sA, s0, sS, i64_w, i32_w]
    rfl
   refine pu 6 20 HT_ ?_
   refine pu 7 27 HT_ ?_
   refine pu 8 28 HT_ ?_
   exact norm_ (by simp only [putAll, Act.put, sA, s0, sS]) (hCont (gb317) _ ⟨hHeld, (Kd.R_y HO_5.out), (Kd.R_y HO_6.out), (blk_y BK288.out), (blk_y BK317.out), GW317.out, GE317.out, NB288_317.out, NB317_288.out, (below_y HB.out)⟩)
 rintro gb317 w18 ⟨hS_, h0_, h1_, h2_, h3_, h4_, h5_, h6_, h7_, h8_⟩
 have n0_ : Aside0 (Kd.R (Kd.int .i64) 3 w18 w.heap.size (fun _ => True) (.slice (some ad295) t289.length co14) t289) := ⟨h0_⟩
 have n1_ : Aside0 (Kd.R k46 46 w18 w.heap.size (fun _ => True) u6 x6_1) := ⟨h1_⟩
 have n2_ : Aside0 (w18.heap[gb288]? = some (.cells #[.int .i64 a0_0, .int .i64 a0_1, .int .i64 a0_2, .int .i64 a0_3, .slice A0_4 l0_4.length c0_4, .slice A0_5 l0_5.length c0_5] 25 (0, 0))) := ⟨h2_⟩
 have n3_ : Aside0 (w18.heap[gb317]? = some (.cells #[.int .i64 0, .int .i64 0, .string (⟨#[]⟩ : ByteArray), .string (⟨#[]⟩ : ByteArray), .string (⟨#[]⟩ : ByteArray), .int .i64 0, .int .i64 0, .int .i64 0, .int .i64 0, .bool false, .int .i64 0, .int .i64 0, .int .i64 0, .string (⟨#[]⟩ : ByteArray), .int .i64 0, .int .i64 0, .string (⟨#[]⟩ : ByteArray), .int .i64 0, .int .i64 0, .string (⟨#[]⟩ : ByteArray)] 29 (0, 0))) := ⟨h3_⟩
 have n4_ : Aside0 (w.heap.size ≤ gb317) := ⟨h4_⟩
 have n5_ : Aside0 (w.heap.size ≤ gb317) := ⟨h5_⟩
 have n6_ : Aside0 (gb288 ≠ gb317) := ⟨h6_⟩
 have n7_ : Aside0 (gb317 ≠ gb288) := ⟨h7_⟩
 have n8_ : Aside0 (Below w.heap.size w w18) := ⟨h8_⟩
 clear HO_5 HO_6 BK288 HB h0_ h1_ h2_ h3_ h4_ h5_ h6_ h7_ h8_
 have HO_5 := n0_
 have HO_6 := n1_
 have BK288 := n2_
 have BK317 := n3_
 have GW317 := n4_
 have GE317 := n5_
 have NB288_317 := n6_
 have NB317_288 := n7_
 have HB := n8_
 clear n0_ n1_ n2_ n3_ n4_ n5_ n6_ n7_ n8_
 have hHeld : w18.cell? ⟨gb288, 0, none⟩ = some (.int .i64 a0_0) ∧ w18.cell? ⟨gb288, 1, none⟩ = some (.int .i64 a0_1) ∧ w18.cell? ⟨gb288, 2, none⟩ = some (.int .i64 a0_2) ∧ w18.cell? ⟨gb288, 3, none⟩ = some (.int .i64 a0_3) ∧ w18.cell? ⟨gb288, 4, none⟩ = some (.slice A0_4 l0_4.length c0_4) ∧ w18.cell? ⟨gb288, 5, none⟩ = some (.slice A0_5 l0_5.length c0_5) ∧ w18.cell? (ad295.add (x7_1).toNat) = some (.int .i64 (rd t289 x7_1)) := hS_
 refine norm_ (a' := ?_) ?_ ?_
 rotate_left
 ·simp only [putAll, Act.put, sA, s0, sS]
  rfl
 refine one_ (i := 10) (N := none) #[true, true, true, true, true, true, true, true, true, true, true, false] rfl rfl (one_of HT_.out (by kernel_rfl)) (by decide) (fun K hK => ?_)
 refine vst_ (g := gb317) (cells := #[.int .i64 t296, .int .i64 t297, .string t298, .string t299, .string t300, .int .i64 t301, .int .i64 t302, .int .i64 t303, .int .i64 t304, .bool t305, .int .i64 t306, .int .i64 t307, .int .i64 t308, .string t309, .int .i64 t310, .int .i64 t311, .string t312, .int .i64 t313, .int .i64 t314, .string t315]) (by rfl) rfl ⟨_, _, rfl, (by first | (with_reducible rfl) | (go_simp; done) | rfl | (go_simp; rfl)), (by first | (with_reducible rfl) | (go_simp; done) | rfl | (go_simp; rfl))⟩ (blk_y BK317.out) (by kernel_rfl) rfl (by first | rfl | simp [Value.oneCell']) ?_
 intro w9317 hw hbk
 have n0_ := mkA (R_setv HO_5.out (blk_y BK317.out) hw)
 have n1_ := mkA (R_setv HO_6.out (blk_y BK317.out) hw)
 have n2_ := mkA (blk_setv hw NB288_317.out BK288.out)
 have n3_ := mkA (hbk)
 have n4_ := mkA (below_setv hw GE317.out HB.out)
 clear HO_5 HO_6 BK288 BK317 HB
 have HO_5 := n0_
 have HO_6 := n1_
 have BK288 := n2_
 have BK317 := n3_
 have HB := n4_
 clear n0_ n1_ n2_ n3_ n4_
 refine hK.out _ _ ⟨((by have hx := NB288_317.out; exact fR hw hx (hHeld.1))), ((by have hx := NB288_317.out; exact fR hw hx (hHeld.2.1))), ((by have hx := NB288_317.out; exact fR hw hx (hHeld.2.2.1))), ((by have hx := NB288_317.out; exact fR hw hx (hHeld.2.2.2.1))), ((by have hx := NB288_317.out; exact fR hw hx (hHeld.2.2.2.2.1))), ((by have hx := NB288_317.out; exact fR hw hx (hHeld.2.2.2.2.2.1))), ((by have hx := Kd.own_blk (Kd.R_ne HO_5.out BK317.out (by decide)); first | exact fR hw hx (hHeld.2.2.2.2.2.2) | (have hy := fun n => (show (Addr.add _ n).block ≠ _ from by rw [add_block]; exact hx); exact fR hw (hy _) (hHeld.2.2.2.2.2.2))))⟩ (fun hHeld => ?_)
 clear hK K
 refine pu 11 9 HT_ ?_
 refine done_ (done_of HT_.out (by kernel_rfl)) ?_
 have hnb39 := NB317_288.out
 have hnc39 := NB288_317.out
 have hcz40_0 := bc BK317.out 0 _ rfl
 have hcz40_1 := bc BK317.out 1 _ rfl
 have hcz40_2 := bc BK317.out 2 _ rfl
 have hcz40_3 := bc BK317.out 3 _ rfl
 have hcz40_4 := bc BK317.out 4 _ rfl
 have hcz40_5 := bc BK317.out 5 _ rfl
 have hcz40_6 := bc BK317.out 6 _ rfl
 have hcz40_7 := bc BK317.out 7 _ rfl
 have hcz40_8 := bc BK317.out 8 _ rfl
 have hcz40_9 := bc BK317.out 9 _ rfl
 have hcz40_10 := bc BK317.out 10 _ rfl
 have hcz40_11 := bc BK317.out 11 _ rfl
 have hcz40_12 := bc BK317.out 12 _ rfl
 have hcz40_13 := bc BK317.out 13 _ rfl
 have hcz40_14 := bc BK317.out 14 _ rfl
 have hcz40_15 := bc BK317.out 15 _ rfl
 have hcz40_16 := bc BK317.out 16 _ rfl
 have hcz40_17 := bc BK317.out 17 _ rfl
 have hcz40_18 := bc BK317.out 18 _ rfl
 have hcz40_19 := bc BK317.out 19 _ rfl
 have hfz40_0 := blk_frozen BK317.out 0
 have hfz40_1 := blk_frozen BK317.out 1
 have hfz40_2 := blk_frozen BK317.out 2
 have hfz40_3 := blk_frozen BK317.out 3
 have hfz40_4 := blk_frozen BK317.out 4
 have hfz40_5 := blk_frozen BK317.out 5
 have hfz40_6 := blk_frozen BK317.out 6
 have hfz40_7 := blk_frozen BK317.out 7
 have hfz40_8 := blk_frozen BK317.out 8
 have hfz40_9 := blk_frozen BK317.out 9
 have hfz40_10 := blk_frozen BK317.out 10
 have hfz40_11 := blk_frozen BK317.out 11
 have hfz40_12 := blk_frozen BK317.out 12
 have hfz40_13 := blk_frozen BK317.out 13
 have hfz40_14 := blk_frozen BK317.out 14
 have hfz40_15 := blk_frozen BK317.out 15
 have hfz40_16 := blk_frozen BK317.out 16
 have hfz40_17 := blk_frozen BK317.out 17
 have hfz40_18 := blk_frozen BK317.out 18
 have hfz40_19 := blk_frozen BK317.out 19
 try go_wp2_with (first | ((with_reducible refine gate_load (t := 25) rfl ?_); refine load_row3 (t := 25) (g := gb288) ?hg BK288.out ?ho ?hb Try.underlying25 rfl ?hs ?_; (case hg => rfl); (case ho => refine ⟨_, rfl, ?_⟩; first | (with_reducible rfl) | (go_simp; done)); (case hb => (with_reducible repeat (first | refine blk_drewN ?_ _ | refine blk_drew ?_ | refine blk_alloc ?_ _)); with_reducible exact BK288.out); (case hs => kernel_rfl)) | ((with_reducible refine gate_load (t := 29) rfl ?_); refine load_row3 (t := 29) (g := gb317) ?hg BK317.out ?ho ?hb Try.underlying29 rfl ?hs ?_; (case hg => rfl); (case ho => refine ⟨_, rfl, ?_⟩; first | (with_reducible rfl) | (go_simp; done)); (case hb => (with_reducible repeat (first | refine blk_drewN ?_ _ | refine blk_drew ?_ | refine blk_alloc ?_ _)); with_reducible exact BK317.out); (case hs => kernel_rfl)) | ((with_reducible refine gate_callee (f := 9) rfl ?_); refine goesL_ (some 31) rfl rfl Try.func9 (by kernel_rfl) rfl #[.agg #[.int .i64 t296, .int .i64 t297, .string t298, .string t299, .string t300, .int .i64 t301, .int .i64 t302, .int .i64 t303, .int .i64 t304, .bool t305, .int .i64 t306, .int .i64 t307, .int .i64 t308, .string t309, .int .i64 t310, .int .i64 t311, .string t312, .int .i64 t313, .int .i64 t314, .string t315]] rfl ca ?_; (with_reducible refine (newsreelref41_Gone.calls _ _ _ _ _ _ _ _ _ _ _ _ _ _ _ _ _ _ _ _ _ _ _ _ _ _ _ _ _ _ _ _ _ _ _ _ _ _ _ _ _ A12.out).mono ?_); rintro e w41 ⟨rfl, hb⟩; refine ⟨_, rfl, ?_⟩; have n0_ := mkA (Kd.R_below (Kd.R_y HO_5.out) hb); have n1_ := mkA (Kd.R_below (Kd.R_y HO_6.out) hb); have n2_ := mkA (blk_below (blk_y BK288.out) hb); have n3_ := mkA (blk_below (blk_y BK317.out) hb); have n4_ := mkA (below_step (below_y HB.out) hb); clear HO_5; clear HO_6; clear BK288; clear BK317; clear HB; have HO_5 := n0_; have HO_6 := n1_; have BK288 := n2_; have BK317 := n3_; have HB := n4_; clear n0_ n1_ n2_ n3_ n4_; (try clear hb); (try clear hb2); (try clear hk); (try clear hi)) | ((with_reducible refine gate_builtin (b := .append) (xs := #[.tmp 29, .tmp 33]) rfl ?_); at_builtin; refine Kd.R_append k46 (w0 := w) w.heap.size rfl (.tmp 29) (.tmp 33) 35 46 (.agg #[(.int .i64 0), (.int .i64 0), (.string ⟨#[]⟩), (.string ⟨#[]⟩), (.int .i64 0), (.int .i64 0), (.int .i64 0), (.int .i64 0), (.string ⟨#[]⟩), (.string ⟨#[]⟩), (.string ⟨#[]⟩), (.int .i64 0), (.int .i64 0), (.int .i64 0), (.int .i64 0), (.bool false), (.int .i64 0), (.int .i64 0), (.int .i64 0), (.string ⟨#[]⟩), (.int .i64 0), (.int .i64 0), (.string ⟨#[]⟩), (.int .i64 0), (.int .i64 0), (.string ⟨#[]⟩), (.int .i64 0), (.int .i64 0)]) 288 rfl Try.underlying35 info46 rfl (by decide) (by omega) u6 x6_1 (⟨3, (⟨0, (⟨#[]⟩ : ByteArray), (⟨#[]⟩ : ByteArray), 0, 0⟩ : S43), (⟨t318, t319, t320, t321, t322, t323, t324, t325, t326, t327, t328, t329, t330, t331, t332, t333, t334, t335, t336, t337⟩ : S29), 0, 0⟩ : S46) [.int .i64 3, .int .i64 0, .string (⟨#[]⟩ : ByteArray), .string (⟨#[]⟩ : ByteArray), .int .i64 0, .int .i64 0, .int .i64 t318, .int .i64 t319, .string t320, .string t321, .string t322, .int .i64 t323, .int .i64 t324, .int .i64 t325, .int .i64 t326, .bool t327, .int .i64 t328, .int .i64 t329, .int .i64 t330, .string t331, .int .i64 t332, .int .i64 t333, .string t334, .int .i64 t335, .int .i64 t336, .string t337, .int .i64 0, .int .i64 0] (fun _ => True) (fun _ => False) rfl rfl ?aP (fun _ hk => hk.elim) ?aF ?aO ?aB ?aS ?aL ?_; (case aP => exact k46_mkM _ _ _ (⟨3, (⟨0, (⟨#[]⟩ : ByteArray), (⟨#[]⟩ : ByteArray), 0, 0⟩ : S43), (⟨t318, t319, t320, t321, t322, t323, t324, t325, t326, t327, t328, t329, t330, t331, t332, t333, t334, t335, t336, t337⟩ : S29), 0, 0⟩ : S46)); (case aB => exact (below_y HB.out)); (case aF => exact (fun _ _ => trivial)); (case aO => exact (Kd.R_y HO_6.out)); (case aS => exact (below_size (below_y HB.out))); (case aL => have := LMc13.out; omega); intro v339 w42 ho hb hg hat; rw [← Ny338.out] at ho; have n0_ := mkA (Kd.R_over' (Kd.R_y HO_5.out) (Kd.R_typed (Kd.R_y HO_6.out)) (by decide) hg); have n1_ := mkA (blk_grown (blk_y BK288.out) hg (Kd.R_ne HO_6.out BK288.out (by decide))); have n2_ := mkA (blk_grown (blk_y BK317.out) hg (Kd.R_ne HO_6.out BK317.out (by decide))); have n3_ := mkA (hb); have n4_ := mkA (ho); clear HO_5; clear BK288; clear BK317; clear HB; clear HO_6; have HO_5 := n0_; have BK288 := n1_; have BK317 := n2_; have HB := n3_; have HO340 := n4_; clear n0_ n1_ n2_ n3_ n4_; clear ho hb hg hat))
 go_roundg k1
 case measure => have := HK1.out; omega
 case rel => exact ⟨(y338), (wrap64 (x7_1 + 1)), (by first | rfl | (simp; done) | (simp [*]; done)), H', ⟨by have := HK1.out; omega⟩, ⟨by (with_reducible repeat (first | apply Kd.R_alloc | apply Kd.R_drewN | apply Kd.R_drew)); exact HO_5.out⟩, ⟨by (with_reducible repeat (first | apply Kd.R_alloc | apply Kd.R_drewN | apply Kd.R_drew)); exact HO340.out⟩, ⟨by (with_reducible repeat (first | refine blk_drewN ?_ _ | refine blk_drew ?_ | refine blk_alloc ?_ _)); exact BK288.out⟩, ⟨by repeat (first | (with_reducible first | exact HB.out | apply below_alloc | apply pw_below_drewN | apply below_drew1 | refine below_set ?_ GE288.out | refine below_set ?_ GE317.out) | exact HB.out)⟩⟩

end Go.Proofs.Ytcpojadlnpnbaaa.XRet
