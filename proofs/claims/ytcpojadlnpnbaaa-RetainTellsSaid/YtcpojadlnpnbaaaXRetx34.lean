-- By a program of this work (xprint.py) over the translation; Lean checks it.
import Derived.Test.YtcpojadlnpnbaaaXRetx0
import Derived.Test.YtcpojadlnpnbaaaXRetx1
import Derived.Test.YtcpojadlnpnbaaaXRetx5
import Derived.Test.YtcpojadlnpnbaaaXRetx6
import Derived.Test.YtcpojadlnpnbaaaXRetx7
import Derived.Test.YtcpojadlnpnbaaaXRetx21
import Derived.Test.YtcpojadlnpnbaaaXRetx22
import Derived.Test.YtcpojadlnpnbaaaXRetx25
import Derived.Test.YtcpojadlnpnbaaaXRetx26
import Derived.Test.YtcpojadlnpnbaaaXRetx27
import Derived.Test.YtcpojadlnpnbaaaXRetx30
import Derived.Test.YtcpojadlnpnbaaaXRetx31
import Derived.Test.YtcpojadlnpnbaaaXRetx33
namespace Go.Proofs.Ytcpojadlnpnbaaa.XRet
open Go.RowKit Go.Proofs.YtcpojadlnpnbaaaW.PrintWords Go.Proofs.YtcpojadlnpnbaaaW.PrintLast Go.Proofs.YtcpojadlnpnbaaaW.PrintMore
attribute [local go_sem] max2_int min2_int max_two min_two max_three min_three max_four min_four   -- for this text's walks alone
set_option linter.unusedVariables false
set_option linter.unusedSimpArgs false

attribute [local go_sem high] eqA29
/-! ### newsreellaw41_RetainTells: function 3 -/
mutual
def newsreellaw41_RetainTells.j0 : Nat → Int → Bool → Int → Int → Int → Int → List (S43) → List (S29) → Option (Bool)
 | 0, _, _, _, _, _, _, _, _ => none
 | k + 1, x1, x13, x342000, x342001, x342002, x342003, x342004, x342005 => if x13 = true then ((newsreellaw41_awake.f k).bind fun t344 => (some t344)) else (newsreellaw41_RetainTells.l0 k x1 0 x342000 x342001 x342002 x342003 x342004 x342005)
def newsreellaw41_RetainTells.l0 : Nat → Int → Int → Int → Int → Int → Int → List (S43) → List (S29) → Option (Bool)
 | 0, _, _, _, _, _, _, _, _ => none
 | k + 1, x1, x5, x342000, x342001, x342002, x342003, x342004, x342005 => if x5 < (x342005.length : Int) then (if 0 ≤ x5 then ((retain_Gone.f ((rd_T29 x342005 x5).f0) ((rd_T29 x342005 x5).f1) ((rd_T29 x342005 x5).f2) ((rd_T29 x342005 x5).f3) ((rd_T29 x342005 x5).f4) ((rd_T29 x342005 x5).f5) ((rd_T29 x342005 x5).f6) ((rd_T29 x342005 x5).f7) ((rd_T29 x342005 x5).f8) ((rd_T29 x342005 x5).f9) ((rd_T29 x342005 x5).f10) ((rd_T29 x342005 x5).f11) ((rd_T29 x342005 x5).f12) ((rd_T29 x342005 x5).f13) ((rd_T29 x342005 x5).f14) ((rd_T29 x342005 x5).f15) ((rd_T29 x342005 x5).f16) ((rd_T29 x342005 x5).f17) ((rd_T29 x342005 x5).f18) ((rd_T29 x342005 x5).f19)).bind fun bt346 => ((newsreelref41_Gone.f ((rd_T29 x342005 x5).f0) ((rd_T29 x342005 x5).f1) ((rd_T29 x342005 x5).f2) ((rd_T29 x342005 x5).f3) ((rd_T29 x342005 x5).f4) ((rd_T29 x342005 x5).f5) ((rd_T29 x342005 x5).f6) ((rd_T29 x342005 x5).f7) ((rd_T29 x342005 x5).f8) ((rd_T29 x342005 x5).f9) ((rd_T29 x342005 x5).f10) ((rd_T29 x342005 x5).f11) ((rd_T29 x342005 x5).f12) ((rd_T29 x342005 x5).f13) ((rd_T29 x342005 x5).f14) ((rd_T29 x342005 x5).f15) ((rd_T29 x342005 x5).f16) ((rd_T29 x342005 x5).f17) ((rd_T29 x342005 x5).f18) ((rd_T29 x342005 x5).f19)).bind fun bt367 => (if (!(bt346.1 == bt367.1) || (!(bt346.2.1 == bt367.2.1) || (!(bt346.2.2.1.toList == bt367.2.2.1.toList) || (!(bt346.2.2.2.1.toList == bt367.2.2.2.1.toList) || (!(bt346.2.2.2.2.1.toList == bt367.2.2.2.2.1.toList) || (!(bt346.2.2.2.2.2.1 == bt367.2.2.2.2.2.1) || (!(bt346.2.2.2.2.2.2.1 == bt367.2.2.2.2.2.2.1) || (!(bt346.2.2.2.2.2.2.2.1 == bt367.2.2.2.2.2.2.2.1) || (!(bt346.2.2.2.2.2.2.2.2.1 == bt367.2.2.2.2.2.2.2.2.1) || (!(bt346.2.2.2.2.2.2.2.2.2.1 == bt367.2.2.2.2.2.2.2.2.2.1) || (!(bt346.2.2.2.2.2.2.2.2.2.2.1 == bt367.2.2.2.2.2.2.2.2.2.2.1) || (!(bt346.2.2.2.2.2.2.2.2.2.2.2.1 == bt367.2.2.2.2.2.2.2.2.2.2.2.1) || (!(bt346.2.2.2.2.2.2.2.2.2.2.2.2.1 == bt367.2.2.2.2.2.2.2.2.2.2.2.2.1) || (!(bt346.2.2.2.2.2.2.2.2.2.2.2.2.2.1.toList == bt367.2.2.2.2.2.2.2.2.2.2.2.2.2.1.toList) || (!(bt346.2.2.2.2.2.2.2.2.2.2.2.2.2.2.1 == bt367.2.2.2.2.2.2.2.2.2.2.2.2.2.2.1) || (!(bt346.2.2.2.2.2.2.2.2.2.2.2.2.2.2.2.1 == bt367.2.2.2.2.2.2.2.2.2.2.2.2.2.2.2.1) || (!(bt346.2.2.2.2.2.2.2.2.2.2.2.2.2.2.2.2.1.toList == bt367.2.2.2.2.2.2.2.2.2.2.2.2.2.2.2.2.1.toList) || (!(bt346.2.2.2.2.2.2.2.2.2.2.2.2.2.2.2.2.2.1 == bt367.2.2.2.2.2.2.2.2.2.2.2.2.2.2.2.2.2.1) || (!(bt346.2.2.2.2.2.2.2.2.2.2.2.2.2.2.2.2.2.2.1 == bt367.2.2.2.2.2.2.2.2.2.2.2.2.2.2.2.2.2.2.1) || (!(bt346.2.2.2.2.2.2.2.2.2.2.2.2.2.2.2.2.2.2.2.toList == bt367.2.2.2.2.2.2.2.2.2.2.2.2.2.2.2.2.2.2.2.toList))))))))))))))))))))) = true then (some false) else (newsreellaw41_RetainTells.l0 k x1 (wrap64 (x5 + 1)) x342000 x342001 x342002 x342003 x342004 x342005)))) else (none)) else ((retain_Over.f k x342000 x342001 x342002 x342003 x342004 x342005 x1).bind fun t387 => ((newsreelref41_Over.f k x342000 x342001 x342002 x342003 x342004 x342005 x1).bind fun t390 => ((newsreelref21_Ints.f k t387 t390).bind fun t393 => (if t393 = true then ((retain_Apply.f k x342000 x342001 x342002 x342003 x342004 x342005 x1).bind fun t394 => ((newsreelref41_Apply.f k x342000 x342001 x342002 x342003 x342004 x342005 x1).bind fun t397 => ((newsreelref15_Changes.f k t394 t397).bind fun t400 => (if t400 = true then ((newsreellaw41_awake.f k).bind fun t401 => (some t401)) else (some false))))) else (some false)))))
end
def newsreellaw41_RetainTells.f (k : Nat) (a0_0 : Int) (a0_1 : Int) (a0_2 : Int) (a0_3 : Int) (l0_4 : List (S43)) (l0_5 : List (S29)) (a1 : Int) : Option (Bool) := (newsreelref15_Light.f k a0_0 a0_1 a0_2 a0_3 l0_4 l0_5).bind fun t342 => (if t342 = true then ((newsreelref41_Once.f k a0_0 a0_1 a0_2 a0_3 l0_4 l0_5).bind fun t343 => (newsreellaw41_RetainTells.j0 k a1 (!t343) a0_0 a0_1 a0_2 a0_3 l0_4 l0_5)) else (newsreellaw41_RetainTells.j0 k a1 true a0_0 a0_1 a0_2 a0_3 l0_4 l0_5))
theorem newsreellaw41_RetainTells.mono_l : ∀ k, (∀ y0 y1 y2 y3 y4 y5 y6 y7, LeO (newsreellaw41_RetainTells.j0 k y0 y1 y2 y3 y4 y5 y6 y7) (newsreellaw41_RetainTells.j0 (k + 1) y0 y1 y2 y3 y4 y5 y6 y7)) ∧ (∀ y0 y1 y2 y3 y4 y5 y6 y7, LeO (newsreellaw41_RetainTells.l0 k y0 y1 y2 y3 y4 y5 y6 y7) (newsreellaw41_RetainTells.l0 (k + 1) y0 y1 y2 y3 y4 y5 y6 y7))
 | 0 => ⟨fun _ _ _ _ _ _ _ _ r h => by simp [newsreellaw41_RetainTells.j0] at h, fun _ _ _ _ _ _ _ _ r h => by simp [newsreellaw41_RetainTells.l0] at h⟩
 | k + 1 => by
  obtain ⟨ih0, ih1⟩ := newsreellaw41_RetainTells.mono_l k
  refine ⟨?_, ?_⟩
  ·intro y0 y1 y2 y3 y4 y5 y6 y7
   unfold newsreellaw41_RetainTells.j0
   repeat' first
   | (with_reducible exact ih0 _ _ _ _ _ _ _ _)
   | (with_reducible exact ih1 _ _ _ _ _ _ _ _)
   | (with_reducible exact newsreellaw41_awake.mono _)
   | (with_reducible exact newsreelref15_Changes.mono _ _ _)
   | (with_reducible exact newsreelref15_Light.mono _ _ _ _ _ _ _)
   | (with_reducible exact newsreelref21_Ints.mono _ _ _)
   | (with_reducible exact newsreelref41_Apply.mono _ _ _ _ _ _ _ _)
   | (with_reducible exact newsreelref41_Once.mono _ _ _ _ _ _ _)
   | (with_reducible exact newsreelref41_Over.mono _ _ _ _ _ _ _ _)
   | (with_reducible exact retain_Apply.mono _ _ _ _ _ _ _ _)
   | (with_reducible exact retain_Over.mono _ _ _ _ _ _ _ _)
   | (with_reducible exact LeO.refl _)
   | (with_reducible exact LeO.none _)
   | (with_reducible refine LeO.ite ?_ ?_)
   | (with_reducible refine LeO.bind ?_ (fun _ => ?_))
   | exact ih0 _ _ _ _ _ _ _ _
   | exact ih1 _ _ _ _ _ _ _ _
   | exact newsreellaw41_awake.mono _
   | exact newsreelref15_Changes.mono _ _ _
   | exact newsreelref15_Light.mono _ _ _ _ _ _ _
   | exact newsreelref21_Ints.mono _ _ _
   | exact newsreelref41_Apply.mono _ _ _ _ _ _ _ _
   | exact newsreelref41_Once.mono _ _ _ _ _ _ _
   | exact newsreelref41_Over.mono _ _ _ _ _ _ _ _
   | exact retain_Apply.mono _ _ _ _ _ _ _ _
   | exact retain_Over.mono _ _ _ _ _ _ _ _
   | exact LeO.none _
   | refine LeO.ite ?_ ?_
   | refine LeO.bind ?_ (fun _ => ?_)
  ·intro y0 y1 y2 y3 y4 y5 y6 y7
   unfold newsreellaw41_RetainTells.l0
   repeat' first
   | (with_reducible exact ih0 _ _ _ _ _ _ _ _)
   | (with_reducible exact ih1 _ _ _ _ _ _ _ _)
   | (with_reducible exact newsreellaw41_awake.mono _)
   | (with_reducible exact newsreelref15_Changes.mono _ _ _)
   | (with_reducible exact newsreelref15_Light.mono _ _ _ _ _ _ _)
   | (with_reducible exact newsreelref21_Ints.mono _ _ _)
   | (with_reducible exact newsreelref41_Apply.mono _ _ _ _ _ _ _ _)
   | (with_reducible exact newsreelref41_Once.mono _ _ _ _ _ _ _)
   | (with_reducible exact newsreelref41_Over.mono _ _ _ _ _ _ _ _)
   | (with_reducible exact retain_Apply.mono _ _ _ _ _ _ _ _)
   | (with_reducible exact retain_Over.mono _ _ _ _ _ _ _ _)
   | (with_reducible exact LeO.refl _)
   | (with_reducible exact LeO.none _)
   | (with_reducible refine LeO.ite ?_ ?_)
   | (with_reducible refine LeO.bind ?_ (fun _ => ?_))
   | exact ih0 _ _ _ _ _ _ _ _
   | exact ih1 _ _ _ _ _ _ _ _
   | exact newsreellaw41_awake.mono _
   | exact newsreelref15_Changes.mono _ _ _
   | exact newsreelref15_Light.mono _ _ _ _ _ _ _
   | exact newsreelref21_Ints.mono _ _ _
   | exact newsreelref41_Apply.mono _ _ _ _ _ _ _ _
   | exact newsreelref41_Once.mono _ _ _ _ _ _ _
   | exact newsreelref41_Over.mono _ _ _ _ _ _ _ _
   | exact retain_Apply.mono _ _ _ _ _ _ _ _
   | exact retain_Over.mono _ _ _ _ _ _ _ _
   | exact LeO.none _
   | refine LeO.ite ?_ ?_
   | refine LeO.bind ?_ (fun _ => ?_)
theorem newsreellaw41_RetainTells.mono : ∀ a0 a1 a2 a3 a4 a5 a6 k, LeO (newsreellaw41_RetainTells.f k a0 a1 a2 a3 a4 a5 a6) (newsreellaw41_RetainTells.f (k + 1) a0 a1 a2 a3 a4 a5 a6) := by
 intro a0 a1 a2 a3 a4 a5 a6 k
 obtain ⟨ih0, ih1⟩ := newsreellaw41_RetainTells.mono_l k
 unfold newsreellaw41_RetainTells.f
 repeat' first
   | (with_reducible exact ih0 _ _ _ _ _ _ _ _)
   | (with_reducible exact ih1 _ _ _ _ _ _ _ _)
   | (with_reducible exact newsreellaw41_awake.mono _)
   | (with_reducible exact newsreelref15_Changes.mono _ _ _)
   | (with_reducible exact newsreelref15_Light.mono _ _ _ _ _ _ _)
   | (with_reducible exact newsreelref21_Ints.mono _ _ _)
   | (with_reducible exact newsreelref41_Apply.mono _ _ _ _ _ _ _ _)
   | (with_reducible exact newsreelref41_Once.mono _ _ _ _ _ _ _)
   | (with_reducible exact newsreelref41_Over.mono _ _ _ _ _ _ _ _)
   | (with_reducible exact retain_Apply.mono _ _ _ _ _ _ _ _)
   | (with_reducible exact retain_Over.mono _ _ _ _ _ _ _ _)
   | (with_reducible exact LeO.refl _)
   | (with_reducible exact LeO.none _)
   | (with_reducible refine LeO.ite ?_ ?_)
   | (with_reducible refine LeO.bind ?_ (fun _ => ?_))
   | exact ih0 _ _ _ _ _ _ _ _
   | exact ih1 _ _ _ _ _ _ _ _
   | exact newsreellaw41_awake.mono _
   | exact newsreelref15_Changes.mono _ _ _
   | exact newsreelref15_Light.mono _ _ _ _ _ _ _
   | exact newsreelref21_Ints.mono _ _ _
   | exact newsreelref41_Apply.mono _ _ _ _ _ _ _ _
   | exact newsreelref41_Once.mono _ _ _ _ _ _ _
   | exact newsreelref41_Over.mono _ _ _ _ _ _ _ _
   | exact retain_Apply.mono _ _ _ _ _ _ _ _
   | exact retain_Over.mono _ _ _ _ _ _ _ _
   | exact LeO.none _
   | refine LeO.ite ?_ ?_
   | refine LeO.bind ?_ (fun _ => ?_)
def newsreellaw41_RetainTells.T6 : Bool × List (List Nat × List Nat) := (true, [([], []), ([0], [0]), ([], []), ([1, 2], [1, 2]), ([3], [3]), ([4], [4]), ([], []), ([6], [6]), ([], []), ([7, 8], [7, 8]), ([9], [9]), ([10, 5], [10]), ([5, 11], [5, 11])])
def newsreellaw41_RetainTells.B6 : List Nat := [0, 1, 0, 7, 15, 31, 0, 64, 0, 448, 960, 2047, 4095]
theorem newsreellaw41_RetainTells.tab6 : rtab .any (opsOf Try.f3 6) = newsreellaw41_RetainTells.T6 := by kernel_rfl
theorem newsreellaw41_RetainTells.bits6 : waitsOk newsreellaw41_RetainTells.T6.2 newsreellaw41_RetainTells.B6 = true := by kernel_rfl
def newsreellaw41_RetainTells.T8 : Bool × List (List Nat × List Nat) := (true, [([], []), ([], []), ([0, 1], [0, 1]), ([], []), ([], []), ([3, 4, 2], [3, 4]), ([2, 5, 5], [2, 5]), ([6, 6], [6]), ([7], [7]), ([7], [7]), ([8, 9, 7, 7], [7, 8, 9]), ([7], [7]), ([7], [7]), ([11, 12, 10, 7], [7, 11, 12]), ([10, 13, 13, 7], [7, 10, 13]), ([7, 14], [7, 14]), ([15, 14], [15]), ([16, 16], [16]), ([16, 17], [16, 17]), ([18, 17, 0, 1, 2, 3, 4, 5, 6, 7, 8, 9, 10, 11, 12, 13, 14, 15, 16, 17, 18], [18])])
def newsreellaw41_RetainTells.B8 : List Nat := [0, 0, 3, 0, 0, 31, 63, 127, 255, 255, 1023, 255, 255, 8191, 16383, 32767, 65535, 131071, 262143, 524287]
theorem newsreellaw41_RetainTells.tab8 : rtab .any (opsOf Try.f3 8) = newsreellaw41_RetainTells.T8 := by kernel_rfl
theorem newsreellaw41_RetainTells.bits8 : waitsOk newsreellaw41_RetainTells.T8.2 newsreellaw41_RetainTells.B8 = true := by kernel_rfl
set_option maxHeartbeats 2000000 in
set_option maxRecDepth 100000 in
theorem newsreellaw41_RetainTells.calls (k : Nat) (a0_0 : Int) (a0_1 : Int) (a0_2 : Int) (a0_3 : Int) (A0_4 : Option Addr) (c0_4 : Nat) (l0_4 : List (S43)) (A0_5 : Option Addr) (c0_5 : Nat) (l0_5 : List (S29)) (a1 : Int) (r : Bool) (w : World) (hr0_4 : Kd.C k43 w A0_4 l0_4.length l0_4) (hc0_4 : l0_4.length ≤ c0_4) (hr0_5 : Kd.C k29 w A0_5 l0_5.length l0_5) (hc0_5 : l0_5.length ≤ c0_5) (ht_ : r = true) (h : newsreellaw41_RetainTells.f k a0_0 a0_1 a0_2 a0_3 l0_4 l0_5 a1 = some r) :
  Calls Try.prog 3 #[.agg #[.int .i64 a0_0, .int .i64 a0_1, .int .i64 a0_2, .int .i64 a0_3, .slice A0_4 l0_4.length c0_4, .slice A0_5 l0_5.length c0_5], .int .i64 a1] w fun e w' => e = .returned (.bool r) ∧ Below w.heap.size w w' := by
 have hu25 := Try.underlying25
 have hu29 := Try.underlying29
 have HR0_4 := mkA hr0_4
 have HC0_4 := mkA hc0_4
 clear hr0_4 hc0_4
 have HR0_5 := mkA hr0_5
 have HC0_5 := mkA hc0_5
 clear hr0_5 hc0_5
 have HB := mkA (Below.refl w.heap.size w)
 have H : ((newsreelref15_Light.f k a0_0 a0_1 a0_2 a0_3 l0_4 l0_5).bind fun t342 => (if t342 = true then ((newsreelref41_Once.f k a0_0 a0_1 a0_2 a0_3 l0_4 l0_5).bind fun t343 => (newsreellaw41_RetainTells.j0 k a1 (!t343) a0_0 a0_1 a0_2 a0_3 l0_4 l0_5)) else (newsreellaw41_RetainTells.j0 k a1 true a0_0 a0_1 a0_2 a0_3 l0_4 l0_5))) = some r := h
 clear h
 have HC3 := mkA H
 clear H
 go_enter Try.func3, Try.ntmps3
 go_upto_region 1 with (first | ((with_reducible refine gate_load (t := 25) rfl ?_); refine load_row3 (t := 25) (g := gb341) ?hg BK341.out ?ho ?hb Try.underlying25 rfl ?hs ?_; (case hg => rfl); (case ho => refine ⟨_, rfl, ?_⟩; first | (with_reducible rfl) | (go_simp; done)); (case hb => (with_reducible repeat (first | refine blk_drewN ?_ _ | refine blk_drew ?_ | refine blk_alloc ?_ _)); with_reducible exact BK341.out); (case hs => kernel_rfl)) | ((with_reducible refine gate_dst (N := 2) rfl ?_); refine box_event ?hg (N := 2) ?hd (cs := #[.int .i64 a0_0, .int .i64 a0_1, .int .i64 a0_2, .int .i64 a0_3, .slice A0_4 l0_4.length c0_4, .slice A0_5 l0_5.length c0_5]) (t := 25) ?hr ?_; (case hd => rfl); (case hg => rfl); (case hr => first | (go_simp; done) | (go_simp; rfl)); intro gb341 hg w4 hbox hb; have n0_ := mkA (below_step (below_y HB.out) hb); have n1_ := mkA (hbox); have n2_ := mkA ((gz hg HB.out : w.heap.size ≤ gb341)); have n3_ := mkA ((gz hg HB.out : w.heap.size ≤ gb341)); clear HB; have HB := n0_; have BK341 := n1_; have GW341 := n2_; have GE341 := n3_; clear n0_ n1_ n2_ n3_; clear hb hbox hg))
 (try simp only [Act.put, sA, s0, sS])
 go_cut [13] (fun v13 wc => ∃ (kq : Nat) (x13_2 : Bool), v13 = .bool x13_2 ∧ Aside0 (newsreellaw41_RetainTells.j0 kq a1 x13_2 a0_0 a0_1 a0_2 a0_3 l0_4 l0_5 = some r) ∧ Aside0 (kq ≤ k) ∧ Aside0 (wc.heap[gb341]? = some (.cells #[.int .i64 a0_0, .int .i64 a0_1, .int .i64 a0_2, .int .i64 a0_3, (.slice A0_4 l0_4.length c0_4), (.slice A0_5 l0_5.length c0_5)] 25 (0, 0))) ∧ Aside0 (Below w.heap.size w wc))
 case first =>
  have H := HC3.out
  clear HC3
  replace H := Option.bind_eq_some_iff.mp H
  obtain ⟨t342, A50, H⟩ := H
  replace H : (if t342 = true then ((newsreelref41_Once.f k a0_0 a0_1 a0_2 a0_3 l0_4 l0_5).bind fun t343 => (newsreellaw41_RetainTells.j0 k a1 (!t343) a0_0 a0_1 a0_2 a0_3 l0_4 l0_5)) else (newsreellaw41_RetainTells.j0 k a1 true a0_0 a0_1 a0_2 a0_3 l0_4 l0_5)) = some r := H
  have A5 := mkA A50
  clear A50
  by_cases c6 : t342 = true
  ·subst c6
   have H1 : ((newsreelref41_Once.f k a0_0 a0_1 a0_2 a0_3 l0_4 l0_5).bind fun t343 => (newsreellaw41_RetainTells.j0 k a1 (!t343) a0_0 a0_1 a0_2 a0_3 l0_4 l0_5)) = some r := by rw [if_pos rfl] at H; exact H
   clear H
   have H := H1
   clear H1
   replace H := Option.bind_eq_some_iff.mp H
   obtain ⟨t343, A70, H⟩ := H
   replace H : (newsreellaw41_RetainTells.j0 k a1 (!t343) a0_0 a0_1 a0_2 a0_3 l0_4 l0_5) = some r := H
   have A7 := mkA A70
   clear A70
   as_aux_lemma =>
    have H' := mkA H
    clear H
    have hcz8_0 := bc BK341.out 0 _ rfl
    have hcz8_1 := bc BK341.out 1 _ rfl
    have hcz8_2 := bc BK341.out 2 _ rfl
    have hcz8_3 := bc BK341.out 3 _ rfl
    have hcz8_4 := bc BK341.out 4 _ rfl
    have hcz8_5 := bc BK341.out 5 _ rfl
    have hfz8_0 := blk_frozen BK341.out 0
    have hfz8_1 := blk_frozen BK341.out 1
    have hfz8_2 := blk_frozen BK341.out 2
    have hfz8_3 := blk_frozen BK341.out 3
    have hfz8_4 := blk_frozen BK341.out 4
    have hfz8_5 := blk_frozen BK341.out 5
    go_wp2_with (first | ((with_reducible refine gate_load (t := 25) rfl ?_); refine load_row3 (t := 25) (g := gb341) ?hg BK341.out ?ho ?hb Try.underlying25 rfl ?hs ?_; (case hg => rfl); (case ho => refine ⟨_, rfl, ?_⟩; first | (with_reducible rfl) | (go_simp; done)); (case hb => (with_reducible repeat (first | refine blk_drewN ?_ _ | refine blk_drew ?_ | refine blk_alloc ?_ _)); with_reducible exact BK341.out); (case hs => kernel_rfl)) | ((with_reducible refine gate_callee (f := 5) rfl ?_); refine goesL_ (some 7) rfl rfl Try.func5 (by kernel_rfl) rfl #[.agg #[.int .i64 a0_0, .int .i64 a0_1, .int .i64 a0_2, .int .i64 a0_3, .slice A0_4 l0_4.length c0_4, .slice A0_5 l0_5.length c0_5]] rfl ca ?_; (with_reducible refine (newsreelref15_Light.calls _ _ _ _ _ _ _ _ _ _ _ true _ ?side1 ?side2 ?side3 ?side4 A5.out).mono ?_); (case side1 => exact cz HR0_4.out HB.out); (case side2 => exact HC0_4.out); (case side3 => exact cz HR0_5.out HB.out); (case side4 => exact HC0_5.out); rintro e w9 ⟨rfl, hb⟩; refine ⟨_, rfl, ?_⟩; have n0_ := mkA (blk_below (blk_y BK341.out) hb); have n1_ := mkA (below_step (below_y HB.out) hb); clear BK341; clear HB; have BK341 := n0_; have HB := n1_; clear n0_ n1_; (try clear hb); (try clear hb2); (try clear hk); (try clear hi); have hcz10_0 := bc BK341.out 0 _ rfl; have hcz10_1 := bc BK341.out 1 _ rfl; have hcz10_2 := bc BK341.out 2 _ rfl; have hcz10_3 := bc BK341.out 3 _ rfl; have hcz10_4 := bc BK341.out 4 _ rfl; have hcz10_5 := bc BK341.out 5 _ rfl; have hfz10_0 := blk_frozen BK341.out 0; have hfz10_1 := blk_frozen BK341.out 1; have hfz10_2 := blk_frozen BK341.out 2; have hfz10_3 := blk_frozen BK341.out 3; have hfz10_4 := blk_frozen BK341.out 4; have hfz10_5 := blk_frozen BK341.out 5) | (go_at_call 6; (with_reducible refine (newsreelref41_Once.calls _ _ _ _ _ _ _ _ _ _ _ _ _ ?side1 ?side2 ?side3 ?side4 A7.out).mono ?_); (case side1 => exact cz HR0_4.out HB.out); (case side2 => exact HC0_4.out); (case side3 => exact cz HR0_5.out HB.out); (case side4 => exact HC0_5.out); rintro e w11 ⟨rfl, hb⟩; have n0_ := mkA (blk_below (blk_y BK341.out) hb); have n1_ := mkA (below_step (below_y HB.out) hb); clear BK341; clear HB; have BK341 := n0_; have HB := n1_; clear n0_ n1_; (try clear hb); (try clear hb2); (try clear hk); (try clear hi)))
    go_meet
    case rel => exact ⟨_, (!t343), (by first | rfl | (simp; done) | (simp [*]; done)), H', ⟨by first | omega | exact Nat.le_refl _⟩, ⟨by (with_reducible repeat (first | refine blk_drewN ?_ _ | refine blk_drew ?_ | refine blk_alloc ?_ _)); exact BK341.out⟩, ⟨by repeat (first | (with_reducible first | exact HB.out | apply below_alloc | apply pw_below_drewN | apply below_drew1 | refine below_set ?_ GE341.out) | exact HB.out)⟩⟩
  ·replace c6 := Bool.eq_false_iff.mpr c6
   subst c6
   have H1 : (newsreellaw41_RetainTells.j0 k a1 true a0_0 a0_1 a0_2 a0_3 l0_4 l0_5) = some r := by rw [if_neg (show ¬ (false = true) by decide)] at H; exact H
   clear H
   have H := H1
   clear H1
   as_aux_lemma =>
    have H' := mkA H
    clear H
    have hcz12_0 := bc BK341.out 0 _ rfl
    have hcz12_1 := bc BK341.out 1 _ rfl
    have hcz12_2 := bc BK341.out 2 _ rfl
    have hcz12_3 := bc BK341.out 3 _ rfl
    have hcz12_4 := bc BK341.out 4 _ rfl
    have hcz12_5 := bc BK341.out 5 _ rfl
    have hfz12_0 := blk_frozen BK341.out 0
    have hfz12_1 := blk_frozen BK341.out 1
    have hfz12_2 := blk_frozen BK341.out 2
    have hfz12_3 := blk_frozen BK341.out 3
    have hfz12_4 := blk_frozen BK341.out 4
    have hfz12_5 := blk_frozen BK341.out 5
    go_wp2_with (first | ((with_reducible refine gate_load (t := 25) rfl ?_); refine load_row3 (t := 25) (g := gb341) ?hg BK341.out ?ho ?hb Try.underlying25 rfl ?hs ?_; (case hg => rfl); (case ho => refine ⟨_, rfl, ?_⟩; first | (with_reducible rfl) | (go_simp; done)); (case hb => (with_reducible repeat (first | refine blk_drewN ?_ _ | refine blk_drew ?_ | refine blk_alloc ?_ _)); with_reducible exact BK341.out); (case hs => kernel_rfl)) | ((with_reducible refine gate_callee (f := 5) rfl ?_); refine goesL_ (some 7) rfl rfl Try.func5 (by kernel_rfl) rfl #[.agg #[.int .i64 a0_0, .int .i64 a0_1, .int .i64 a0_2, .int .i64 a0_3, .slice A0_4 l0_4.length c0_4, .slice A0_5 l0_5.length c0_5]] rfl ca ?_; (with_reducible refine (newsreelref15_Light.calls _ _ _ _ _ _ _ _ _ _ _ false _ ?side1 ?side2 ?side3 ?side4 A5.out).mono ?_); (case side1 => exact cz HR0_4.out HB.out); (case side2 => exact HC0_4.out); (case side3 => exact cz HR0_5.out HB.out); (case side4 => exact HC0_5.out); rintro e w13 ⟨rfl, hb⟩; refine ⟨_, rfl, ?_⟩; have n0_ := mkA (blk_below (blk_y BK341.out) hb); have n1_ := mkA (below_step (below_y HB.out) hb); clear BK341; clear HB; have BK341 := n0_; have HB := n1_; clear n0_ n1_; (try clear hb); (try clear hb2); (try clear hk); (try clear hi)))
    go_meet
    case rel => exact ⟨_, (true), (by first | rfl | (simp; done) | (simp [*]; done)), H', ⟨by first | omega | exact Nat.le_refl _⟩, ⟨by (with_reducible repeat (first | refine blk_drewN ?_ _ | refine blk_drew ?_ | refine blk_alloc ?_ _)); exact BK341.out⟩, ⟨by repeat (first | (with_reducible first | exact HB.out | apply below_alloc | apply pw_below_drewN | apply below_drew1 | refine below_set ?_ GE341.out) | exact HB.out)⟩⟩
 clear HC3
 try clear p2
 try clear c3
 try clear c5
 try clear c6
 try clear hcz10_0
 try clear hcz10_1
 try clear hcz10_2
 try clear hcz10_3
 try clear hcz10_4
 try clear hcz10_5
 try clear hcz12_0
 try clear hcz12_1
 try clear hcz12_2
 try clear hcz12_3
 try clear hcz12_4
 try clear hcz12_5
 try clear hcz8_0
 try clear hcz8_1
 try clear hcz8_2
 try clear hcz8_3
 try clear hcz8_4
 try clear hcz8_5
 try clear hfz10_0
 try clear hfz10_1
 try clear hfz10_2
 try clear hfz10_3
 try clear hfz10_4
 try clear hfz10_5
 try clear hfz12_0
 try clear hfz12_1
 try clear hfz12_2
 try clear hfz12_3
 try clear hfz12_4
 try clear hfz12_5
 try clear hfz8_0
 try clear hfz8_1
 try clear hfz8_2
 try clear hfz8_3
 try clear hfz8_4
 try clear hfz8_5
 obtain ⟨kq, x13_2, rfl, HA, HJ2, BK341, HB⟩ := hcut
 rcases kq with _ | kj2
 ·exact absurd HA.out (by simp [newsreellaw41_RetainTells.j0])
 have H := HA.out
 clear HA
 simp only [newsreellaw41_RetainTells.j0] at H
 by_cases c14 : x13_2 = true
 ·subst c14
  have H1 : ((newsreellaw41_awake.f kj2).bind fun t344 => (some t344)) = some r := by rw [if_pos rfl] at H; exact H
  clear H
  have H := H1
  clear H1
  replace H := Option.bind_eq_some_iff.mp H
  obtain ⟨t344, A150, H⟩ := H
  replace H : (some t344) = some r := H
  have A15 := mkA A150
  clear A150
  as_aux_lemma =>
   obtain rfl := Option.some.inj H
   go_wp2_with (first | ((with_reducible refine gate_load (t := 25) rfl ?_); refine load_row3 (t := 25) (g := gb341) ?hg BK341.out ?ho ?hb Try.underlying25 rfl ?hs ?_; (case hg => rfl); (case ho => refine ⟨_, rfl, ?_⟩; first | (with_reducible rfl) | (go_simp; done)); (case hb => (with_reducible repeat (first | refine blk_drewN ?_ _ | refine blk_drew ?_ | refine blk_alloc ?_ _)); with_reducible exact BK341.out); (case hs => kernel_rfl)) | ((with_reducible refine gate_callee (f := 7) rfl ?_); refine goesL_ (some 14) rfl rfl Try.func7 (by kernel_rfl) rfl #[] rfl ca ?_; (with_reducible refine (newsreellaw41_awake.calls _ _ _ A15.out).mono ?_); rintro e w16 ⟨rfl, hb⟩; refine ⟨_, rfl, ?_⟩; have n0_ := mkA (blk_below (blk_y BK341.out) hb); have n1_ := mkA (below_step (below_y HB.out) hb); clear BK341; clear HB; have BK341 := n0_; have HB := n1_; clear n0_ n1_; (try clear hb); (try clear hb2); (try clear hk); (try clear hi)))
   go_ret
   exact ⟨by first | rfl | (simp [errW_none, errW_some] <;> rfl) | (simp [*, errW_none, errW_some] <;> rfl), by repeat (first | (with_reducible first | exact HB.out | apply below_alloc | apply pw_below_drewN | apply below_drew1 | refine below_set ?_ GE341.out) | exact HB.out)⟩
 replace c14 := Bool.eq_false_iff.mpr c14
 subst c14
 have H1 : (newsreellaw41_RetainTells.l0 kj2 a1 0 a0_0 a0_1 a0_2 a0_3 l0_4 l0_5) = some r := by rw [if_neg (show ¬ (false = true) by decide)] at H; exact H
 clear H
 have H := H1
 clear H1
 have H' := mkA H
 clear H
 go_wp2_with (first | ((with_reducible refine gate_load (t := 25) rfl ?_); refine load_row3 (t := 25) (g := gb341) ?hg BK341.out ?ho ?hb Try.underlying25 rfl ?hs ?_; (case hg => rfl); (case ho => refine ⟨_, rfl, ?_⟩; first | (with_reducible rfl) | (go_simp; done)); (case hb => (with_reducible repeat (first | refine blk_drewN ?_ _ | refine blk_drew ?_ | refine blk_alloc ?_ _)); with_reducible exact BK341.out); (case hs => kernel_rfl)))
 go_loopg [5] kj2 (fun kq v5 w' => ∃ (x5_2 : Int), v5 = .int .i64 x5_2 ∧ Aside0 (newsreellaw41_RetainTells.l0 kq a1 x5_2 a0_0 a0_1 a0_2 a0_3 l0_4 l0_5 = some r) ∧ Aside0 (kq ≤ kj2) ∧ Aside0 (w'.heap[gb341]? = some (.cells #[.int .i64 a0_0, .int .i64 a0_1, .int .i64 a0_2, .int .i64 a0_3, (.slice A0_4 l0_4.length c0_4), (.slice A0_5 l0_5.length c0_5)] 25 (0, 0))) ∧ Aside0 (Below w.heap.size w w'))
 case atStart => exact ⟨(0), (by first | rfl | (simp; done) | (simp [*]; done)), H', ⟨Nat.le_refl _⟩, ⟨by (with_reducible repeat (first | refine blk_drewN ?_ _ | refine blk_drew ?_ | refine blk_alloc ?_ _)); exact BK341.out⟩, ⟨by repeat (first | (with_reducible first | exact HB.out | apply below_alloc | apply pw_below_drewN | apply below_drew1 | refine below_set ?_ GE341.out) | exact HB.out)⟩⟩
 clear H'
 try clear c1
 try clear p2
 try clear c3
 try clear c5
 try clear c6
 try clear c7
 try clear c14
 try clear hcz10_0
 try clear hcz10_1
 try clear hcz10_2
 try clear hcz10_3
 try clear hcz10_4
 try clear hcz10_5
 try clear hcz12_0
 try clear hcz12_1
 try clear hcz12_2
 try clear hcz12_3
 try clear hcz12_4
 try clear hcz12_5
 try clear hcz8_0
 try clear hcz8_1
 try clear hcz8_2
 try clear hcz8_3
 try clear hcz8_4
 try clear hcz8_5
 try clear hfz10_0
 try clear hfz10_1
 try clear hfz10_2
 try clear hfz10_3
 try clear hfz10_4
 try clear hfz10_5
 try clear hfz12_0
 try clear hfz12_1
 try clear hfz12_2
 try clear hfz12_3
 try clear hfz12_4
 try clear hfz12_5
 try clear hfz8_0
 try clear hfz8_1
 try clear hfz8_2
 try clear hfz8_3
 try clear hfz8_4
 try clear hfz8_5
 try clear p2
 obtain ⟨x5_2, rfl, HA, HK2, BK341, HB⟩ := hrel
 rcases gk with _ | k2
 ·exact absurd HA.out (by simp [newsreellaw41_RetainTells.l0])
 have H := HA.out
 clear HA
 simp only [newsreellaw41_RetainTells.l0] at H
 by_cases c17 : x5_2 < (l0_5.length : Int)
 rotate_left
 ·rw [if_neg c17] at H
  have c17b0 : decide (x5_2 < (l0_5.length : Int)) = false := decide_eq_false c17
  clear c17
  replace H := Option.bind_eq_some_iff.mp H
  obtain ⟨t387, A260, H⟩ := H
  replace H : ((newsreelref41_Over.f k2 a0_0 a0_1 a0_2 a0_3 l0_4 l0_5 a1).bind fun t390 => ((newsreelref21_Ints.f k2 t387 t390).bind fun t393 => (if t393 = true then ((retain_Apply.f k2 a0_0 a0_1 a0_2 a0_3 l0_4 l0_5 a1).bind fun t394 => ((newsreelref41_Apply.f k2 a0_0 a0_1 a0_2 a0_3 l0_4 l0_5 a1).bind fun t397 => ((newsreelref15_Changes.f k2 t394 t397).bind fun t400 => (if t400 = true then ((newsreellaw41_awake.f k2).bind fun t401 => (some t401)) else (some false))))) else (some false)))) = some r := H
  have A26 := mkA A260
  clear A260
  replace H := Option.bind_eq_some_iff.mp H
  obtain ⟨t390, A270, H⟩ := H
  replace H : ((newsreelref21_Ints.f k2 t387 t390).bind fun t393 => (if t393 = true then ((retain_Apply.f k2 a0_0 a0_1 a0_2 a0_3 l0_4 l0_5 a1).bind fun t394 => ((newsreelref41_Apply.f k2 a0_0 a0_1 a0_2 a0_3 l0_4 l0_5 a1).bind fun t397 => ((newsreelref15_Changes.f k2 t394 t397).bind fun t400 => (if t400 = true then ((newsreellaw41_awake.f k2).bind fun t401 => (some t401)) else (some false))))) else (some false))) = some r := H
  have A27 := mkA A270
  clear A270
  replace H := Option.bind_eq_some_iff.mp H
  obtain ⟨t393, A280, H⟩ := H
  replace H : (if t393 = true then ((retain_Apply.f k2 a0_0 a0_1 a0_2 a0_3 l0_4 l0_5 a1).bind fun t394 => ((newsreelref41_Apply.f k2 a0_0 a0_1 a0_2 a0_3 l0_4 l0_5 a1).bind fun t397 => ((newsreelref15_Changes.f k2 t394 t397).bind fun t400 => (if t400 = true then ((newsreellaw41_awake.f k2).bind fun t401 => (some t401)) else (some false))))) else (some false)) = some r := H
  have A28 := mkA A280
  clear A280
  by_cases c29 : t393 = true
  ·subst c29
   have H1 : ((retain_Apply.f k2 a0_0 a0_1 a0_2 a0_3 l0_4 l0_5 a1).bind fun t394 => ((newsreelref41_Apply.f k2 a0_0 a0_1 a0_2 a0_3 l0_4 l0_5 a1).bind fun t397 => ((newsreelref15_Changes.f k2 t394 t397).bind fun t400 => (if t400 = true then ((newsreellaw41_awake.f k2).bind fun t401 => (some t401)) else (some false))))) = some r := by rw [if_pos rfl] at H; exact H
   clear H
   have H := H1
   clear H1
   replace H := Option.bind_eq_some_iff.mp H
   obtain ⟨t394, A300, H⟩ := H
   replace H : ((newsreelref41_Apply.f k2 a0_0 a0_1 a0_2 a0_3 l0_4 l0_5 a1).bind fun t397 => ((newsreelref15_Changes.f k2 t394 t397).bind fun t400 => (if t400 = true then ((newsreellaw41_awake.f k2).bind fun t401 => (some t401)) else (some false)))) = some r := H
   have A30 := mkA A300
   clear A300
   replace H := Option.bind_eq_some_iff.mp H
   obtain ⟨t397, A310, H⟩ := H
   replace H : ((newsreelref15_Changes.f k2 t394 t397).bind fun t400 => (if t400 = true then ((newsreellaw41_awake.f k2).bind fun t401 => (some t401)) else (some false))) = some r := H
   have A31 := mkA A310
   clear A310
   replace H := Option.bind_eq_some_iff.mp H
   obtain ⟨t400, A320, H⟩ := H
   replace H : (if t400 = true then ((newsreellaw41_awake.f k2).bind fun t401 => (some t401)) else (some false)) = some r := H
   have A32 := mkA A320
   clear A320
   by_cases c33 : t400 = true
   ·subst c33
    have H1 : ((newsreellaw41_awake.f k2).bind fun t401 => (some t401)) = some r := by rw [if_pos rfl] at H; exact H
    clear H
    have H := H1
    clear H1
    replace H := Option.bind_eq_some_iff.mp H
    obtain ⟨t401, A340, H⟩ := H
    replace H : (some t401) = some r := H
    have A34 := mkA A340
    clear A340
    as_aux_lemma =>
     obtain rfl := Option.some.inj H
     have hcz35_0 := bc BK341.out 0 _ rfl
     have hcz35_1 := bc BK341.out 1 _ rfl
     have hcz35_2 := bc BK341.out 2 _ rfl
     have hcz35_3 := bc BK341.out 3 _ rfl
     have hcz35_4 := bc BK341.out 4 _ rfl
     have hcz35_5 := bc BK341.out 5 _ rfl
     have hfz35_0 := blk_frozen BK341.out 0
     have hfz35_1 := blk_frozen BK341.out 1
     have hfz35_2 := blk_frozen BK341.out 2
     have hfz35_3 := blk_frozen BK341.out 3
     have hfz35_4 := blk_frozen BK341.out 4
     have hfz35_5 := blk_frozen BK341.out 5
     try go_wp2_with (first | ((with_reducible refine gate_load (t := 25) rfl ?_); refine load_row3 (t := 25) (g := gb341) ?hg BK341.out ?ho ?hb Try.underlying25 rfl ?hs ?_; (case hg => rfl); (case ho => refine ⟨_, rfl, ?_⟩; first | (with_reducible rfl) | (go_simp; done)); (case hb => (with_reducible repeat (first | refine blk_drewN ?_ _ | refine blk_drew ?_ | refine blk_alloc ?_ _)); with_reducible exact BK341.out); (case hs => kernel_rfl)))
     have n0_ := mkA (blk_drew BK341.out)
     have n1_ := mkA (below_drew1 HB.out)
     clear BK341 HB
     have BK341 := n0_
     have HB := n1_
     clear n0_ n1_
     refine start_ (n := 20) (S := fun w' => w'.cell? ⟨gb341, 0, none⟩ = some (.int .i64 a0_0) ∧ w'.cell? ⟨gb341, 1, none⟩ = some (.int .i64 a0_1) ∧ w'.cell? ⟨gb341, 2, none⟩ = some (.int .i64 a0_2) ∧ w'.cell? ⟨gb341, 3, none⟩ = some (.int .i64 a0_3) ∧ w'.cell? ⟨gb341, 4, none⟩ = some (.slice A0_4 l0_4.length c0_4) ∧ w'.cell? ⟨gb341, 5, none⟩ = some (.slice A0_5 l0_5.length c0_5)) (ds := []) #[false, false, false, false, false, false, false, false, false, false, false, false, false, false, false, false, false, false, false, false] (by kernel_rfl) rfl rfl ⟨(blk_cell BK341.out 0).trans rfl, (blk_cell BK341.out 1).trans rfl, (blk_cell BK341.out 2).trans rfl, (blk_cell BK341.out 3).trans rfl, (blk_cell BK341.out 4).trans rfl, (blk_cell BK341.out 5).trans rfl⟩ (fun hHeld => ?_); refine with_tabW newsreellaw41_RetainTells.tab8 newsreellaw41_RetainTells.bits8 (fun HT_ HW_ => ?_)
     generalize wr.drew = w36 at BK341 HB hHeld ⊢
     refine pu 1 36 HT_ ?_
     refine pu 4 39 HT_ ?_
     refine take_ (i := 0) (N := some 35) (v := ?_) (a' := ?_) #[true, true, false, false, true, false, false, false, false, false, false, false, false, false, false, false, false, false, false, false] rfl rfl (take_ofW HT_.out HW_.out (by kernel_rfl)) (fun _ _ _ h => h) (Or.inl ⟨by rfl, ?_⟩) hHeld ?_ ?_
     rotate_left
     ·rintro w' ⟨s0, s1, s2, s3, s4, s5⟩
      first | (have hz_ := fun (a : Act) (o : Oper) (x : Operand) (ho : o.op = .load 25 x) (hx : a.eval x = _) => exec_load_at (P := Try.prog) (W := w') (cs := [_, _, _, _, _]) ho hx Try.underlying25 rfl (by kernel_rfl) s0 ⟨s1, s2, s3, s4, s5, trivial⟩; refine (hz_ _ _ (.tmp 2) ?_ ?_).trans ?_; (focus rfl); (focus (first | (with_reducible rfl) | (go_simp; done))); with_reducible rfl) | (go_simp; with_reducible rfl)
     rotate_left
     ·simp only [Act.put, sA, s0, sS, i64_w, i32_w]
      rfl
     refine take_ (i := 3) (N := some 38) (v := ?_) (a' := ?_) #[true, true, false, true, true, false, false, false, false, false, false, false, false, false, false, false, false, false, false, false] rfl rfl (take_ofW HT_.out HW_.out (by kernel_rfl)) (fun _ _ _ h => h) (Or.inl ⟨by rfl, ?_⟩) hHeld ?_ ?_
     rotate_left
     ·rintro w' ⟨s0, s1, s2, s3, s4, s5⟩
      first | (have hz_ := fun (a : Act) (o : Oper) (x : Operand) (ho : o.op = .load 25 x) (hx : a.eval x = _) => exec_load_at (P := Try.prog) (W := w') (cs := [_, _, _, _, _]) ho hx Try.underlying25 rfl (by kernel_rfl) s0 ⟨s1, s2, s3, s4, s5, trivial⟩; refine (hz_ _ _ (.tmp 2) ?_ ?_).trans ?_; (focus rfl); (focus (first | (with_reducible rfl) | (go_simp; done))); with_reducible rfl) | (go_simp; with_reducible rfl)
     rotate_left
     ·simp only [Act.put, sA, s0, sS, i64_w, i32_w]
      rfl
     refine one_ (i := 2) (N := some 37) #[true, true, true, true, true, false, false, false, false, false, false, false, false, false, false, false, false, false, false, false] rfl rfl (one_of HT_.out (by kernel_rfl)) (by decide) (fun K hK => ?_)
     refine goes_ Try.func11 (by kernel_rfl) rfl #[.agg #[.int .i64 a0_0, .int .i64 a0_1, .int .i64 a0_2, .int .i64 a0_3, .slice A0_4 l0_4.length c0_4, .slice A0_5 l0_5.length c0_5], .int .i64 a1] (by rfl) rfl rfl ca ?_
     with_reducible refine (retain_Over.calls _ _ _ _ _ _ _ _ _ _ _ _ _ _ ?side1 ?side2 ?side3 ?side4 A26.out).mono ?_
     (case side1 => exact cz HR0_4.out HB.out)
     (case side2 => exact HC0_4.out)
     (case side3 => exact cz HR0_5.out HB.out)
     (case side4 => exact HC0_5.out)
     rintro e w37 ⟨v388, rfl, ho0, hb⟩
     refine ⟨_, rfl, ?_⟩
     have n0_ := mkA (Kd.R_lower ho0 (below_size (below_y HB.out)))
     have n1_ := mkA (blk_below (blk_y BK341.out) hb)
     have n2_ := mkA (below_step (below_y HB.out) hb)
     clear BK341 HB
     have HO389 := n0_
     have BK341 := n1_
     have HB := n2_
     clear n0_ n1_ n2_
     (try clear hb)
     (try clear hb2)
     (try clear hk)
     (try clear hi)
     (try clear ho0)
     refine hK.out _ _ ⟨(blk_cell BK341.out 0).trans rfl, (blk_cell BK341.out 1).trans rfl, (blk_cell BK341.out 2).trans rfl, (blk_cell BK341.out 3).trans rfl, (blk_cell BK341.out 4).trans rfl, (blk_cell BK341.out 5).trans rfl⟩ (fun hHeld => ?_)
     clear hK K
     refine norm_ (a' := ?_) ?_ ?_
     rotate_left
     ·show Act.put _ (some 37) _ = _
      simp only [Act.put, sA, s0, sS, i64_w, i32_w]
      rfl
     refine one_ (i := 5) (N := some 40) #[true, true, true, true, true, true, false, false, false, false, false, false, false, false, false, false, false, false, false, false] rfl rfl (one_of HT_.out (by kernel_rfl)) (by decide) (fun K hK => ?_)
     refine goes_ Try.func12 (by kernel_rfl) rfl #[.agg #[.int .i64 a0_0, .int .i64 a0_1, .int .i64 a0_2, .int .i64 a0_3, .slice A0_4 l0_4.length c0_4, .slice A0_5 l0_5.length c0_5], .int .i64 a1] (by rfl) rfl rfl ca ?_
     with_reducible refine (newsreelref41_Over.calls _ _ _ _ _ _ _ _ _ _ _ _ _ _ ?side1 ?side2 ?side3 ?side4 A27.out).mono ?_
     (case side1 => exact cz HR0_4.out HB.out)
     (case side2 => exact HC0_4.out)
     (case side3 => exact cz HR0_5.out HB.out)
     (case side4 => exact HC0_5.out)
     rintro e w38 ⟨v391, rfl, ho0, hb⟩
     refine ⟨_, rfl, ?_⟩
     have n0_ := mkA (Kd.R_elder' (Kd.R_y HO389.out) (Kd.R_base ho0) hb)
     have n1_ := mkA (Kd.R_lower (Kd.R_new' ho0 (Kd.R_lt (Kd.R_y HO389.out))) (below_size (below_y HB.out)))
     have n2_ := mkA (blk_below (blk_y BK341.out) hb)
     have n3_ := mkA (below_step (below_y HB.out) hb)
     clear HO389 BK341 HB
     have HO389 := n0_
     have HO392 := n1_
     have BK341 := n2_
     have HB := n3_
     clear n0_ n1_ n2_ n3_
     (try clear hb)
     (try clear hb2)
     (try clear hk)
     (try clear hi)
     (try clear ho0)
     obtain ⟨Ao39, co39, eo39⟩ := Kd.R_slice HO389.out
     (first | subst eo39 | (injection eo39 with f1_ f2_ f3_; have f4_ := f1_.symm; have f5_ := f3_.symm; clear f1_ f2_ f3_; subst f4_; subst f5_))
     obtain ⟨Ao40, co40, eo40⟩ := Kd.R_slice HO392.out
     (first | subst eo40 | (injection eo40 with f1_ f2_ f3_; have f4_ := f1_.symm; have f5_ := f3_.symm; clear f1_ f2_ f3_; subst f4_; subst f5_))
     refine hK.out _ _ ⟨(blk_cell BK341.out 0).trans rfl, (blk_cell BK341.out 1).trans rfl, (blk_cell BK341.out 2).trans rfl, (blk_cell BK341.out 3).trans rfl, (blk_cell BK341.out 4).trans rfl, (blk_cell BK341.out 5).trans rfl⟩ (fun hHeld => ?_)
     clear hK K
     refine norm_ (a' := ?_) ?_ ?_
     rotate_left
     ·show Act.put _ (some 40) _ = _
      simp only [Act.put, sA, s0, sS, i64_w, i32_w]
      rfl
     refine one_ (i := 6) (N := some 41) #[true, true, true, true, true, true, true, false, false, false, false, false, false, false, false, false, false, false, false, false] rfl rfl (one_of HT_.out (by kernel_rfl)) (by decide) (fun K hK => ?_)
     refine goes_ Try.func10 (by kernel_rfl) rfl #[.slice Ao39 t387.length co39, .slice Ao40 t390.length co40] (by rfl) rfl rfl ca ?_
     with_reducible refine (newsreelref21_Ints.calls _ _ _ _ _ _ _ true _ ?side1 ?side2 ?side3 ?side4 A28.out).mono ?_
     (case side1 => exact Kd.C_y (Kd.R_reads' HO389.out).2.2)
     (case side2 => exact (Kd.R_reads' HO389.out).2.1)
     (case side3 => exact Kd.C_y (Kd.R_reads' HO392.out).2.2)
     (case side4 => exact (Kd.R_reads' HO392.out).2.1)
     rintro e w' ⟨rfl, ⟨nd, rfl⟩⟩
     refine ⟨_, rfl, ?_⟩
     refine hK.out _ _ ⟨(blk_cell BK341.out 0).trans rfl, (blk_cell BK341.out 1).trans rfl, (blk_cell BK341.out 2).trans rfl, (blk_cell BK341.out 3).trans rfl, (blk_cell BK341.out 4).trans rfl, (blk_cell BK341.out 5).trans rfl⟩ (fun hHeld => ?_)
     clear hK K
     refine norm_ (a' := ?_) ?_ ?_
     rotate_left
     ·show Act.put _ (some 41) _ = _
      simp only [Act.put, sA, s0, sS, i64_w, i32_w]
      rfl
     refine pu 7 42 HT_ ?_
     refine pu 9 44 HT_ ?_
     refine pu 12 47 HT_ ?_
     refine take_ (i := 8) (N := some 43) (v := ?_) (a' := ?_) #[true, true, true, true, true, true, true, true, true, true, false, false, true, false, false, false, false, false, false, false] rfl rfl (take_ofW HT_.out HW_.out (by kernel_rfl)) (fun _ _ _ h => h) (Or.inl ⟨by rfl, ?_⟩) hHeld ?_ ?_
     rotate_left
     ·rintro w' ⟨s0, s1, s2, s3, s4, s5⟩
      first | (have hz_ := fun (a : Act) (o : Oper) (x : Operand) (ho : o.op = .load 25 x) (hx : a.eval x = _) => exec_load_at (P := Try.prog) (W := w') (cs := [_, _, _, _, _]) ho hx Try.underlying25 rfl (by kernel_rfl) s0 ⟨s1, s2, s3, s4, s5, trivial⟩; refine (hz_ _ _ (.tmp 2) ?_ ?_).trans ?_; (focus rfl); (focus (first | (with_reducible rfl) | (go_simp; done))); with_reducible rfl) | (go_simp; with_reducible rfl)
     rotate_left
     ·simp only [Act.put, sA, s0, sS, i64_w, i32_w]
      rfl
     refine take_ (i := 11) (N := some 46) (v := ?_) (a' := ?_) #[true, true, true, true, true, true, true, true, true, true, false, true, true, false, false, false, false, false, false, false] rfl rfl (take_ofW HT_.out HW_.out (by kernel_rfl)) (fun _ _ _ h => h) (Or.inl ⟨by rfl, ?_⟩) hHeld ?_ ?_
     rotate_left
     ·rintro w' ⟨s0, s1, s2, s3, s4, s5⟩
      first | (have hz_ := fun (a : Act) (o : Oper) (x : Operand) (ho : o.op = .load 25 x) (hx : a.eval x = _) => exec_load_at (P := Try.prog) (W := w') (cs := [_, _, _, _, _]) ho hx Try.underlying25 rfl (by kernel_rfl) s0 ⟨s1, s2, s3, s4, s5, trivial⟩; refine (hz_ _ _ (.tmp 2) ?_ ?_).trans ?_; (focus rfl); (focus (first | (with_reducible rfl) | (go_simp; done))); with_reducible rfl) | (go_simp; with_reducible rfl)
     rotate_left
     ·simp only [Act.put, sA, s0, sS, i64_w, i32_w]
      rfl
     refine one_ (i := 10) (N := some 45) #[true, true, true, true, true, true, true, true, true, true, true, true, true, false, false, false, false, false, false, false] rfl rfl (one_of HT_.out (by kernel_rfl)) (by decide) (fun K hK => ?_)
     refine goes_ Try.func14 (by kernel_rfl) rfl #[.agg #[.int .i64 a0_0, .int .i64 a0_1, .int .i64 a0_2, .int .i64 a0_3, .slice A0_4 l0_4.length c0_4, .slice A0_5 l0_5.length c0_5], .int .i64 a1] (by rfl) rfl rfl ca ?_
     with_reducible refine (retain_Apply.calls _ _ _ _ _ _ _ _ _ _ _ _ _ _ ?side1 ?side2 ?side3 ?side4 A30.out).mono ?_
     (case side1 => exact Kd.C_y (Kd.C_below HR0_4.out (below_y HB.out)))
     (case side2 => exact HC0_4.out)
     (case side3 => exact Kd.C_y (Kd.C_below HR0_5.out (below_y HB.out)))
     (case side4 => exact HC0_5.out)
     rintro e w41 ⟨v395, rfl, ho0, hb⟩
     refine ⟨_, rfl, ?_⟩
     have n0_ := mkA (Kd.R_below (Kd.R_y HO389.out) hb)
     have n1_ := mkA (Kd.R_below (Kd.R_y HO392.out) hb)
     have n2_ := mkA (Kd.R_lower ho0 (below_size (below_y HB.out)))
     have n3_ := mkA (blk_below (blk_y BK341.out) hb)
     have n4_ := mkA (below_step (below_y HB.out) hb)
     clear HO389 HO392 BK341 HB
     have HO389 := n0_
     have HO392 := n1_
     have HO396 := n2_
     have BK341 := n3_
     have HB := n4_
     clear n0_ n1_ n2_ n3_ n4_
     (try clear hb)
     (try clear hb2)
     (try clear hk)
     (try clear hi)
     (try clear ho0)
     refine hK.out _ _ ⟨(blk_cell BK341.out 0).trans rfl, (blk_cell BK341.out 1).trans rfl, (blk_cell BK341.out 2).trans rfl, (blk_cell BK341.out 3).trans rfl, (blk_cell BK341.out 4).trans rfl, (blk_cell BK341.out 5).trans rfl⟩ (fun hHeld => ?_)
     clear hK K
     refine norm_ (a' := ?_) ?_ ?_
     rotate_left
     ·show Act.put _ (some 45) _ = _
      simp only [Act.put, sA, s0, sS, i64_w, i32_w]
      rfl
     refine one_ (i := 13) (N := some 48) #[true, true, true, true, true, true, true, true, true, true, true, true, true, true, false, false, false, false, false, false] rfl rfl (one_of HT_.out (by kernel_rfl)) (by decide) (fun K hK => ?_)
     refine goes_ Try.func15 (by kernel_rfl) rfl #[.agg #[.int .i64 a0_0, .int .i64 a0_1, .int .i64 a0_2, .int .i64 a0_3, .slice A0_4 l0_4.length c0_4, .slice A0_5 l0_5.length c0_5], .int .i64 a1] (by rfl) rfl rfl ca ?_
     with_reducible refine (newsreelref41_Apply.calls _ _ _ _ _ _ _ _ _ _ _ _ _ _ ?side1 ?side2 ?side3 ?side4 A31.out).mono ?_
     (case side1 => exact cz HR0_4.out HB.out)
     (case side2 => exact HC0_4.out)
     (case side3 => exact cz HR0_5.out HB.out)
     (case side4 => exact HC0_5.out)
     rintro e w42 ⟨v398, rfl, ho0, hb⟩
     refine ⟨_, rfl, ?_⟩
     have n0_ := mkA (Kd.R_below (Kd.R_y HO389.out) hb)
     have n1_ := mkA (Kd.R_below (Kd.R_y HO392.out) hb)
     have n2_ := mkA (Kd.R_elder' (Kd.R_y HO396.out) (Kd.R_base ho0) hb)
     have n3_ := mkA (Kd.R_lower (Kd.R_new' ho0 (Kd.R_lt (Kd.R_y HO396.out))) (below_size (below_y HB.out)))
     have n4_ := mkA (blk_below (blk_y BK341.out) hb)
     have n5_ := mkA (below_step (below_y HB.out) hb)
     clear HO389 HO392 HO396 BK341 HB
     have HO389 := n0_
     have HO392 := n1_
     have HO396 := n2_
     have HO399 := n3_
     have BK341 := n4_
     have HB := n5_
     clear n0_ n1_ n2_ n3_ n4_ n5_
     (try clear hb)
     (try clear hb2)
     (try clear hk)
     (try clear hi)
     (try clear ho0)
     obtain ⟨Ao43, co43, eo43⟩ := Kd.R_slice HO396.out
     (first | subst eo43 | (injection eo43 with f1_ f2_ f3_; have f4_ := f1_.symm; have f5_ := f3_.symm; clear f1_ f2_ f3_; subst f4_; subst f5_))
     obtain ⟨Ao44, co44, eo44⟩ := Kd.R_slice HO399.out
     (first | subst eo44 | (injection eo44 with f1_ f2_ f3_; have f4_ := f1_.symm; have f5_ := f3_.symm; clear f1_ f2_ f3_; subst f4_; subst f5_))
     refine hK.out _ _ ⟨(blk_cell BK341.out 0).trans rfl, (blk_cell BK341.out 1).trans rfl, (blk_cell BK341.out 2).trans rfl, (blk_cell BK341.out 3).trans rfl, (blk_cell BK341.out 4).trans rfl, (blk_cell BK341.out 5).trans rfl⟩ (fun hHeld => ?_)
     clear hK K
     refine norm_ (a' := ?_) ?_ ?_
     rotate_left
     ·show Act.put _ (some 48) _ = _
      simp only [Act.put, sA, s0, sS, i64_w, i32_w]
      rfl
     refine one_ (i := 14) (N := some 49) #[true, true, true, true, true, true, true, true, true, true, true, true, true, true, true, false, false, false, false, false] rfl rfl (one_of HT_.out (by kernel_rfl)) (by decide) (fun K hK => ?_)
     refine goes_ Try.func13 (by kernel_rfl) rfl #[.slice Ao43 t394.length co43, .slice Ao44 t397.length co44] (by rfl) rfl rfl ca ?_
     with_reducible refine (newsreelref15_Changes.calls _ _ _ _ _ _ _ true _ ?side1 ?side2 ?side3 ?side4 A32.out).mono ?_
     (case side1 => exact Kd.C_y (Kd.R_reads' HO396.out).2.2)
     (case side2 => exact (Kd.R_reads' HO396.out).2.1)
     (case side3 => exact Kd.C_y (Kd.R_reads' HO399.out).2.2)
     (case side4 => exact (Kd.R_reads' HO399.out).2.1)
     rintro e w' ⟨rfl, ⟨nd, rfl⟩⟩
     refine ⟨_, rfl, ?_⟩
     refine hK.out _ _ ⟨(blk_cell BK341.out 0).trans rfl, (blk_cell BK341.out 1).trans rfl, (blk_cell BK341.out 2).trans rfl, (blk_cell BK341.out 3).trans rfl, (blk_cell BK341.out 4).trans rfl, (blk_cell BK341.out 5).trans rfl⟩ (fun hHeld => ?_)
     clear hK K
     refine norm_ (a' := ?_) ?_ ?_
     rotate_left
     ·show Act.put _ (some 49) _ = _
      simp only [Act.put, sA, s0, sS, i64_w, i32_w]
      rfl
     refine pu 15 50 HT_ ?_
     refine pu 16 51 HT_ ?_
     refine one_ (i := 17) (N := some 52) #[true, true, true, true, true, true, true, true, true, true, true, true, true, true, true, true, true, true, false, false] rfl rfl (one_of HT_.out (by kernel_rfl)) (by decide) (fun K hK => ?_)
     refine goes_ Try.func7 (by kernel_rfl) rfl #[] (by rfl) rfl rfl ca ?_
     with_reducible refine (newsreellaw41_awake.calls _ _ _ A34.out).mono ?_
     rintro e w45 ⟨rfl, hb⟩
     have hbk_w45 := mkA hb
     refine ⟨_, rfl, ?_⟩
     have n0_ := mkA (Kd.R_below (Kd.R_y HO389.out) hb)
     have n1_ := mkA (Kd.R_below (Kd.R_y HO392.out) hb)
     have n2_ := mkA (Kd.R_below (Kd.R_y HO396.out) hb)
     have n3_ := mkA (Kd.R_below (Kd.R_y HO399.out) hb)
     have n4_ := mkA (blk_below (blk_y BK341.out) hb)
     have n5_ := mkA (below_step (below_y HB.out) hb)
     clear HO389 HO392 HO396 HO399 BK341 HB
     have HO389 := n0_
     have HO392 := n1_
     have HO396 := n2_
     have HO399 := n3_
     have BK341 := n4_
     have HB := n5_
     clear n0_ n1_ n2_ n3_ n4_ n5_
     (try clear hb)
     (try clear hb2)
     (try clear hk)
     (try clear hi)
     refine hK.out _ _ ⟨(blk_cell BK341.out 0).trans rfl, (blk_cell BK341.out 1).trans rfl, (blk_cell BK341.out 2).trans rfl, (blk_cell BK341.out 3).trans rfl, (blk_cell BK341.out 4).trans rfl, (blk_cell BK341.out 5).trans rfl⟩ (fun hHeld => ?_)
     clear hK K
     refine norm_ (a' := ?_) ?_ ?_
     rotate_left
     ·show Act.put _ (some 52) _ = _
      simp only [Act.put, sA, s0, sS, i64_w, i32_w]
      rfl
     refine pu 18 53 HT_ ?_
     refine pu 19 4 HT_ ?_
     refine done_ (done_of HT_.out (by kernel_rfl)) ?_
     try go_wp2_with (first | ((with_reducible refine gate_load (t := 25) rfl ?_); refine load_row3 (t := 25) (g := gb341) ?hg BK341.out ?ho ?hb Try.underlying25 rfl ?hs ?_; (case hg => rfl); (case ho => refine ⟨_, rfl, ?_⟩; first | (with_reducible rfl) | (go_simp; done)); (case hb => (with_reducible repeat (first | refine blk_drewN ?_ _ | refine blk_drew ?_ | refine blk_alloc ?_ _)); with_reducible exact BK341.out); (case hs => kernel_rfl)))
     go_ret
     exact ⟨by first | rfl | (simp [errW_none, errW_some] <;> rfl) | (simp [*, errW_none, errW_some] <;> rfl), by repeat (first | (with_reducible first | exact HB.out | apply below_alloc | apply pw_below_drewN | apply below_drew1 | refine below_set ?_ GE341.out) | exact HB.out)⟩
   ·replace c33 := Bool.eq_false_iff.mpr c33
    subst c33
    have H1 : (some false) = some r := by rw [if_neg (show ¬ (false = true) by decide)] at H; exact H
    clear H
    have H := H1
    clear H1
    as_aux_lemma =>
     cases (Option.some.inj H).trans ht_
  ·replace c29 := Bool.eq_false_iff.mpr c29
   subst c29
   have H1 : (some false) = some r := by rw [if_neg (show ¬ (false = true) by decide)] at H; exact H
   clear H
   have H := H1
   clear H1
   as_aux_lemma =>
    cases (Option.some.inj H).trans ht_
 rw [if_pos c17] at H
 have c17b0 : decide (x5_2 < (l0_5.length : Int)) = true := decide_eq_true c17
 clear c17
 by_cases c18 : 0 ≤ x5_2
 rotate_left
 ·rw [if_neg c18] at H
  exact absurd H (by simp)
 rw [if_pos c18] at H
 have c18b0 : decide (0 ≤ x5_2) = true := decide_eq_true c18
 clear c18
 replace H := Option.bind_eq_some_iff.mp H
 obtain ⟨⟨t346, t347, t348, t349, t350, t351, t352, t353, t354, t355, t356, t357, t358, t359, t360, t361, t362, t363, t364, t365⟩, A190, H⟩ := H
 replace H : ((newsreelref41_Gone.f ((rd_T29 l0_5 x5_2).f0) ((rd_T29 l0_5 x5_2).f1) ((rd_T29 l0_5 x5_2).f2) ((rd_T29 l0_5 x5_2).f3) ((rd_T29 l0_5 x5_2).f4) ((rd_T29 l0_5 x5_2).f5) ((rd_T29 l0_5 x5_2).f6) ((rd_T29 l0_5 x5_2).f7) ((rd_T29 l0_5 x5_2).f8) ((rd_T29 l0_5 x5_2).f9) ((rd_T29 l0_5 x5_2).f10) ((rd_T29 l0_5 x5_2).f11) ((rd_T29 l0_5 x5_2).f12) ((rd_T29 l0_5 x5_2).f13) ((rd_T29 l0_5 x5_2).f14) ((rd_T29 l0_5 x5_2).f15) ((rd_T29 l0_5 x5_2).f16) ((rd_T29 l0_5 x5_2).f17) ((rd_T29 l0_5 x5_2).f18) ((rd_T29 l0_5 x5_2).f19)).bind fun bt367 => (if (!(t346 == bt367.1) || (!(t347 == bt367.2.1) || (!(t348.toList == bt367.2.2.1.toList) || (!(t349.toList == bt367.2.2.2.1.toList) || (!(t350.toList == bt367.2.2.2.2.1.toList) || (!(t351 == bt367.2.2.2.2.2.1) || (!(t352 == bt367.2.2.2.2.2.2.1) || (!(t353 == bt367.2.2.2.2.2.2.2.1) || (!(t354 == bt367.2.2.2.2.2.2.2.2.1) || (!(t355 == bt367.2.2.2.2.2.2.2.2.2.1) || (!(t356 == bt367.2.2.2.2.2.2.2.2.2.2.1) || (!(t357 == bt367.2.2.2.2.2.2.2.2.2.2.2.1) || (!(t358 == bt367.2.2.2.2.2.2.2.2.2.2.2.2.1) || (!(t359.toList == bt367.2.2.2.2.2.2.2.2.2.2.2.2.2.1.toList) || (!(t360 == bt367.2.2.2.2.2.2.2.2.2.2.2.2.2.2.1) || (!(t361 == bt367.2.2.2.2.2.2.2.2.2.2.2.2.2.2.2.1) || (!(t362.toList == bt367.2.2.2.2.2.2.2.2.2.2.2.2.2.2.2.2.1.toList) || (!(t363 == bt367.2.2.2.2.2.2.2.2.2.2.2.2.2.2.2.2.2.1) || (!(t364 == bt367.2.2.2.2.2.2.2.2.2.2.2.2.2.2.2.2.2.2.1) || (!(t365.toList == bt367.2.2.2.2.2.2.2.2.2.2.2.2.2.2.2.2.2.2.2.toList))))))))))))))))))))) = true then (some false) else (newsreellaw41_RetainTells.l0 k2 a1 (wrap64 (x5_2 + 1)) a0_0 a0_1 a0_2 a0_3 l0_4 l0_5))) = some r := H
 have A19 := mkA A190
 clear A190
 replace H := Option.bind_eq_some_iff.mp H
 obtain ⟨⟨t367, t368, t369, t370, t371, t372, t373, t374, t375, t376, t377, t378, t379, t380, t381, t382, t383, t384, t385, t386⟩, A200, H⟩ := H
 replace H : (if (!(t346 == t367) || (!(t347 == t368) || (!(t348.toList == t369.toList) || (!(t349.toList == t370.toList) || (!(t350.toList == t371.toList) || (!(t351 == t372) || (!(t352 == t373) || (!(t353 == t374) || (!(t354 == t375) || (!(t355 == t376) || (!(t356 == t377) || (!(t357 == t378) || (!(t358 == t379) || (!(t359.toList == t380.toList) || (!(t360 == t381) || (!(t361 == t382) || (!(t362.toList == t383.toList) || (!(t363 == t384) || (!(t364 == t385) || (!(t365.toList == t386.toList))))))))))))))))))))) = true then (some false) else (newsreellaw41_RetainTells.l0 k2 a1 (wrap64 (x5_2 + 1)) a0_0 a0_1 a0_2 a0_3 l0_4 l0_5)) = some r := H
 have A20 := mkA A200
 clear A200
 by_cases c21 : (!(t346 == t367) || (!(t347 == t368) || (!(t348.toList == t369.toList) || (!(t349.toList == t370.toList) || (!(t350.toList == t371.toList) || (!(t351 == t372) || (!(t352 == t373) || (!(t353 == t374) || (!(t354 == t375) || (!(t355 == t376) || (!(t356 == t377) || (!(t357 == t378) || (!(t358 == t379) || (!(t359.toList == t380.toList) || (!(t360 == t381) || (!(t361 == t382) || (!(t362.toList == t383.toList) || (!(t363 == t384) || (!(t364 == t385) || (!(t365.toList == t386.toList))))))))))))))))))))) = true
 ·rw [if_pos c21] at H
  have c21b0 : (!(t346 == t367) || (!(t347 == t368) || (!(t348.toList == t369.toList) || (!(t349.toList == t370.toList) || (!(t350.toList == t371.toList) || (!(t351 == t372) || (!(t352 == t373) || (!(t353 == t374) || (!(t354 == t375) || (!(t355 == t376) || (!(t356 == t377) || (!(t357 == t378) || (!(t358 == t379) || (!(t359.toList == t380.toList) || (!(t360 == t381) || (!(t361 == t382) || (!(t362.toList == t383.toList) || (!(t363 == t384) || (!(t364 == t385) || (!(t365.toList == t386.toList))))))))))))))))))))) = true := c21
  clear c21
  as_aux_lemma =>
   cases (Option.some.inj H).trans ht_
 rw [if_neg c21] at H
 have c21b0 : (!(t346 == t367) || (!(t347 == t368) || (!(t348.toList == t369.toList) || (!(t349.toList == t370.toList) || (!(t350.toList == t371.toList) || (!(t351 == t372) || (!(t352 == t373) || (!(t353 == t374) || (!(t354 == t375) || (!(t355 == t376) || (!(t356 == t377) || (!(t357 == t378) || (!(t358 == t379) || (!(t359.toList == t380.toList) || (!(t360 == t381) || (!(t361 == t382) || (!(t362.toList == t383.toList) || (!(t363 == t384) || (!(t364 == t385) || (!(t365.toList == t386.toList))))))))))))))))))))) = false := by simpa using c21
 clear c21
 as_aux_lemma =>
  have H' := mkA H
  clear H
  have hcz22_0 := bc BK341.out 0 _ rfl
  have hcz22_1 := bc BK341.out 1 _ rfl
  have hcz22_2 := bc BK341.out 2 _ rfl
  have hcz22_3 := bc BK341.out 3 _ rfl
  have hcz22_4 := bc BK341.out 4 _ rfl
  have hcz22_5 := bc BK341.out 5 _ rfl
  have hfz22_0 := blk_frozen BK341.out 0
  have hfz22_1 := blk_frozen BK341.out 1
  have hfz22_2 := blk_frozen BK341.out 2
  have hfz22_3 := blk_frozen BK341.out 3
  have hfz22_4 := blk_frozen BK341.out 4
  have hfz22_5 := blk_frozen BK341.out 5
  try go_wp2_with (first | ((with_reducible refine gate_load (t := 25) rfl ?_); refine load_row3 (t := 25) (g := gb341) ?hg BK341.out ?ho ?hb Try.underlying25 rfl ?hs ?_; (case hg => rfl); (case ho => refine ⟨_, rfl, ?_⟩; first | (with_reducible rfl) | (go_simp; done)); (case hb => (with_reducible repeat (first | refine blk_drewN ?_ _ | refine blk_drew ?_ | refine blk_alloc ?_ _)); with_reducible exact BK341.out); (case hs => kernel_rfl)))
  have n0_ := mkA (blk_drew BK341.out)
  have n1_ := mkA (below_drew1 HB.out)
  clear BK341 HB
  have BK341 := n0_
  have HB := n1_
  clear n0_ n1_
  have p345 : 0 ≤ (x5_2 : Int) := odt
  have q345 : x5_2 < (l0_5.length : Int) := odt
  obtain ⟨ad345, e345, hx345_0, hx345_1, hx345_2, hx345_3, hx345_4, hx345_5, hx345_6, hx345_7, hx345_8, hx345_9, hx345_10, hx345_11, hx345_12, hx345_13, hx345_14, hx345_15, hx345_16, hx345_17, hx345_18, hx345_19⟩ := at_T29 HR0_5.out x5_2 p345 q345
  have hw345_19 := hx345_19
  have hw345_18 := hx345_18
  have hw345_17 := hx345_17
  have hw345_16 := hx345_16
  have hw345_15 := hx345_15
  have hw345_14 := hx345_14
  have hw345_13 := hx345_13
  have hw345_12 := hx345_12
  have hw345_11 := hx345_11
  have hw345_10 := hx345_10
  have hw345_9 := hx345_9
  have hw345_8 := hx345_8
  have hw345_7 := hx345_7
  have hw345_6 := hx345_6
  have hw345_5 := hx345_5
  have hw345_4 := hx345_4
  have hw345_3 := hx345_3
  have hw345_2 := hx345_2
  have hw345_1 := hx345_1
  have hw345_0 := hx345_0
  cases e345
  replace hx345_0 := hs_ HB.out hx345_0
  replace hx345_1 := hs_ HB.out hx345_1
  replace hx345_2 := hs_ HB.out hx345_2
  replace hx345_3 := hs_ HB.out hx345_3
  replace hx345_4 := hs_ HB.out hx345_4
  replace hx345_5 := hs_ HB.out hx345_5
  replace hx345_6 := hs_ HB.out hx345_6
  replace hx345_7 := hs_ HB.out hx345_7
  replace hx345_8 := hs_ HB.out hx345_8
  replace hx345_9 := hs_ HB.out hx345_9
  replace hx345_10 := hs_ HB.out hx345_10
  replace hx345_11 := hs_ HB.out hx345_11
  replace hx345_12 := hs_ HB.out hx345_12
  replace hx345_13 := hs_ HB.out hx345_13
  replace hx345_14 := hs_ HB.out hx345_14
  replace hx345_15 := hs_ HB.out hx345_15
  replace hx345_16 := hs_ HB.out hx345_16
  replace hx345_17 := hs_ HB.out hx345_17
  replace hx345_18 := hs_ HB.out hx345_18
  replace hx345_19 := hs_ HB.out hx345_19
  replace p345 := eq_true p345
  replace q345 := eq_true q345
  have p366 : 0 ≤ (x5_2 : Int) := odt
  have q366 : x5_2 < (l0_5.length : Int) := odt
  obtain ⟨ad366, e366, hx366_0, hx366_1, hx366_2, hx366_3, hx366_4, hx366_5, hx366_6, hx366_7, hx366_8, hx366_9, hx366_10, hx366_11, hx366_12, hx366_13, hx366_14, hx366_15, hx366_16, hx366_17, hx366_18, hx366_19⟩ := at_T29 HR0_5.out x5_2 p366 q366
  have hw366_19 := hx366_19
  have hw366_18 := hx366_18
  have hw366_17 := hx366_17
  have hw366_16 := hx366_16
  have hw366_15 := hx366_15
  have hw366_14 := hx366_14
  have hw366_13 := hx366_13
  have hw366_12 := hx366_12
  have hw366_11 := hx366_11
  have hw366_10 := hx366_10
  have hw366_9 := hx366_9
  have hw366_8 := hx366_8
  have hw366_7 := hx366_7
  have hw366_6 := hx366_6
  have hw366_5 := hx366_5
  have hw366_4 := hx366_4
  have hw366_3 := hx366_3
  have hw366_2 := hx366_2
  have hw366_1 := hx366_1
  have hw366_0 := hx366_0
  obtain rfl : ad345 = ad366 := (by injection e366)
  replace hx366_0 := hs_ HB.out hx366_0
  replace hx366_1 := hs_ HB.out hx366_1
  replace hx366_2 := hs_ HB.out hx366_2
  replace hx366_3 := hs_ HB.out hx366_3
  replace hx366_4 := hs_ HB.out hx366_4
  replace hx366_5 := hs_ HB.out hx366_5
  replace hx366_6 := hs_ HB.out hx366_6
  replace hx366_7 := hs_ HB.out hx366_7
  replace hx366_8 := hs_ HB.out hx366_8
  replace hx366_9 := hs_ HB.out hx366_9
  replace hx366_10 := hs_ HB.out hx366_10
  replace hx366_11 := hs_ HB.out hx366_11
  replace hx366_12 := hs_ HB.out hx366_12
  replace hx366_13 := hs_ HB.out hx366_13
  replace hx366_14 := hs_ HB.out hx366_14
  replace hx366_15 := hs_ HB.out hx366_15
  replace hx366_16 := hs_ HB.out hx366_16
  replace hx366_17 := hs_ HB.out hx366_17
  replace hx366_18 := hs_ HB.out hx366_18
  replace hx366_19 := hs_ HB.out hx366_19
  replace p366 := eq_true p366
  replace q366 := eq_true q366
  refine start_ (n := 13) (S := fun w' => w'.cell? ⟨gb341, 0, none⟩ = some (.int .i64 a0_0) ∧ w'.cell? ⟨gb341, 1, none⟩ = some (.int .i64 a0_1) ∧ w'.cell? ⟨gb341, 2, none⟩ = some (.int .i64 a0_2) ∧ w'.cell? ⟨gb341, 3, none⟩ = some (.int .i64 a0_3) ∧ w'.cell? ⟨gb341, 4, none⟩ = some (.slice A0_4 l0_4.length c0_4) ∧ w'.cell? ⟨gb341, 5, none⟩ = some (.slice (some ad345) l0_5.length c0_5) ∧ (cj29 w' (ad345.add ((x5_2).toNat * 20)) (rd_T29 l0_5 x5_2) <| ce29 w' (ad345.add ((x5_2).toNat * 20)) (rd_T29 l0_5 x5_2))) (ds := []) #[false, false, false, false, false, false, false, false, false, false, false, false, false] (by kernel_rfl) rfl rfl ⟨(blk_cell BK341.out 0).trans rfl, (blk_cell BK341.out 1).trans rfl, (blk_cell BK341.out 2).trans rfl, (blk_cell BK341.out 3).trans rfl, (blk_cell BK341.out 4).trans rfl, (blk_cell BK341.out 5).trans rfl, ((cb HB.out hw345_0).trans hw345_0), ((cb HB.out hw345_1).trans hw345_1), ((cb HB.out hw345_2).trans hw345_2), ((cb HB.out hw345_3).trans hw345_3), ((cb HB.out hw345_4).trans hw345_4), ((cb HB.out hw345_5).trans hw345_5), ((cb HB.out hw345_6).trans hw345_6), ((cb HB.out hw345_7).trans hw345_7), ((cb HB.out hw345_8).trans hw345_8), ((cb HB.out hw345_9).trans hw345_9), ((cb HB.out hw345_10).trans hw345_10), ((cb HB.out hw345_11).trans hw345_11), ((cb HB.out hw345_12).trans hw345_12), ((cb HB.out hw345_13).trans hw345_13), ((cb HB.out hw345_14).trans hw345_14), ((cb HB.out hw345_15).trans hw345_15), ((cb HB.out hw345_16).trans hw345_16), ((cb HB.out hw345_17).trans hw345_17), ((cb HB.out hw345_18).trans hw345_18), ((cb HB.out hw345_19).trans hw345_19), ((cb HB.out hw366_0).trans hw366_0), ((cb HB.out hw366_1).trans hw366_1), ((cb HB.out hw366_2).trans hw366_2), ((cb HB.out hw366_3).trans hw366_3), ((cb HB.out hw366_4).trans hw366_4), ((cb HB.out hw366_5).trans hw366_5), ((cb HB.out hw366_6).trans hw366_6), ((cb HB.out hw366_7).trans hw366_7), ((cb HB.out hw366_8).trans hw366_8), ((cb HB.out hw366_9).trans hw366_9), ((cb HB.out hw366_10).trans hw366_10), ((cb HB.out hw366_11).trans hw366_11), ((cb HB.out hw366_12).trans hw366_12), ((cb HB.out hw366_13).trans hw366_13), ((cb HB.out hw366_14).trans hw366_14), ((cb HB.out hw366_15).trans hw366_15), ((cb HB.out hw366_16).trans hw366_16), ((cb HB.out hw366_17).trans hw366_17), ((cb HB.out hw366_18).trans hw366_18), ((cb HB.out hw366_19).trans hw366_19)⟩ (fun hHeld => ?_); refine with_tabW newsreellaw41_RetainTells.tab6 newsreellaw41_RetainTells.bits6 (fun HT_ HW_ => ?_)
  generalize wr.drew = w23 at BK341 HB hx345_0 hx345_1 hx345_10 hx345_11 hx345_12 hx345_13 hx345_14 hx345_15 hx345_16 hx345_17 hx345_18 hx345_19 hx345_2 hx345_3 hx345_4 hx345_5 hx345_6 hx345_7 hx345_8 hx345_9 hx366_0 hx366_1 hx366_10 hx366_11 hx366_12 hx366_13 hx366_14 hx366_15 hx366_16 hx366_17 hx366_18 hx366_19 hx366_2 hx366_3 hx366_4 hx366_5 hx366_6 hx366_7 hx366_8 hx366_9 hHeld ⊢
  refine pu 0 22 HT_ ?_
  refine pu 2 24 HT_ ?_
  refine pu 6 28 HT_ ?_
  refine pu 8 30 HT_ ?_
  refine tk 1 23 HT_ HW_ hHeld ?_
  refine pu 3 25 HT_ ?_
  refine take_ (i := 4) (N := some 26) (v := ?_) (a' := ?_) #[true, true, true, true, true, false, true, false, true, false, false, false, false] rfl rfl (take_ofW HT_.out HW_.out (by kernel_rfl)) (fun _ _ _ h => h) (Or.inl ⟨by rfl, ?_⟩) hHeld ?_ ?_
  rotate_left
  ·rintro w' ⟨s0, s1, s2, s3, s4, s5, s6, s7, s8, s9, s10, s11, s12, s13, s14, s15, s16, s17, s18, s19, s20, s21, s22, s23, s24, s25, s26, s27, s28, s29, s30, s31, s32, s33, s34, s35, s36, s37, s38, s39, s40, s41, s42, s43, s44, s45⟩
   first | (have hz_ := fun (a : Act) (o : Oper) (x : Operand) (ho : o.op = .load 29 x) (hx : a.eval x = _) => exec_load_at (P := Try.prog) (W := w') (cs := [_, _, _, _, _, _, _, _, _, _, _, _, _, _, _, _, _, _, _]) ho hx Try.underlying29 rfl (by kernel_rfl) s6 ⟨s7, s8, s9, s10, s11, s12, s13, s14, s15, s16, s17, s18, s19, s20, s21, s22, s23, s24, s25, trivial⟩; refine (hz_ _ _ (.tmp 25) ?_ ?_).trans ?_; (focus rfl); (focus (first | (with_reducible rfl) | (go_simp; done))); with_reducible rfl) | (have hz_ := fun (a : Act) (o : Oper) (x : Operand) (ho : o.op = .load 29 x) (hx : a.eval x = _) => exec_load_at (P := Try.prog) (W := w') (cs := [_, _, _, _, _, _, _, _, _, _, _, _, _, _, _, _, _, _, _]) ho hx Try.underlying29 rfl (by kernel_rfl) s26 ⟨s27, s28, s29, s30, s31, s32, s33, s34, s35, s36, s37, s38, s39, s40, s41, s42, s43, s44, s45, trivial⟩; refine (hz_ _ _ (.tmp 25) ?_ ?_).trans ?_; (focus rfl); (focus (first | (with_reducible rfl) | (go_simp; done))); with_reducible rfl) | (go_simp; with_reducible rfl)
  rotate_left
  ·simp only [Act.put, sA, s0, sS, i64_w, i32_w]
   rfl
  refine tk 7 29 HT_ HW_ hHeld ?_
  refine pu 9 31 HT_ ?_
  refine take_ (i := 10) (N := some 32) (v := ?_) (a' := ?_) #[true, true, true, true, true, false, true, true, true, true, true, false, false] rfl rfl (take_ofW HT_.out HW_.out (by kernel_rfl)) (fun _ _ _ h => h) (Or.inl ⟨by rfl, ?_⟩) hHeld ?_ ?_
  rotate_left
  ·rintro w' ⟨s0, s1, s2, s3, s4, s5, s6, s7, s8, s9, s10, s11, s12, s13, s14, s15, s16, s17, s18, s19, s20, s21, s22, s23, s24, s25, s26, s27, s28, s29, s30, s31, s32, s33, s34, s35, s36, s37, s38, s39, s40, s41, s42, s43, s44, s45⟩
   first | (have hz_ := fun (a : Act) (o : Oper) (x : Operand) (ho : o.op = .load 29 x) (hx : a.eval x = _) => exec_load_at (P := Try.prog) (W := w') (cs := [_, _, _, _, _, _, _, _, _, _, _, _, _, _, _, _, _, _, _]) ho hx Try.underlying29 rfl (by kernel_rfl) s6 ⟨s7, s8, s9, s10, s11, s12, s13, s14, s15, s16, s17, s18, s19, s20, s21, s22, s23, s24, s25, trivial⟩; refine (hz_ _ _ (.tmp 31) ?_ ?_).trans ?_; (focus rfl); (focus (first | (with_reducible rfl) | (go_simp; done))); with_reducible rfl) | (have hz_ := fun (a : Act) (o : Oper) (x : Operand) (ho : o.op = .load 29 x) (hx : a.eval x = _) => exec_load_at (P := Try.prog) (W := w') (cs := [_, _, _, _, _, _, _, _, _, _, _, _, _, _, _, _, _, _, _]) ho hx Try.underlying29 rfl (by kernel_rfl) s26 ⟨s27, s28, s29, s30, s31, s32, s33, s34, s35, s36, s37, s38, s39, s40, s41, s42, s43, s44, s45, trivial⟩; refine (hz_ _ _ (.tmp 31) ?_ ?_).trans ?_; (focus rfl); (focus (first | (with_reducible rfl) | (go_simp; done))); with_reducible rfl) | (go_simp; with_reducible rfl)
  rotate_left
  ·simp only [Act.put, sA, s0, sS, i64_w, i32_w]
   rfl
  refine one_ (i := 5) (N := some 27) #[true, true, true, true, true, true, true, true, true, true, true, false, false] rfl rfl (one_of HT_.out (by kernel_rfl)) (by decide) (fun K hK => ?_)
  refine goes_ Try.func8 (by kernel_rfl) rfl #[.agg #[.int .i64 ((rd_T29 l0_5 x5_2).f0), .int .i64 ((rd_T29 l0_5 x5_2).f1), .string ((rd_T29 l0_5 x5_2).f2), .string ((rd_T29 l0_5 x5_2).f3), .string ((rd_T29 l0_5 x5_2).f4), .int .i64 ((rd_T29 l0_5 x5_2).f5), .int .i64 ((rd_T29 l0_5 x5_2).f6), .int .i64 ((rd_T29 l0_5 x5_2).f7), .int .i64 ((rd_T29 l0_5 x5_2).f8), .bool ((rd_T29 l0_5 x5_2).f9), .int .i64 ((rd_T29 l0_5 x5_2).f10), .int .i64 ((rd_T29 l0_5 x5_2).f11), .int .i64 ((rd_T29 l0_5 x5_2).f12), .string ((rd_T29 l0_5 x5_2).f13), .int .i64 ((rd_T29 l0_5 x5_2).f14), .int .i64 ((rd_T29 l0_5 x5_2).f15), .string ((rd_T29 l0_5 x5_2).f16), .int .i64 ((rd_T29 l0_5 x5_2).f17), .int .i64 ((rd_T29 l0_5 x5_2).f18), .string ((rd_T29 l0_5 x5_2).f19)]] (by rfl) rfl rfl ca ?_
  with_reducible refine (retain_Gone.calls _ _ _ _ _ _ _ _ _ _ _ _ _ _ _ _ _ _ _ _ _ _ _ _ _ _ _ _ _ _ _ _ _ _ _ _ _ _ _ _ _ A19.out).mono ?_
  rintro e w24 ⟨rfl, hb⟩
  have hbk_w24 := mkA hb
  refine ⟨_, rfl, ?_⟩
  have n0_ := mkA (blk_below (blk_y BK341.out) hb)
  have n1_ := mkA (below_step (below_y HB.out) hb)
  clear BK341 HB
  have BK341 := n0_
  have HB := n1_
  clear n0_ n1_
  (try clear hb)
  (try clear hb2)
  (try clear hk)
  (try clear hi)
  refine hK.out _ _ ⟨(blk_cell BK341.out 0).trans rfl, (blk_cell BK341.out 1).trans rfl, (blk_cell BK341.out 2).trans rfl, (blk_cell BK341.out 3).trans rfl, (blk_cell BK341.out 4).trans rfl, (blk_cell BK341.out 5).trans rfl, ((cb HB.out hw345_0).trans hw345_0), ((cb HB.out hw345_1).trans hw345_1), ((cb HB.out hw345_2).trans hw345_2), ((cb HB.out hw345_3).trans hw345_3), ((cb HB.out hw345_4).trans hw345_4), ((cb HB.out hw345_5).trans hw345_5), ((cb HB.out hw345_6).trans hw345_6), ((cb HB.out hw345_7).trans hw345_7), ((cb HB.out hw345_8).trans hw345_8), ((cb HB.out hw345_9).trans hw345_9), ((cb HB.out hw345_10).trans hw345_10), ((cb HB.out hw345_11).trans hw345_11), ((cb HB.out hw345_12).trans hw345_12), ((cb HB.out hw345_13).trans hw345_13), ((cb HB.out hw345_14).trans hw345_14), ((cb HB.out hw345_15).trans hw345_15), ((cb HB.out hw345_16).trans hw345_16), ((cb HB.out hw345_17).trans hw345_17), ((cb HB.out hw345_18).trans hw345_18), ((cb HB.out hw345_19).trans hw345_19), ((cb HB.out hw366_0).trans hw366_0), ((cb HB.out hw366_1).trans hw366_1), ((cb HB.out hw366_2).trans hw366_2), ((cb HB.out hw366_3).trans hw366_3), ((cb HB.out hw366_4).trans hw366_4), ((cb HB.out hw366_5).trans hw366_5), ((cb HB.out hw366_6).trans hw366_6), ((cb HB.out hw366_7).trans hw366_7), ((cb HB.out hw366_8).trans hw366_8), ((cb HB.out hw366_9).trans hw366_9), ((cb HB.out hw366_10).trans hw366_10), ((cb HB.out hw366_11).trans hw366_11), ((cb HB.out hw366_12).trans hw366_12), ((cb HB.out hw366_13).trans hw366_13), ((cb HB.out hw366_14).trans hw366_14), ((cb HB.out hw366_15).trans hw366_15), ((cb HB.out hw366_16).trans hw366_16), ((cb HB.out hw366_17).trans hw366_17), ((cb HB.out hw366_18).trans hw366_18), ((cb HB.out hw366_19).trans hw366_19)⟩ (fun hHeld => ?_)
  clear hK K
  refine norm_ (a' := ?_) ?_ ?_
  rotate_left
  ·show Act.put _ (some 27) _ = _
   simp only [Act.put, sA, s0, sS, i64_w, i32_w]
   rfl
  refine one_ (i := 11) (N := some 33) #[true, true, true, true, true, true, true, true, true, true, true, true, false] rfl rfl (one_of HT_.out (by kernel_rfl)) (by decide) (fun K hK => ?_)
  refine goes_ Try.func9 (by kernel_rfl) rfl #[.agg #[.int .i64 ((rd_T29 l0_5 x5_2).f0), .int .i64 ((rd_T29 l0_5 x5_2).f1), .string ((rd_T29 l0_5 x5_2).f2), .string ((rd_T29 l0_5 x5_2).f3), .string ((rd_T29 l0_5 x5_2).f4), .int .i64 ((rd_T29 l0_5 x5_2).f5), .int .i64 ((rd_T29 l0_5 x5_2).f6), .int .i64 ((rd_T29 l0_5 x5_2).f7), .int .i64 ((rd_T29 l0_5 x5_2).f8), .bool ((rd_T29 l0_5 x5_2).f9), .int .i64 ((rd_T29 l0_5 x5_2).f10), .int .i64 ((rd_T29 l0_5 x5_2).f11), .int .i64 ((rd_T29 l0_5 x5_2).f12), .string ((rd_T29 l0_5 x5_2).f13), .int .i64 ((rd_T29 l0_5 x5_2).f14), .int .i64 ((rd_T29 l0_5 x5_2).f15), .string ((rd_T29 l0_5 x5_2).f16), .int .i64 ((rd_T29 l0_5 x5_2).f17), .int .i64 ((rd_T29 l0_5 x5_2).f18), .string ((rd_T29 l0_5 x5_2).f19)]] (by rfl) rfl rfl ca ?_
  with_reducible refine (newsreelref41_Gone.calls _ _ _ _ _ _ _ _ _ _ _ _ _ _ _ _ _ _ _ _ _ _ _ _ _ _ _ _ _ _ _ _ _ _ _ _ _ _ _ _ _ A20.out).mono ?_
  rintro e w25 ⟨rfl, hb⟩
  have hbk_w25 := mkA hb
  refine ⟨_, rfl, ?_⟩
  have n0_ := mkA (blk_below (blk_y BK341.out) hb)
  have n1_ := mkA (below_step (below_y HB.out) hb)
  clear BK341 HB
  have BK341 := n0_
  have HB := n1_
  clear n0_ n1_
  (try clear hb)
  (try clear hb2)
  (try clear hk)
  (try clear hi)
  refine hK.out _ _ ⟨(blk_cell BK341.out 0).trans rfl, (blk_cell BK341.out 1).trans rfl, (blk_cell BK341.out 2).trans rfl, (blk_cell BK341.out 3).trans rfl, (blk_cell BK341.out 4).trans rfl, (blk_cell BK341.out 5).trans rfl, ((cb HB.out hw345_0).trans hw345_0), ((cb HB.out hw345_1).trans hw345_1), ((cb HB.out hw345_2).trans hw345_2), ((cb HB.out hw345_3).trans hw345_3), ((cb HB.out hw345_4).trans hw345_4), ((cb HB.out hw345_5).trans hw345_5), ((cb HB.out hw345_6).trans hw345_6), ((cb HB.out hw345_7).trans hw345_7), ((cb HB.out hw345_8).trans hw345_8), ((cb HB.out hw345_9).trans hw345_9), ((cb HB.out hw345_10).trans hw345_10), ((cb HB.out hw345_11).trans hw345_11), ((cb HB.out hw345_12).trans hw345_12), ((cb HB.out hw345_13).trans hw345_13), ((cb HB.out hw345_14).trans hw345_14), ((cb HB.out hw345_15).trans hw345_15), ((cb HB.out hw345_16).trans hw345_16), ((cb HB.out hw345_17).trans hw345_17), ((cb HB.out hw345_18).trans hw345_18), ((cb HB.out hw345_19).trans hw345_19), ((cb HB.out hw366_0).trans hw366_0), ((cb HB.out hw366_1).trans hw366_1), ((cb HB.out hw366_2).trans hw366_2), ((cb HB.out hw366_3).trans hw366_3), ((cb HB.out hw366_4).trans hw366_4), ((cb HB.out hw366_5).trans hw366_5), ((cb HB.out hw366_6).trans hw366_6), ((cb HB.out hw366_7).trans hw366_7), ((cb HB.out hw366_8).trans hw366_8), ((cb HB.out hw366_9).trans hw366_9), ((cb HB.out hw366_10).trans hw366_10), ((cb HB.out hw366_11).trans hw366_11), ((cb HB.out hw366_12).trans hw366_12), ((cb HB.out hw366_13).trans hw366_13), ((cb HB.out hw366_14).trans hw366_14), ((cb HB.out hw366_15).trans hw366_15), ((cb HB.out hw366_16).trans hw366_16), ((cb HB.out hw366_17).trans hw366_17), ((cb HB.out hw366_18).trans hw366_18), ((cb HB.out hw366_19).trans hw366_19)⟩ (fun hHeld => ?_)
  clear hK K
  refine norm_ (a' := ?_) ?_ ?_
  rotate_left
  ·show Act.put _ (some 33) _ = _
   simp only [Act.put, sA, s0, sS, i64_w, i32_w]
   rfl
  refine pu 12 34 HT_ ?_
  refine done_ (done_of HT_.out (by kernel_rfl)) ?_
  try go_wp2_with (first | ((with_reducible refine gate_load (t := 29) rfl ?_); refine load_at2 (t := 29) ?hg ?ho (c0 := _) (cs := [_, _, _, _, _, _, _, _, _, _, _, _, _, _, _, _, _, _, _]) Try.underlying29 rfl (by kernel_rfl) hx345_0 ⟨hx345_1, hx345_2, hx345_3, hx345_4, hx345_5, hx345_6, hx345_7, hx345_8, hx345_9, hx345_10, hx345_11, hx345_12, hx345_13, hx345_14, hx345_15, hx345_16, hx345_17, hx345_18, hx345_19, trivial⟩ ?_; (case hg => rfl); (case ho => refine ⟨_, rfl, ?_⟩; first | (with_reducible rfl) | (go_simp; done))) | ((with_reducible refine gate_load (t := 29) rfl ?_); refine load_at2 (t := 29) ?hg ?ho (c0 := _) (cs := [_, _, _, _, _, _, _, _, _, _, _, _, _, _, _, _, _, _, _]) Try.underlying29 rfl (by kernel_rfl) hx366_0 ⟨hx366_1, hx366_2, hx366_3, hx366_4, hx366_5, hx366_6, hx366_7, hx366_8, hx366_9, hx366_10, hx366_11, hx366_12, hx366_13, hx366_14, hx366_15, hx366_16, hx366_17, hx366_18, hx366_19, trivial⟩ ?_; (case hg => rfl); (case ho => refine ⟨_, rfl, ?_⟩; first | (with_reducible rfl) | (go_simp; done))) | ((with_reducible refine gate_load (t := 25) rfl ?_); refine load_row3 (t := 25) (g := gb341) ?hg BK341.out ?ho ?hb Try.underlying25 rfl ?hs ?_; (case hg => rfl); (case ho => refine ⟨_, rfl, ?_⟩; first | (with_reducible rfl) | (go_simp; done)); (case hb => (with_reducible repeat (first | refine blk_drewN ?_ _ | refine blk_drew ?_ | refine blk_alloc ?_ _)); with_reducible exact BK341.out); (case hs => kernel_rfl)))
  go_roundg k2
  case measure => have := HJ2.out; have := HK2.out; omega
  case rel => exact ⟨(wrap64 (x5_2 + 1)), (by first | rfl | (simp; done) | (simp [*]; done)), H', ⟨by have := HJ2.out; have := HK2.out; omega⟩, ⟨by (with_reducible repeat (first | refine blk_drewN ?_ _ | refine blk_drew ?_ | refine blk_alloc ?_ _)); exact BK341.out⟩, ⟨by repeat (first | (with_reducible first | exact HB.out | apply below_alloc | apply pw_below_drewN | apply below_drew1 | refine below_set ?_ GE341.out) | exact HB.out)⟩⟩

end Go.Proofs.Ytcpojadlnpnbaaa.XRet
