-- By a program of this work (xprint.py) over the translation; Lean checks it.
import Derived.Test.YtcpojadlnpnbaaaXRetx0
import Derived.Test.YtcpojadlnpnbaaaXRetx8
import Derived.Test.YtcpojadlnpnbaaaXRetx20
namespace Go.Proofs.Ytcpojadlnpnbaaa.XRet
open Go.RowKit Go.Proofs.YtcpojadlnpnbaaaW.PrintWords Go.Proofs.YtcpojadlnpnbaaaW.PrintLast Go.Proofs.YtcpojadlnpnbaaaW.PrintMore
attribute [local go_sem] max2_int min2_int max_two min_two max_three min_three max_four min_four   -- for this text's walks alone
set_option linter.unusedVariables false
set_option linter.unusedSimpArgs false

/-! ### retain_Over: function 11 -/
mutual
def retain_Over.l0 : Nat → Int → List (S29) → Int → List (S29) → Int → Int → Int → Int → Int → Int → List (S43) → List (S29) → Option (List Int)
 | 0, _, _, _, _, _, _, _, _, _, _, _, _ => none
 | k + 1, x1, x5, x6, x13, x14, x15, x167000, x167001, x167002, x167003, x167004, x167005 => if x15 < x14 then (if 0 ≤ x15 then (if x15 < (x13.length : Int) then (if ((rd_T29 x13 x15).f1) = x1 then (retain_Over.j1 k x1 x5 x6 x13 x14 x15 (((rd_T29 x13 x15).f7) != 3) x167000 x167001 x167002 x167003 x167004 x167005 ((rd_T29 x13 x15).f0) ((rd_T29 x13 x15).f1) ((rd_T29 x13 x15).f2) ((rd_T29 x13 x15).f3) ((rd_T29 x13 x15).f4) ((rd_T29 x13 x15).f5) ((rd_T29 x13 x15).f6) ((rd_T29 x13 x15).f7) ((rd_T29 x13 x15).f8) ((rd_T29 x13 x15).f9) ((rd_T29 x13 x15).f10) ((rd_T29 x13 x15).f11) ((rd_T29 x13 x15).f12) ((rd_T29 x13 x15).f13) ((rd_T29 x13 x15).f14) ((rd_T29 x13 x15).f15) ((rd_T29 x13 x15).f16) ((rd_T29 x13 x15).f17) ((rd_T29 x13 x15).f18) ((rd_T29 x13 x15).f19)) else (retain_Over.j1 k x1 x5 x6 x13 x14 x15 true x167000 x167001 x167002 x167003 x167004 x167005 ((rd_T29 x13 x15).f0) ((rd_T29 x13 x15).f1) ((rd_T29 x13 x15).f2) ((rd_T29 x13 x15).f3) ((rd_T29 x13 x15).f4) ((rd_T29 x13 x15).f5) ((rd_T29 x13 x15).f6) ((rd_T29 x13 x15).f7) ((rd_T29 x13 x15).f8) ((rd_T29 x13 x15).f9) ((rd_T29 x13 x15).f10) ((rd_T29 x13 x15).f11) ((rd_T29 x13 x15).f12) ((rd_T29 x13 x15).f13) ((rd_T29 x13 x15).f14) ((rd_T29 x13 x15).f15) ((rd_T29 x13 x15).f16) ((rd_T29 x13 x15).f17) ((rd_T29 x13 x15).f18) ((rd_T29 x13 x15).f19))) else (none)) else (none)) else ((api_Ep_21.f k x5).bind fun t173 => (if 0 ≤ (mn (x5.length : Int) (mx 0 (wrap64 (x6 - (mx 0 x167000))))) then (if (mn (x5.length : Int) (mx 0 (wrap64 (x6 - (mx 0 x167000))))) ≤ (x5.length : Int) then ((some (t173.take ((mn (x5.length : Int) (mx 0 (wrap64 (x6 - (mx 0 x167000))))) : Int).toNat : List (S29))).bind fun y174 => (retain_Over.l1 k ([] : List Int) y174 (y174.length : Int) 0)) else (none)) else (none)))
def retain_Over.j1 : Nat → Int → List (S29) → Int → List (S29) → Int → Int → Bool → Int → Int → Int → Int → List (S43) → List (S29) → Int → Int → ByteArray → ByteArray → ByteArray → Int → Int → Int → Int → Bool → Int → Int → Int → ByteArray → Int → Int → ByteArray → Int → Int → ByteArray → Option (List Int)
 | 0, _, _, _, _, _, _, _, _, _, _, _, _, _, _, _, _, _, _, _, _, _, _, _, _, _, _, _, _, _, _, _, _, _ => none
 | k + 1, x1, x5, x6, x13, x14, x15, x27, x167000, x167001, x167002, x167003, x167004, x167005, x169000, x169001, x169002, x169003, x169004, x169005, x169006, x169007, x169008, x169009, x169010, x169011, x169012, x169013, x169014, x169015, x169016, x169017, x169018, x169019 => if x27 = true then (retain_Over.l0 k x1 x5 x6 x13 x14 (wrap64 (x15 + 1)) x167000 x167001 x167002 x167003 x167004 x167005) else ((retain_may.f x169000 x169001 x169002 x169003 x169004 x169005 x169006 x169007 x169008 x169009 x169010 x169011 x169012 x169013 x169014 x169015 x169016 x169017 x169018 x169019).bind fun t169 => (if t169 = true then (if x5.length < 676622540169 then (retain_Over.l0 k x1 (x5 ++ [(⟨x169000, x169001, x169002, x169003, x169004, x169005, x169006, x169007, x169008, x169009, x169010, x169011, x169012, x169013, x169014, x169015, x169016, x169017, x169018, x169019⟩ : S29)]) (wrap64 (x6 + 1)) x13 x14 (wrap64 (x15 + 1)) x167000 x167001 x167002 x167003 x167004 x167005) else (none)) else (retain_Over.l0 k x1 x5 (wrap64 (x6 + 1)) x13 x14 (wrap64 (x15 + 1)) x167000 x167001 x167002 x167003 x167004 x167005)))
def retain_Over.l1 : Nat → List Int → List (S29) → Int → Int → Option (List Int)
 | 0, _, _, _, _ => none
 | k + 1, x9, x49, x50, x51 => if x51 < x50 then (if 0 ≤ x51 then (if x51 < (x49.length : Int) then (if x9.length < 17592186044416 then (retain_Over.l1 k (x9 ++ [(rd_T29 x49 x51).f0]) x49 x50 (wrap64 (x51 + 1))) else (none)) else (none)) else (none)) else (some x9)
end
def retain_Over.f (k : Nat) (a0_0 : Int) (a0_1 : Int) (a0_2 : Int) (a0_3 : Int) (l0_4 : List (S43)) (l0_5 : List (S29)) (a1 : Int) : Option (List Int) := retain_Over.l0 k a1 ([] : List (S29)) 0 l0_5 (l0_5.length : Int) 0 a0_0 a0_1 a0_2 a0_3 l0_4 l0_5
theorem retain_Over.mono_l : ∀ k, (∀ y0 y1 y2 y3 y4 y5 y6 y7 y8 y9 y10 y11, LeO (retain_Over.l0 k y0 y1 y2 y3 y4 y5 y6 y7 y8 y9 y10 y11) (retain_Over.l0 (k + 1) y0 y1 y2 y3 y4 y5 y6 y7 y8 y9 y10 y11)) ∧ (∀ y0 y1 y2 y3 y4 y5 y6 y7 y8 y9 y10 y11 y12 y13 y14 y15 y16 y17 y18 y19 y20 y21 y22 y23 y24 y25 y26 y27 y28 y29 y30 y31 y32, LeO (retain_Over.j1 k y0 y1 y2 y3 y4 y5 y6 y7 y8 y9 y10 y11 y12 y13 y14 y15 y16 y17 y18 y19 y20 y21 y22 y23 y24 y25 y26 y27 y28 y29 y30 y31 y32) (retain_Over.j1 (k + 1) y0 y1 y2 y3 y4 y5 y6 y7 y8 y9 y10 y11 y12 y13 y14 y15 y16 y17 y18 y19 y20 y21 y22 y23 y24 y25 y26 y27 y28 y29 y30 y31 y32)) ∧ (∀ y0 y1 y2 y3, LeO (retain_Over.l1 k y0 y1 y2 y3) (retain_Over.l1 (k + 1) y0 y1 y2 y3))
 | 0 => ⟨fun _ _ _ _ _ _ _ _ _ _ _ _ r h => by simp [retain_Over.l0] at h, fun _ _ _ _ _ _ _ _ _ _ _ _ _ _ _ _ _ _ _ _ _ _ _ _ _ _ _ _ _ _ _ _ _ r h => by simp [retain_Over.j1] at h, fun _ _ _ _ r h => by simp [retain_Over.l1] at h⟩
 | k + 1 => by
  obtain ⟨ih0, ih1, ih2⟩ := retain_Over.mono_l k
  refine ⟨?_, ?_, ?_⟩
  ·intro y0 y1 y2 y3 y4 y5 y6 y7 y8 y9 y10 y11
   unfold retain_Over.l0
   repeat' first
   | (with_reducible exact ih0 _ _ _ _ _ _ _ _ _ _ _ _)
   | (with_reducible exact ih1 _ _ _ _ _ _ _ _ _ _ _ _ _ _ _ _ _ _ _ _ _ _ _ _ _ _ _ _ _ _ _ _ _)
   | (with_reducible exact ih2 _ _ _ _)
   | (with_reducible exact api_Ep_21.mono _ _)
   | (with_reducible exact LeO.refl _)
   | (with_reducible exact LeO.none _)
   | (with_reducible refine LeO.ite ?_ ?_)
   | (with_reducible refine LeO.bind ?_ (fun _ => ?_))
   | exact ih0 _ _ _ _ _ _ _ _ _ _ _ _
   | exact ih1 _ _ _ _ _ _ _ _ _ _ _ _ _ _ _ _ _ _ _ _ _ _ _ _ _ _ _ _ _ _ _ _ _
   | exact ih2 _ _ _ _
   | exact api_Ep_21.mono _ _
   | exact LeO.none _
   | refine LeO.ite ?_ ?_
   | refine LeO.bind ?_ (fun _ => ?_)
  ·intro y0 y1 y2 y3 y4 y5 y6 y7 y8 y9 y10 y11 y12 y13 y14 y15 y16 y17 y18 y19 y20 y21 y22 y23 y24 y25 y26 y27 y28 y29 y30 y31 y32
   unfold retain_Over.j1
   repeat' first
   | (with_reducible exact ih0 _ _ _ _ _ _ _ _ _ _ _ _)
   | (with_reducible exact ih1 _ _ _ _ _ _ _ _ _ _ _ _ _ _ _ _ _ _ _ _ _ _ _ _ _ _ _ _ _ _ _ _ _)
   | (with_reducible exact ih2 _ _ _ _)
   | (with_reducible exact api_Ep_21.mono _ _)
   | (with_reducible exact LeO.refl _)
   | (with_reducible exact LeO.none _)
   | (with_reducible refine LeO.ite ?_ ?_)
   | (with_reducible refine LeO.bind ?_ (fun _ => ?_))
   | exact ih0 _ _ _ _ _ _ _ _ _ _ _ _
   | exact ih1 _ _ _ _ _ _ _ _ _ _ _ _ _ _ _ _ _ _ _ _ _ _ _ _ _ _ _ _ _ _ _ _ _
   | exact ih2 _ _ _ _
   | exact api_Ep_21.mono _ _
   | exact LeO.none _
   | refine LeO.ite ?_ ?_
   | refine LeO.bind ?_ (fun _ => ?_)
  ·intro y0 y1 y2 y3
   unfold retain_Over.l1
   repeat' first
   | (with_reducible exact ih0 _ _ _ _ _ _ _ _ _ _ _ _)
   | (with_reducible exact ih1 _ _ _ _ _ _ _ _ _ _ _ _ _ _ _ _ _ _ _ _ _ _ _ _ _ _ _ _ _ _ _ _ _)
   | (with_reducible exact ih2 _ _ _ _)
   | (with_reducible exact api_Ep_21.mono _ _)
   | (with_reducible exact LeO.refl _)
   | (with_reducible exact LeO.none _)
   | (with_reducible refine LeO.ite ?_ ?_)
   | (with_reducible refine LeO.bind ?_ (fun _ => ?_))
   | exact ih0 _ _ _ _ _ _ _ _ _ _ _ _
   | exact ih1 _ _ _ _ _ _ _ _ _ _ _ _ _ _ _ _ _ _ _ _ _ _ _ _ _ _ _ _ _ _ _ _ _
   | exact ih2 _ _ _ _
   | exact api_Ep_21.mono _ _
   | exact LeO.none _
   | refine LeO.ite ?_ ?_
   | refine LeO.bind ?_ (fun _ => ?_)
theorem retain_Over.mono : ∀ a0 a1 a2 a3 a4 a5 a6 k, LeO (retain_Over.f k a0 a1 a2 a3 a4 a5 a6) (retain_Over.f (k + 1) a0 a1 a2 a3 a4 a5 a6) := by
 intro a0 a1 a2 a3 a4 a5 a6 k
 obtain ⟨ih0, ih1, ih2⟩ := retain_Over.mono_l k
 unfold retain_Over.f
 repeat' first
   | (with_reducible exact ih0 _ _ _ _ _ _ _ _ _ _ _ _)
   | (with_reducible exact ih1 _ _ _ _ _ _ _ _ _ _ _ _ _ _ _ _ _ _ _ _ _ _ _ _ _ _ _ _ _ _ _ _ _)
   | (with_reducible exact ih2 _ _ _ _)
   | (with_reducible exact api_Ep_21.mono _ _)
   | (with_reducible exact LeO.refl _)
   | (with_reducible exact LeO.none _)
   | (with_reducible refine LeO.ite ?_ ?_)
   | (with_reducible refine LeO.bind ?_ (fun _ => ?_))
   | exact ih0 _ _ _ _ _ _ _ _ _ _ _ _
   | exact ih1 _ _ _ _ _ _ _ _ _ _ _ _ _ _ _ _ _ _ _ _ _ _ _ _ _ _ _ _ _ _ _ _ _
   | exact ih2 _ _ _ _
   | exact api_Ep_21.mono _ _
   | exact LeO.none _
   | refine LeO.ite ?_ ?_
   | refine LeO.bind ?_ (fun _ => ?_)
set_option maxHeartbeats 2000000 in
set_option maxRecDepth 100000 in
theorem retain_Over.calls (k : Nat) (a0_0 : Int) (a0_1 : Int) (a0_2 : Int) (a0_3 : Int) (A0_4 : Option Addr) (c0_4 : Nat) (l0_4 : List (S43)) (A0_5 : Option Addr) (c0_5 : Nat) (l0_5 : List (S29)) (a1 : Int) (r : List Int) (w : World) (hr0_4 : Kd.C k43 w A0_4 l0_4.length l0_4) (hc0_4 : l0_4.length ≤ c0_4) (hr0_5 : Kd.C k29 w A0_5 l0_5.length l0_5) (hc0_5 : l0_5.length ≤ c0_5) (h : retain_Over.f k a0_0 a0_1 a0_2 a0_3 l0_4 l0_5 a1 = some r) :
  Calls Try.prog 11 #[.agg #[.int .i64 a0_0, .int .i64 a0_1, .int .i64 a0_2, .int .i64 a0_3, .slice A0_4 l0_4.length c0_4, .slice A0_5 l0_5.length c0_5], .int .i64 a1] w fun e w' => ∃ v0_ : Value, e = .returned (v0_) ∧ Kd.R (Kd.int .i64) 3 w' w.heap.size (fun _ => True) v0_ r ∧ Below w.heap.size w w' := by
 have hu25 := Try.underlying25
 have hu29 := Try.underlying29
 have HR0_4 := mkA hr0_4
 have HC0_4 := mkA hc0_4
 clear hr0_4 hc0_4
 have HR0_5 := mkA hr0_5
 have HC0_5 := mkA hc0_5
 clear hr0_5 hc0_5
 have HB := mkA (Below.refl w.heap.size w)
 have H : (retain_Over.l0 k a1 ([] : List (S29)) 0 l0_5 (l0_5.length : Int) 0 a0_0 a0_1 a0_2 a0_3 l0_4 l0_5) = some r := h
 clear h
 have H' := mkA H
 clear H
 go_enter Try.func11, Try.ntmps11
 go_wp2_with (first | ((with_reducible refine gate_load (t := 25) rfl ?_); refine load_row3 (t := 25) (g := gb166) ?hg BK166.out ?ho ?hb Try.underlying25 rfl ?hs ?_; (case hg => rfl); (case ho => refine ⟨_, rfl, ?_⟩; first | (with_reducible rfl) | (go_simp; done)); (case hb => (with_reducible repeat (first | refine blk_drewN ?_ _ | refine blk_drew ?_ | refine blk_alloc ?_ _)); with_reducible exact BK166.out); (case hs => kernel_rfl)) | ((with_reducible refine gate_dst (N := 2) rfl ?_); refine box_event ?hg (N := 2) ?hd (cs := #[.int .i64 a0_0, .int .i64 a0_1, .int .i64 a0_2, .int .i64 a0_3, .slice A0_4 l0_4.length c0_4, .slice A0_5 l0_5.length c0_5]) (t := 25) ?hr ?_; (case hd => rfl); (case hg => rfl); (case hr => first | (go_simp; done) | (go_simp; rfl)); intro gb166 hg w3 hbox hb; have n0_ := mkA (below_step (below_y HB.out) hb); have n1_ := mkA (hbox); have n2_ := mkA ((gz hg HB.out : w.heap.size ≤ gb166)); have n3_ := mkA ((gz hg HB.out : w.heap.size ≤ gb166)); clear HB; have HB := n0_; have BK166 := n1_; have GW166 := n2_; have GE166 := n3_; clear n0_ n1_ n2_ n3_; clear hb hbox hg; have hcz4_0 := bc BK166.out 0 _ rfl; have hcz4_1 := bc BK166.out 1 _ rfl; have hcz4_2 := bc BK166.out 2 _ rfl; have hcz4_3 := bc BK166.out 3 _ rfl; have hcz4_4 := bc BK166.out 4 _ rfl; have hcz4_5 := bc BK166.out 5 _ rfl; have hfz4_0 := blk_frozen BK166.out 0; have hfz4_1 := blk_frozen BK166.out 1; have hfz4_2 := blk_frozen BK166.out 2; have hfz4_3 := blk_frozen BK166.out 3; have hfz4_4 := blk_frozen BK166.out 4; have hfz4_5 := blk_frozen BK166.out 5))
 go_loopg [5, 6, 15] k (fun kq v5 v6 v15 w' => ∃ (x5_1 : List (S29)) (x6_1 : Int) (x15_1 : Int), v6 = .int .i64 x6_1 ∧ v15 = .int .i64 x15_1 ∧ Aside0 (retain_Over.l0 kq a1 x5_1 x6_1 l0_5 (l0_5.length : Int) x15_1 a0_0 a0_1 a0_2 a0_3 l0_4 l0_5 = some r) ∧ Aside0 (kq ≤ k) ∧ Aside0 (Kd.R k29 29 w' w.heap.size (fun _ => True) v5 x5_1) ∧ Aside0 (w'.heap[gb166]? = some (.cells #[.int .i64 a0_0, .int .i64 a0_1, .int .i64 a0_2, .int .i64 a0_3, (.slice A0_4 l0_4.length c0_4), (.slice A0_5 l0_5.length c0_5)] 25 (0, 0))) ∧ Aside0 (Below w.heap.size w w'))
 case atStart => exact ⟨(([] : List (S29))), (0), (0), (by first | rfl | (simp; done) | (simp [*]; done)), (by first | rfl | (simp; done) | (simp [*]; done)), H', ⟨Nat.le_refl _⟩, ⟨by first | exact Kd.R_nil _ _ _ _ _ | exact Kd.N_nil _ _ _ _ _ | exact Kd.V_nil _ _ _ _ _ | exact Kd.Q_nil _ _ _ _ _ | exact Kd.S_nil _ _ _ _ _⟩, ⟨by (with_reducible repeat (first | refine blk_drewN ?_ _ | refine blk_drew ?_ | refine blk_alloc ?_ _)); exact BK166.out⟩, ⟨by repeat (first | (with_reducible first | exact HB.out | apply below_alloc | apply pw_below_drewN | apply below_drew1 | refine below_set ?_ GE166.out) | exact HB.out)⟩⟩
 clear H'
 try clear c1
 try clear p2
 try clear hcz4_0
 try clear hcz4_1
 try clear hcz4_2
 try clear hcz4_3
 try clear hcz4_4
 try clear hcz4_5
 try clear hfz4_0
 try clear hfz4_1
 try clear hfz4_2
 try clear hfz4_3
 try clear hfz4_4
 try clear hfz4_5
 obtain ⟨x5_1, x6_1, x15_1, rfl, rfl, HA, HK1, HO_5, BK166, HB⟩ := hrel
 rcases gk with _ | k1
 ·exact absurd HA.out (by simp [retain_Over.l0])
 have H := HA.out
 clear HA
 simp only [retain_Over.l0] at H
 by_cases c5 : x15_1 < (l0_5.length : Int)
 rotate_left
 ·rw [if_neg c5] at H
  have c5b0 : decide (x15_1 < (l0_5.length : Int)) = false := decide_eq_false c5
  clear c5
  replace H := Option.bind_eq_some_iff.mp H
  obtain ⟨t173, A300, H⟩ := H
  replace H : (if 0 ≤ (mn (x5_1.length : Int) (mx 0 (wrap64 (x6_1 - (mx 0 a0_0))))) then (if (mn (x5_1.length : Int) (mx 0 (wrap64 (x6_1 - (mx 0 a0_0))))) ≤ (x5_1.length : Int) then ((some (t173.take ((mn (x5_1.length : Int) (mx 0 (wrap64 (x6_1 - (mx 0 a0_0))))) : Int).toNat : List (S29))).bind fun y174 => (retain_Over.l1 k1 ([] : List Int) y174 (y174.length : Int) 0)) else (none)) else (none)) = some r := H
  have A30 := mkA A300
  clear A300
  obtain ⟨ji31, hji31⟩ : ∃ j_ : Int, (mx 0 a0_0) = j_ := ⟨_, rfl⟩
  replace H : (if 0 ≤ (mn (x5_1.length : Int) (mx 0 (wrap64 (x6_1 - (ji31))))) then (if (mn (x5_1.length : Int) (mx 0 (wrap64 (x6_1 - (ji31))))) ≤ (x5_1.length : Int) then ((some (t173.take ((mn (x5_1.length : Int) (mx 0 (wrap64 (x6_1 - (ji31))))) : Int).toNat : List (S29))).bind fun y174 => (retain_Over.l1 k1 ([] : List Int) y174 (y174.length : Int) 0)) else (none)) else (none)) = some r := by first | (rw [hji31] at H; exact H) | (simp only [hji31] at H ⊢; exact H)
  (try rw [hji31] at A30)
  have hji31_ : (if 0 < a0_0 then a0_0 else 0) = ji31 := hji31
  obtain ⟨ji32, hji32⟩ : ∃ j_ : Int, (mx 0 (wrap64 (x6_1 - (ji31)))) = j_ := ⟨_, rfl⟩
  replace H : (if 0 ≤ (mn (x5_1.length : Int) (ji32)) then (if (mn (x5_1.length : Int) (ji32)) ≤ (x5_1.length : Int) then ((some (t173.take ((mn (x5_1.length : Int) (ji32)) : Int).toNat : List (S29))).bind fun y174 => (retain_Over.l1 k1 ([] : List Int) y174 (y174.length : Int) 0)) else (none)) else (none)) = some r := by first | (rw [hji32] at H; exact H) | (simp only [hji32] at H ⊢; exact H)
  (try rw [hji32] at A30)
  have hji32_ : (if 0 < (wrap64 (x6_1 - (ji31))) then (wrap64 (x6_1 - (ji31))) else 0) = ji32 := hji32
  obtain ⟨ji33, hji33⟩ : ∃ j_ : Int, (mn (x5_1.length : Int) (ji32)) = j_ := ⟨_, rfl⟩
  replace H : (if 0 ≤ (ji33) then (if (ji33) ≤ (x5_1.length : Int) then ((some (t173.take ((ji33) : Int).toNat : List (S29))).bind fun y174 => (retain_Over.l1 k1 ([] : List Int) y174 (y174.length : Int) 0)) else (none)) else (none)) = some r := by first | (rw [hji33] at H; exact H) | (simp only [hji33] at H ⊢; exact H)
  (try rw [hji33] at A30)
  have hji33_ : (if (ji32) < (x5_1.length : Int) then (ji32) else (x5_1.length : Int)) = ji33 := hji33
  by_cases c34 : 0 ≤ (ji33)
  ·rw [if_pos c34] at H
   have c34b0 := eq_true c34
   have c34b1 : decide (0 ≤ (ji33)) = true := decide_eq_true c34
   clear c34
   by_cases c35 : (ji33) ≤ (x5_1.length : Int)
   ·rw [if_pos c35] at H
    have c35b0 := eq_true c35
    have c35b1 : decide ((ji33) ≤ (x5_1.length : Int)) = true := decide_eq_true c35
    clear c35
    obtain ⟨y174, hy174⟩ : ∃ y_ : List (S29), y_ = (t173.take ((ji33) : Int).toNat) := ⟨_, rfl⟩
    replace H : (retain_Over.l1 k1 ([] : List Int) y174 (y174.length : Int) 0) = some r := by first | (rw [hy174]; with_reducible exact H) | (have H2_ := (Option.bind_some _ _).symm.trans H; rw [hy174]; with_reducible exact H2_) | (have H2_ := (Option.bind_some _ _).symm.trans H; with_reducible exact H2_) | with_reducible exact H | (rw [hy174]; exact H) | exact H
    have Ny174 := mkA hy174
    clear hy174
    have H' := mkA H
    clear H
    obtain ⟨Ao36, co36, eo36⟩ := Kd.R_slice HO_5.out
    subst eo36
    go_wp2_with (first | ((with_reducible refine gate_load (t := 25) rfl ?_); refine load_row3 (t := 25) (g := gb166) ?hg BK166.out ?ho ?hb Try.underlying25 rfl ?hs ?_; (case hg => rfl); (case ho => refine ⟨_, rfl, ?_⟩; first | (with_reducible rfl) | (go_simp; done)); (case hb => (with_reducible repeat (first | refine blk_drewN ?_ _ | refine blk_drew ?_ | refine blk_alloc ?_ _)); with_reducible exact BK166.out); (case hs => kernel_rfl)) | ((with_reducible refine gate_callee (f := 21) rfl ?_); refine goesL_ (some 38) rfl rfl Try.func21 (by kernel_rfl) rfl #[.slice Ao36 x5_1.length co36, .func (.func 22) #[] #[]] rfl ca ?_; (with_reducible refine (api_Ep_21.calls _ (fun k_ => some k_ = (.slice Ao36 x5_1.length co36 : Value).ownBlock) (.slice Ao36 x5_1.length co36) _ _ w _ ?side1 ?side2 A30.out).mono ?_); (case side1 => repeat (first | (with_reducible first | exact HB.out | apply below_alloc | apply pw_below_drewN | apply below_drew1 | refine below_set ?_ GE166.out) | exact HB.out)); (case side2 => exact Kd.R_tight rfl HO_5.out); rintro e w37 ⟨rfl, hy0, hb, hkp⟩; refine ⟨_, rfl, ?_⟩; have n0_ := mkA (Kd.R_reok rfl hy0 (fun k_ e_ => HO_5.out.1 k_ e_)); have n1_ := mkA (blk_kept (blk_y BK166.out) hkp (fun hs_ => (fun e_ => (Kd.R_ne HO_5.out BK166.out (by decide)) e_) hs_)); have n2_ := mkA (hb); clear HO_5; clear BK166; clear HB; have HO_5 := n0_; have BK166 := n1_; have HB := n2_; clear n0_ n1_ n2_; (try clear hb); (try clear hkp); (try clear hy0); have hcz38_0 := bc BK166.out 0 _ rfl; have hcz38_1 := bc BK166.out 1 _ rfl; have hcz38_2 := bc BK166.out 2 _ rfl; have hcz38_3 := bc BK166.out 3 _ rfl; have hcz38_4 := bc BK166.out 4 _ rfl; have hcz38_5 := bc BK166.out 5 _ rfl; have hfz38_0 := blk_frozen BK166.out 0; have hfz38_1 := blk_frozen BK166.out 1; have hfz38_2 := blk_frozen BK166.out 2; have hfz38_3 := blk_frozen BK166.out 3; have hfz38_4 := blk_frozen BK166.out 4; have hfz38_5 := blk_frozen BK166.out 5; have hlx39 := (Kd.R_reads' HO_5.out).1; have q39 : ((ji33) : Int) ≤ ((x5_1.length : Int) : Int) := odt; obtain ⟨i039, hi039, _, hsz39, _⟩ := info_parts info29; have hroom39 : x5_1.length ≤ co36 := (Kd.R_reads' HO_5.out).2.1; have hroomc39 : t173.length ≤ co36 := (by rw [← hlx39]; exact hroom39); have hC39 : Kd.C k29 _ Ao36 t173.length t173 := (Kd.R_reads' HO_5.out).2.2; have hcut39 := cut_to (P := Try.prog) 23 29 .i64 Try.underlying23 hi039 Ao36 x5_1.length co36 (ji33) (odt) q39 hroom39; have hr39 := Kd.C_take (m := ((ji33) : Int).toNat) hC39 (by omega); have hy39 : y174.length = ((ji33) : Int).toNat := (by rw [Ny174.out, List.length_take]; omega); rw [← Ny174.out] at hr39; rw [← hy39] at hcut39; have HR177 := mkA hr39; have HC177 := mkA (show y174.length ≤ co36 from by omega); clear hr39 hC39 hroom39 hi039 hsz39 hroomc39; have KY39 := mkA hy39; clear hy39; have KE39 := mkA hlx39; have KL39 := mkA (show ((ji33) : Int).toNat ≤ t173.length from by omega); clear hlx39; replace q39 := eq_true q39))
    have HBo := HB
    clear HB
    have HB := mkA (Below.refl w37.heap.size w37)
    go_loopg [9, 51] k1 (fun kq v9 v51 w' => ∃ (x9_2 : List Int) (x51_2 : Int), v51 = .int .i64 x51_2 ∧ Aside0 (retain_Over.l1 kq x9_2 y174 (y174.length : Int) x51_2 = some r) ∧ Aside0 (kq ≤ k1) ∧ Aside0 (Kd.R (Kd.int .i64) 3 w' w37.heap.size (fun _ => True) v9 x9_2) ∧ Aside0 (w'.heap[gb166]? = some (.cells #[.int .i64 a0_0, .int .i64 a0_1, .int .i64 a0_2, .int .i64 a0_3, (.slice A0_4 l0_4.length c0_4), (.slice A0_5 l0_5.length c0_5)] 25 (0, 0))) ∧ Aside0 (Below w37.heap.size w37 w'))
    case atStart => exact ⟨(([] : List Int)), (0), (by first | rfl | (simp; done) | (simp [*]; done)), H', ⟨Nat.le_refl _⟩, ⟨by first | exact Kd.R_nil _ _ _ _ _ | exact Kd.N_nil _ _ _ _ _ | exact Kd.V_nil _ _ _ _ _ | exact Kd.Q_nil _ _ _ _ _ | exact Kd.S_nil _ _ _ _ _⟩, ⟨by (with_reducible repeat (first | refine blk_drewN ?_ _ | refine blk_drew ?_ | refine blk_alloc ?_ _)); exact BK166.out⟩, ⟨by repeat (first | (with_reducible first | exact HB.out | apply below_alloc | apply pw_below_drewN | apply below_drew1 | refine below_set ?_ GE166.out) | exact HB.out)⟩⟩
    case round =>
     clear H'
     try clear c1
     try clear p1
     try clear q1
     try clear hx1
     try clear c2
     try clear p2
     try clear c3
     try clear q3
     try clear c5
     try clear c5b0
     try clear c6
     try clear c6b0
     try clear p6
     try clear c7
     try clear c7b0
     try clear c10
     try clear c11
     try clear c13
     try clear c13b0
     try clear c13b1
     try clear c14
     try clear c16
     try clear p16
     try clear q16
     try clear hx16
     try clear c18
     try clear c20
     try clear c21
     try clear c22
     try clear c27
     try clear c34
     try clear c34b0
     try clear c34b1
     try clear c35
     try clear c35b0
     try clear c35b1
     try clear c39
     try clear q39
     try clear hcz11_0
     try clear hcz11_1
     try clear hcz11_10
     try clear hcz11_11
     try clear hcz11_12
     try clear hcz11_13
     try clear hcz11_14
     try clear hcz11_15
     try clear hcz11_16
     try clear hcz11_17
     try clear hcz11_18
     try clear hcz11_19
     try clear hcz11_2
     try clear hcz11_3
     try clear hcz11_4
     try clear hcz11_5
     try clear hcz11_6
     try clear hcz11_7
     try clear hcz11_8
     try clear hcz11_9
     try clear hcz15_0
     try clear hcz15_1
     try clear hcz15_10
     try clear hcz15_11
     try clear hcz15_12
     try clear hcz15_13
     try clear hcz15_14
     try clear hcz15_15
     try clear hcz15_16
     try clear hcz15_17
     try clear hcz15_18
     try clear hcz15_19
     try clear hcz15_2
     try clear hcz15_3
     try clear hcz15_4
     try clear hcz15_5
     try clear hcz15_6
     try clear hcz15_7
     try clear hcz15_8
     try clear hcz15_9
     try clear hcz17_0
     try clear hcz17_1
     try clear hcz17_10
     try clear hcz17_11
     try clear hcz17_12
     try clear hcz17_13
     try clear hcz17_14
     try clear hcz17_15
     try clear hcz17_16
     try clear hcz17_17
     try clear hcz17_18
     try clear hcz17_19
     try clear hcz17_2
     try clear hcz17_3
     try clear hcz17_4
     try clear hcz17_5
     try clear hcz17_6
     try clear hcz17_7
     try clear hcz17_8
     try clear hcz17_9
     try clear hcz23_0
     try clear hcz23_1
     try clear hcz23_10
     try clear hcz23_11
     try clear hcz23_12
     try clear hcz23_13
     try clear hcz23_14
     try clear hcz23_15
     try clear hcz23_16
     try clear hcz23_17
     try clear hcz23_18
     try clear hcz23_19
     try clear hcz23_2
     try clear hcz23_3
     try clear hcz23_4
     try clear hcz23_5
     try clear hcz23_6
     try clear hcz23_7
     try clear hcz23_8
     try clear hcz23_9
     try clear hcz25_0
     try clear hcz25_1
     try clear hcz25_10
     try clear hcz25_11
     try clear hcz25_12
     try clear hcz25_13
     try clear hcz25_14
     try clear hcz25_15
     try clear hcz25_16
     try clear hcz25_17
     try clear hcz25_18
     try clear hcz25_19
     try clear hcz25_2
     try clear hcz25_3
     try clear hcz25_4
     try clear hcz25_5
     try clear hcz25_6
     try clear hcz25_7
     try clear hcz25_8
     try clear hcz25_9
     try clear hcz28_0
     try clear hcz28_1
     try clear hcz28_10
     try clear hcz28_11
     try clear hcz28_12
     try clear hcz28_13
     try clear hcz28_14
     try clear hcz28_15
     try clear hcz28_16
     try clear hcz28_17
     try clear hcz28_18
     try clear hcz28_19
     try clear hcz28_2
     try clear hcz28_3
     try clear hcz28_4
     try clear hcz28_5
     try clear hcz28_6
     try clear hcz28_7
     try clear hcz28_8
     try clear hcz28_9
     try clear hcz38_0
     try clear hcz38_1
     try clear hcz38_2
     try clear hcz38_3
     try clear hcz38_4
     try clear hcz38_5
     try clear hcz4_0
     try clear hcz4_1
     try clear hcz4_2
     try clear hcz4_3
     try clear hcz4_4
     try clear hcz4_5
     try clear hfz11_0
     try clear hfz11_1
     try clear hfz11_10
     try clear hfz11_11
     try clear hfz11_12
     try clear hfz11_13
     try clear hfz11_14
     try clear hfz11_15
     try clear hfz11_16
     try clear hfz11_17
     try clear hfz11_18
     try clear hfz11_19
     try clear hfz11_2
     try clear hfz11_3
     try clear hfz11_4
     try clear hfz11_5
     try clear hfz11_6
     try clear hfz11_7
     try clear hfz11_8
     try clear hfz11_9
     try clear hfz15_0
     try clear hfz15_1
     try clear hfz15_10
     try clear hfz15_11
     try clear hfz15_12
     try clear hfz15_13
     try clear hfz15_14
     try clear hfz15_15
     try clear hfz15_16
     try clear hfz15_17
     try clear hfz15_18
     try clear hfz15_19
     try clear hfz15_2
     try clear hfz15_3
     try clear hfz15_4
     try clear hfz15_5
     try clear hfz15_6
     try clear hfz15_7
     try clear hfz15_8
     try clear hfz15_9
     try clear hfz17_0
     try clear hfz17_1
     try clear hfz17_10
     try clear hfz17_11
     try clear hfz17_12
     try clear hfz17_13
     try clear hfz17_14
     try clear hfz17_15
     try clear hfz17_16
     try clear hfz17_17
     try clear hfz17_18
     try clear hfz17_19
     try clear hfz17_2
     try clear hfz17_3
     try clear hfz17_4
     try clear hfz17_5
     try clear hfz17_6
     try clear hfz17_7
     try clear hfz17_8
     try clear hfz17_9
     try clear hfz23_0
     try clear hfz23_1
     try clear hfz23_10
     try clear hfz23_11
     try clear hfz23_12
     try clear hfz23_13
     try clear hfz23_14
     try clear hfz23_15
     try clear hfz23_16
     try clear hfz23_17
     try clear hfz23_18
     try clear hfz23_19
     try clear hfz23_2
     try clear hfz23_3
     try clear hfz23_4
     try clear hfz23_5
     try clear hfz23_6
     try clear hfz23_7
     try clear hfz23_8
     try clear hfz23_9
     try clear hfz25_0
     try clear hfz25_1
     try clear hfz25_10
     try clear hfz25_11
     try clear hfz25_12
     try clear hfz25_13
     try clear hfz25_14
     try clear hfz25_15
     try clear hfz25_16
     try clear hfz25_17
     try clear hfz25_18
     try clear hfz25_19
     try clear hfz25_2
     try clear hfz25_3
     try clear hfz25_4
     try clear hfz25_5
     try clear hfz25_6
     try clear hfz25_7
     try clear hfz25_8
     try clear hfz25_9
     try clear hfz28_0
     try clear hfz28_1
     try clear hfz28_10
     try clear hfz28_11
     try clear hfz28_12
     try clear hfz28_13
     try clear hfz28_14
     try clear hfz28_15
     try clear hfz28_16
     try clear hfz28_17
     try clear hfz28_18
     try clear hfz28_19
     try clear hfz28_2
     try clear hfz28_3
     try clear hfz28_4
     try clear hfz28_5
     try clear hfz28_6
     try clear hfz28_7
     try clear hfz28_8
     try clear hfz28_9
     try clear hfz38_0
     try clear hfz38_1
     try clear hfz38_2
     try clear hfz38_3
     try clear hfz38_4
     try clear hfz38_5
     try clear hfz4_0
     try clear hfz4_1
     try clear hfz4_2
     try clear hfz4_3
     try clear hfz4_4
     try clear hfz4_5
     try clear hx167_0
     try clear hx167_1
     try clear hx167_10
     try clear hx167_11
     try clear hx167_12
     try clear hx167_13
     try clear hx167_14
     try clear hx167_15
     try clear hx167_16
     try clear hx167_17
     try clear hx167_18
     try clear hx167_19
     try clear hx167_2
     try clear hx167_3
     try clear hx167_4
     try clear hx167_5
     try clear hx167_6
     try clear hx167_7
     try clear hx167_8
     try clear hx167_9
     try clear p1
     try clear p16
     try clear p167
     try clear p2
     try clear q1
     try clear q16
     try clear q167
     try clear q39
     obtain ⟨x9_2, x51_2, rfl, HA, HK2, HO_9, BK166, HB⟩ := hrel
     cases gk with
     | zero => exact absurd HA.out (by simp [retain_Over.l1])
     | succ k2 =>
      have H := HA.out
      clear HA
      simp only [retain_Over.l1] at H
      by_cases c40 : x51_2 < (y174.length : Int)
      ·rw [if_pos c40] at H
       have c40b0 : decide (x51_2 < (y174.length : Int)) = true := decide_eq_true c40
       clear c40
       by_cases c41 : 0 ≤ x51_2
       ·rw [if_pos c41] at H
        have c41b0 : decide (0 ≤ x51_2) = true := decide_eq_true c41
        clear c41
        by_cases c42 : x51_2 < (y174.length : Int)
        ·rw [if_pos c42] at H
         have c42b0 : decide (x51_2 < (y174.length : Int)) = true := decide_eq_true c42
         clear c42
         by_cases c43 : x9_2.length < 17592186044416
         ·rw [if_pos c43] at H
          have LMc43 := mkA c43
          clear c43
          obtain ⟨y180, hy180⟩ : ∃ y_ : List Int, y_ = (x9_2 ++ [(rd_T29 y174 x51_2).f0]) := ⟨_, rfl⟩
          replace H : (retain_Over.l1 k2 y180 y174 (y174.length : Int) (wrap64 (x51_2 + 1))) = some r := by first | (rw [hy180]; with_reducible exact H) | (have H2_ := (Option.bind_some _ _).symm.trans H; rw [hy180]; with_reducible exact H2_) | (have H2_ := (Option.bind_some _ _).symm.trans H; with_reducible exact H2_) | with_reducible exact H | (rw [hy180]; exact H) | exact H
          have Ny180 := mkA hy180
          clear hy180
          as_aux_lemma =>
           have H' := mkA H
           clear H
           have p178 : 0 ≤ (x51_2 : Int) := odt
           have q178 : x51_2 < (y174.length : Int) := odt
           obtain ⟨ad178, e178, hx178_0, hx178_1, hx178_2, hx178_3, hx178_4, hx178_5, hx178_6, hx178_7, hx178_8, hx178_9, hx178_10, hx178_11, hx178_12, hx178_13, hx178_14, hx178_15, hx178_16, hx178_17, hx178_18, hx178_19⟩ := at_T29 HR177.out x51_2 p178 q178
           cases e178
           replace hx178_0 := hs_ HB.out hx178_0
           replace hx178_1 := hs_ HB.out hx178_1
           replace hx178_2 := hs_ HB.out hx178_2
           replace hx178_3 := hs_ HB.out hx178_3
           replace hx178_4 := hs_ HB.out hx178_4
           replace hx178_5 := hs_ HB.out hx178_5
           replace hx178_6 := hs_ HB.out hx178_6
           replace hx178_7 := hs_ HB.out hx178_7
           replace hx178_8 := hs_ HB.out hx178_8
           replace hx178_9 := hs_ HB.out hx178_9
           replace hx178_10 := hs_ HB.out hx178_10
           replace hx178_11 := hs_ HB.out hx178_11
           replace hx178_12 := hs_ HB.out hx178_12
           replace hx178_13 := hs_ HB.out hx178_13
           replace hx178_14 := hs_ HB.out hx178_14
           replace hx178_15 := hs_ HB.out hx178_15
           replace hx178_16 := hs_ HB.out hx178_16
           replace hx178_17 := hs_ HB.out hx178_17
           replace hx178_18 := hs_ HB.out hx178_18
           replace hx178_19 := hs_ HB.out hx178_19
           replace p178 := eq_true p178
           replace q178 := eq_true q178
           go_wp2_with (first | ((with_reducible refine gate_load (t := 29) rfl ?_); refine load_at2 (t := 29) ?hg ?ho (c0 := _) (cs := [_, _, _, _, _, _, _, _, _, _, _, _, _, _, _, _, _, _, _]) Try.underlying29 rfl (by kernel_rfl) hx178_0 ⟨hx178_1, hx178_2, hx178_3, hx178_4, hx178_5, hx178_6, hx178_7, hx178_8, hx178_9, hx178_10, hx178_11, hx178_12, hx178_13, hx178_14, hx178_15, hx178_16, hx178_17, hx178_18, hx178_19, trivial⟩ ?_; (case hg => rfl); (case ho => refine ⟨_, rfl, ?_⟩; first | (with_reducible rfl) | (go_simp; done))) | ((with_reducible refine gate_load (t := 25) rfl ?_); refine load_row3 (t := 25) (g := gb166) ?hg BK166.out ?ho ?hb Try.underlying25 rfl ?hs ?_; (case hg => rfl); (case ho => refine ⟨_, rfl, ?_⟩; first | (with_reducible rfl) | (go_simp; done)); (case hb => (with_reducible repeat (first | refine blk_drewN ?_ _ | refine blk_drew ?_ | refine blk_alloc ?_ _)); with_reducible exact BK166.out); (case hs => kernel_rfl)) | ((with_reducible refine gate_load (t := 29) rfl ?_); refine load_row3 (t := 29) (g := gb179) ?hg BK179.out ?ho ?hb Try.underlying29 rfl ?hs ?_; (case hg => rfl); (case ho => refine ⟨_, rfl, ?_⟩; first | (with_reducible rfl) | (go_simp; done)); (case hb => (with_reducible repeat (first | refine blk_drewN ?_ _ | refine blk_drew ?_ | refine blk_alloc ?_ _)); with_reducible exact BK179.out); (case hs => kernel_rfl)) | ((with_reducible refine gate_dst (N := 11) rfl ?_); refine box_event ?hg (N := 11) ?hd (cs := #[.int .i64 0, .int .i64 0, .string (⟨#[]⟩ : ByteArray), .string (⟨#[]⟩ : ByteArray), .string (⟨#[]⟩ : ByteArray), .int .i64 0, .int .i64 0, .int .i64 0, .int .i64 0, .bool false, .int .i64 0, .int .i64 0, .int .i64 0, .string (⟨#[]⟩ : ByteArray), .int .i64 0, .int .i64 0, .string (⟨#[]⟩ : ByteArray), .int .i64 0, .int .i64 0, .string (⟨#[]⟩ : ByteArray)]) (t := 29) ?hr ?_; (case hd => rfl); (case hg => rfl); (case hr => first | (go_simp; done) | (go_simp; rfl)); intro gb179 hg w44 hbox hb; have n0_ := mkA (Kd.R_below (Kd.R_y HO_9.out) hb); have n1_ := mkA (blk_below (blk_y BK166.out) hb); have n2_ := mkA (below_step (below_y HB.out) hb); have n3_ := mkA (hbox); have n4_ := mkA ((gz hg HB.out : w37.heap.size ≤ gb179)); have n5_ := mkA ((gz hg HB.out : w37.heap.size ≤ gb179)); have n6_ := mkA ((gn hg BK166.out : gb166 ≠ gb179)); have n7_ := mkA ((gm hg BK166.out : gb179 ≠ gb166)); clear HO_9; clear BK166; clear HB; have HO_9 := n0_; have BK166 := n1_; have HB := n2_; have BK179 := n3_; have GW179 := n4_; have GE179 := n5_; have NB166_179 := n6_; have NB179_166 := n7_; clear n0_ n1_ n2_ n3_ n4_ n5_ n6_ n7_; clear hb hbox hg; have hnb45 := NB179_166.out; have hnc45 := NB166_179.out; have hcz46_0 := bc BK179.out 0 _ rfl; have hcz46_1 := bc BK179.out 1 _ rfl; have hcz46_2 := bc BK179.out 2 _ rfl; have hcz46_3 := bc BK179.out 3 _ rfl; have hcz46_4 := bc BK179.out 4 _ rfl; have hcz46_5 := bc BK179.out 5 _ rfl; have hcz46_6 := bc BK179.out 6 _ rfl; have hcz46_7 := bc BK179.out 7 _ rfl; have hcz46_8 := bc BK179.out 8 _ rfl; have hcz46_9 := bc BK179.out 9 _ rfl; have hcz46_10 := bc BK179.out 10 _ rfl; have hcz46_11 := bc BK179.out 11 _ rfl; have hcz46_12 := bc BK179.out 12 _ rfl; have hcz46_13 := bc BK179.out 13 _ rfl; have hcz46_14 := bc BK179.out 14 _ rfl; have hcz46_15 := bc BK179.out 15 _ rfl; have hcz46_16 := bc BK179.out 16 _ rfl; have hcz46_17 := bc BK179.out 17 _ rfl; have hcz46_18 := bc BK179.out 18 _ rfl; have hcz46_19 := bc BK179.out 19 _ rfl; have hfz46_0 := blk_frozen BK179.out 0; have hfz46_1 := blk_frozen BK179.out 1; have hfz46_2 := blk_frozen BK179.out 2; have hfz46_3 := blk_frozen BK179.out 3; have hfz46_4 := blk_frozen BK179.out 4; have hfz46_5 := blk_frozen BK179.out 5; have hfz46_6 := blk_frozen BK179.out 6; have hfz46_7 := blk_frozen BK179.out 7; have hfz46_8 := blk_frozen BK179.out 8; have hfz46_9 := blk_frozen BK179.out 9; have hfz46_10 := blk_frozen BK179.out 10; have hfz46_11 := blk_frozen BK179.out 11; have hfz46_12 := blk_frozen BK179.out 12; have hfz46_13 := blk_frozen BK179.out 13; have hfz46_14 := blk_frozen BK179.out 14; have hfz46_15 := blk_frozen BK179.out 15; have hfz46_16 := blk_frozen BK179.out 16; have hfz46_17 := blk_frozen BK179.out 17; have hfz46_18 := blk_frozen BK179.out 18; have hfz46_19 := blk_frozen BK179.out 19) | ((with_reducible refine gate_store (t := 29) (p := 11) rfl ?_); refine store_whole2 (t := 29) (g := gb179) ?hg ?hn (cells := #[.int .i64 ((rd_T29 y174 x51_2).f0), .int .i64 ((rd_T29 y174 x51_2).f1), .string ((rd_T29 y174 x51_2).f2), .string ((rd_T29 y174 x51_2).f3), .string ((rd_T29 y174 x51_2).f4), .int .i64 ((rd_T29 y174 x51_2).f5), .int .i64 ((rd_T29 y174 x51_2).f6), .int .i64 ((rd_T29 y174 x51_2).f7), .int .i64 ((rd_T29 y174 x51_2).f8), .bool ((rd_T29 y174 x51_2).f9), .int .i64 ((rd_T29 y174 x51_2).f10), .int .i64 ((rd_T29 y174 x51_2).f11), .int .i64 ((rd_T29 y174 x51_2).f12), .string ((rd_T29 y174 x51_2).f13), .int .i64 ((rd_T29 y174 x51_2).f14), .int .i64 ((rd_T29 y174 x51_2).f15), .string ((rd_T29 y174 x51_2).f16), .int .i64 ((rd_T29 y174 x51_2).f17), .int .i64 ((rd_T29 y174 x51_2).f18), .string ((rd_T29 y174 x51_2).f19)]) ?ho (blk_y BK179.out) (by kernel_rfl) rfl ?h1 ?_; (case hg => rfl); (case hn => rfl); (case ho => refine ⟨_, _, rfl, ?_, ?_⟩; all_goals (first | (with_reducible rfl) | (go_simp; done) | rfl | (go_simp; rfl))); (case h1 => first | rfl | simp [Value.oneCell']); intro w47 hw; have hg : w44.grownBy w47 (some gb179) := (by rw [hw]; exact grown_setRow _ _ _); have n0_ := mkA ((by have h0_ : Kd.R (Kd.int .i64) 3 w44 w37.heap.size (fun _ => True) u9 x9_2 := (Kd.R_y HO_9.out); exact Kd.R_mono (Kd.R_grown (Kd.R_types h0_ (blk_y BK179.out) (by decide)) hg (fun k_ hk_ e_ => hk_.2 (Option.some.inj e_))) (fun _ h_ => h_.1) : Kd.R (Kd.int .i64) 3 w47 w37.heap.size (fun _ => True) u9 x9_2)); have n1_ := mkA ((by rw [hw]; exact (setRow_other _ _ _ _ NB166_179.out).trans (blk_y BK166.out) : w47.heap[gb166]? = some (.cells #[.int .i64 a0_0, .int .i64 a0_1, .int .i64 a0_2, .int .i64 a0_3, .slice A0_4 l0_4.length c0_4, .slice A0_5 l0_5.length c0_5] 25 (0, 0)))); have n2_ := mkA ((by rw [hw]; exact setRow_heap _ _ _ _ _ _ (blk_y BK179.out) : w47.heap[gb179]? = some (.cells #[.int .i64 ((rd_T29 y174 x51_2).f0), .int .i64 ((rd_T29 y174 x51_2).f1), .string ((rd_T29 y174 x51_2).f2), .string ((rd_T29 y174 x51_2).f3), .string ((rd_T29 y174 x51_2).f4), .int .i64 ((rd_T29 y174 x51_2).f5), .int .i64 ((rd_T29 y174 x51_2).f6), .int .i64 ((rd_T29 y174 x51_2).f7), .int .i64 ((rd_T29 y174 x51_2).f8), .bool ((rd_T29 y174 x51_2).f9), .int .i64 ((rd_T29 y174 x51_2).f10), .int .i64 ((rd_T29 y174 x51_2).f11), .int .i64 ((rd_T29 y174 x51_2).f12), .string ((rd_T29 y174 x51_2).f13), .int .i64 ((rd_T29 y174 x51_2).f14), .int .i64 ((rd_T29 y174 x51_2).f15), .string ((rd_T29 y174 x51_2).f16), .int .i64 ((rd_T29 y174 x51_2).f17), .int .i64 ((rd_T29 y174 x51_2).f18), .string ((rd_T29 y174 x51_2).f19)] 29 (0, 0)))); have n3_ := mkA ((by rw [hw]; exact below_setRow (below_y HB.out) GE179.out _ : Below w37.heap.size w37 w47)); clear HO_9; clear BK166; clear BK179; clear HB; have HO_9 := n0_; have BK166 := n1_; have BK179 := n2_; have HB := n3_; clear n0_ n1_ n2_ n3_; clear hg hw; have hcz48_0 := bc BK179.out 0 _ rfl; have hcz48_1 := bc BK179.out 1 _ rfl; have hcz48_2 := bc BK179.out 2 _ rfl; have hcz48_3 := bc BK179.out 3 _ rfl; have hcz48_4 := bc BK179.out 4 _ rfl; have hcz48_5 := bc BK179.out 5 _ rfl; have hcz48_6 := bc BK179.out 6 _ rfl; have hcz48_7 := bc BK179.out 7 _ rfl; have hcz48_8 := bc BK179.out 8 _ rfl; have hcz48_9 := bc BK179.out 9 _ rfl; have hcz48_10 := bc BK179.out 10 _ rfl; have hcz48_11 := bc BK179.out 11 _ rfl; have hcz48_12 := bc BK179.out 12 _ rfl; have hcz48_13 := bc BK179.out 13 _ rfl; have hcz48_14 := bc BK179.out 14 _ rfl; have hcz48_15 := bc BK179.out 15 _ rfl; have hcz48_16 := bc BK179.out 16 _ rfl; have hcz48_17 := bc BK179.out 17 _ rfl; have hcz48_18 := bc BK179.out 18 _ rfl; have hcz48_19 := bc BK179.out 19 _ rfl; have hfz48_0 := blk_frozen BK179.out 0; have hfz48_1 := blk_frozen BK179.out 1; have hfz48_2 := blk_frozen BK179.out 2; have hfz48_3 := blk_frozen BK179.out 3; have hfz48_4 := blk_frozen BK179.out 4; have hfz48_5 := blk_frozen BK179.out 5; have hfz48_6 := blk_frozen BK179.out 6; have hfz48_7 := blk_frozen BK179.out 7; have hfz48_8 := blk_frozen BK179.out 8; have hfz48_9 := blk_frozen BK179.out 9; have hfz48_10 := blk_frozen BK179.out 10; have hfz48_11 := blk_frozen BK179.out 11; have hfz48_12 := blk_frozen BK179.out 12; have hfz48_13 := blk_frozen BK179.out 13; have hfz48_14 := blk_frozen BK179.out 14; have hfz48_15 := blk_frozen BK179.out 15; have hfz48_16 := blk_frozen BK179.out 16; have hfz48_17 := blk_frozen BK179.out 17; have hfz48_18 := blk_frozen BK179.out 18; have hfz48_19 := blk_frozen BK179.out 19) | ((with_reducible refine gate_builtin (b := .append) (xs := #[.tmp 55, .tmp 58]) rfl ?_); at_builtin; refine Kd.R_append (Kd.int .i64) (w0 := w37) w37.heap.size rfl (.tmp 55) (.tmp 58) 32 3 (.int .i64 0) 8 rfl Try.underlying32 info3 rfl (by decide) (by omega) u9 x9_2 ((rd_T29 y174 x51_2).f0) [.int .i64 ((rd_T29 y174 x51_2).f0)] (fun _ => True) (fun _ => False) rfl rfl ?aP (fun _ hk => hk.elim) ?aF ?aO ?aB ?aS ?aL ?_; (case aP => exact rfl); (case aB => exact (below_y HB.out)); (case aF => exact (fun _ _ => trivial)); (case aO => exact (Kd.R_y HO_9.out)); (case aS => exact (below_size (below_y HB.out))); (case aL => have := LMc43.out; omega); intro v181 w49 ho hb hg hat; rw [← Ny180.out] at ho; have n0_ := mkA (blk_grown (blk_y BK166.out) hg (Kd.R_ne HO_9.out BK166.out (by decide))); have n1_ := mkA (blk_grown (blk_y BK179.out) hg (Kd.R_ne HO_9.out BK179.out (by decide))); have n2_ := mkA (hb); have n3_ := mkA (ho); clear BK166; clear BK179; clear HB; clear HO_9; have BK166 := n0_; have BK179 := n1_; have HB := n2_; have HO182 := n3_; clear n0_ n1_ n2_ n3_; clear ho hb hg hat))
           go_roundg k2
           case measure => have := HK1.out; have := HK2.out; omega
           case rel => exact ⟨(y180), (wrap64 (x51_2 + 1)), (by first | rfl | (simp; done) | (simp [*]; done)), H', ⟨by have := HK1.out; have := HK2.out; omega⟩, ⟨by (with_reducible repeat (first | apply Kd.R_alloc | apply Kd.R_drewN | apply Kd.R_drew)); exact HO182.out⟩, ⟨by (with_reducible repeat (first | refine blk_drewN ?_ _ | refine blk_drew ?_ | refine blk_alloc ?_ _)); exact BK166.out⟩, ⟨by repeat (first | (with_reducible first | exact HB.out | apply below_alloc | apply pw_below_drewN | apply below_drew1 | refine below_set ?_ GE166.out | refine below_set ?_ GE179.out) | exact HB.out)⟩⟩
         ·rw [if_neg c43] at H
          exact absurd H (by simp)
        ·rw [if_neg c42] at H
         exact absurd H (by simp)
       ·rw [if_neg c41] at H
        exact absurd H (by simp)
      ·rw [if_neg c40] at H
       have c40b0 : decide (x51_2 < (y174.length : Int)) = false := decide_eq_false c40
       clear c40
       as_aux_lemma =>
        obtain rfl := Option.some.inj H
        have HB1 := mkA (HBo.out.trans (Below.mono HB.out (below_size HBo.out)))
        have HO1 := mkA (Kd.R_lower HO_9.out (below_size HBo.out))
        clear HB HO_9
        have HB := HB1
        have HO_9 := HO1
        go_wp2_with (first | ((with_reducible refine gate_load (t := 25) rfl ?_); refine load_row3 (t := 25) (g := gb166) ?hg BK166.out ?ho ?hb Try.underlying25 rfl ?hs ?_; (case hg => rfl); (case ho => refine ⟨_, rfl, ?_⟩; first | (with_reducible rfl) | (go_simp; done)); (case hb => (with_reducible repeat (first | refine blk_drewN ?_ _ | refine blk_drew ?_ | refine blk_alloc ?_ _)); with_reducible exact BK166.out); (case hs => kernel_rfl)))
        go_ret
        exact ⟨_, by first | rfl | (simp [errW_none, errW_some] <;> rfl) | (simp only [← hji31, ← hji32, ← hji33]; first | rfl | (simp [errW_none, errW_some] <;> rfl)) | (simp [*, errW_none, errW_some] <;> rfl), by (with_reducible repeat (first | apply Kd.R_alloc | apply Kd.R_drewN | apply Kd.R_drew)); exact HO_9.out, by repeat (first | (with_reducible first | exact HB.out | apply below_alloc | apply pw_below_drewN | apply below_drew1 | refine below_set ?_ GE166.out) | exact HB.out)⟩
   ·rw [if_neg c35] at H
    exact absurd H (by simp)
  ·rw [if_neg c34] at H
   exact absurd H (by simp)
 rw [if_pos c5] at H
 have c5b0 : decide (x15_1 < (l0_5.length : Int)) = true := decide_eq_true c5
 clear c5
 by_cases c6 : 0 ≤ x15_1
 rotate_left
 ·rw [if_neg c6] at H
  exact absurd H (by simp)
 rw [if_pos c6] at H
 have c6b0 : decide (0 ≤ x15_1) = true := decide_eq_true c6
 clear c6
 by_cases c7 : x15_1 < (l0_5.length : Int)
 rotate_left
 ·rw [if_neg c7] at H
  exact absurd H (by simp)
 rw [if_pos c7] at H
 have c7b0 : decide (x15_1 < (l0_5.length : Int)) = true := decide_eq_true c7
 clear c7
 have HC8 := mkA H
 clear H
 have p167 : 0 ≤ (x15_1 : Int) := odt
 have q167 : x15_1 < (l0_5.length : Int) := odt
 obtain ⟨ad167, e167, hx167_0, hx167_1, hx167_2, hx167_3, hx167_4, hx167_5, hx167_6, hx167_7, hx167_8, hx167_9, hx167_10, hx167_11, hx167_12, hx167_13, hx167_14, hx167_15, hx167_16, hx167_17, hx167_18, hx167_19⟩ := at_T29 HR0_5.out x15_1 p167 q167
 cases e167
 replace hx167_0 := hs_ HB.out hx167_0
 replace hx167_1 := hs_ HB.out hx167_1
 replace hx167_2 := hs_ HB.out hx167_2
 replace hx167_3 := hs_ HB.out hx167_3
 replace hx167_4 := hs_ HB.out hx167_4
 replace hx167_5 := hs_ HB.out hx167_5
 replace hx167_6 := hs_ HB.out hx167_6
 replace hx167_7 := hs_ HB.out hx167_7
 replace hx167_8 := hs_ HB.out hx167_8
 replace hx167_9 := hs_ HB.out hx167_9
 replace hx167_10 := hs_ HB.out hx167_10
 replace hx167_11 := hs_ HB.out hx167_11
 replace hx167_12 := hs_ HB.out hx167_12
 replace hx167_13 := hs_ HB.out hx167_13
 replace hx167_14 := hs_ HB.out hx167_14
 replace hx167_15 := hs_ HB.out hx167_15
 replace hx167_16 := hs_ HB.out hx167_16
 replace hx167_17 := hs_ HB.out hx167_17
 replace hx167_18 := hs_ HB.out hx167_18
 replace hx167_19 := hs_ HB.out hx167_19
 replace p167 := eq_true p167
 replace q167 := eq_true q167
 go_upto_region 6 with (first | ((with_reducible refine gate_load (t := 29) rfl ?_); refine load_at2 (t := 29) ?hg ?ho (c0 := _) (cs := [_, _, _, _, _, _, _, _, _, _, _, _, _, _, _, _, _, _, _]) Try.underlying29 rfl (by kernel_rfl) hx167_0 ⟨hx167_1, hx167_2, hx167_3, hx167_4, hx167_5, hx167_6, hx167_7, hx167_8, hx167_9, hx167_10, hx167_11, hx167_12, hx167_13, hx167_14, hx167_15, hx167_16, hx167_17, hx167_18, hx167_19, trivial⟩ ?_; (case hg => rfl); (case ho => refine ⟨_, rfl, ?_⟩; first | (with_reducible rfl) | (go_simp; done))) | ((with_reducible refine gate_load (t := 25) rfl ?_); refine load_row3 (t := 25) (g := gb166) ?hg BK166.out ?ho ?hb Try.underlying25 rfl ?hs ?_; (case hg => rfl); (case ho => refine ⟨_, rfl, ?_⟩; first | (with_reducible rfl) | (go_simp; done)); (case hb => (with_reducible repeat (first | refine blk_drewN ?_ _ | refine blk_drew ?_ | refine blk_alloc ?_ _)); with_reducible exact BK166.out); (case hs => kernel_rfl)) | ((with_reducible refine gate_load (t := 29) rfl ?_); refine load_row3 (t := 29) (g := gb168) ?hg BK168.out ?ho ?hb Try.underlying29 rfl ?hs ?_; (case hg => rfl); (case ho => refine ⟨_, rfl, ?_⟩; first | (with_reducible rfl) | (go_simp; done)); (case hb => (with_reducible repeat (first | refine blk_drewN ?_ _ | refine blk_drew ?_ | refine blk_alloc ?_ _)); with_reducible exact BK168.out); (case hs => kernel_rfl)) | ((with_reducible refine gate_dst (N := 8) rfl ?_); refine box_event ?hg (N := 8) ?hd (cs := #[.int .i64 0, .int .i64 0, .string (⟨#[]⟩ : ByteArray), .string (⟨#[]⟩ : ByteArray), .string (⟨#[]⟩ : ByteArray), .int .i64 0, .int .i64 0, .int .i64 0, .int .i64 0, .bool false, .int .i64 0, .int .i64 0, .int .i64 0, .string (⟨#[]⟩ : ByteArray), .int .i64 0, .int .i64 0, .string (⟨#[]⟩ : ByteArray), .int .i64 0, .int .i64 0, .string (⟨#[]⟩ : ByteArray)]) (t := 29) ?hr ?_; (case hd => rfl); (case hg => rfl); (case hr => first | (go_simp; done) | (go_simp; rfl)); intro gb168 hg w9 hbox hb; have n0_ := mkA (Kd.R_below (Kd.R_elderB (Kd.R_y HO_5.out) gb168 (Nat.le_of_eq hg.symm)) hb); have n1_ := mkA (blk_below (blk_y BK166.out) hb); have n2_ := mkA (below_step (below_y HB.out) hb); have n3_ := mkA (hbox); have n4_ := mkA ((gz hg HB.out : w.heap.size ≤ gb168)); have n5_ := mkA ((gz hg HB.out : w.heap.size ≤ gb168)); have n6_ := mkA ((gn hg BK166.out : gb166 ≠ gb168)); have n7_ := mkA ((gm hg BK166.out : gb168 ≠ gb166)); clear HO_5; clear BK166; clear HB; have HO_5 := n0_; have BK166 := n1_; have HB := n2_; have BK168 := n3_; have GW168 := n4_; have GE168 := n5_; have NB166_168 := n6_; have NB168_166 := n7_; clear n0_ n1_ n2_ n3_ n4_ n5_ n6_ n7_; clear hb hbox hg; have hnb10 := NB168_166.out; have hnc10 := NB166_168.out; have hcz11_0 := bc BK168.out 0 _ rfl; have hcz11_1 := bc BK168.out 1 _ rfl; have hcz11_2 := bc BK168.out 2 _ rfl; have hcz11_3 := bc BK168.out 3 _ rfl; have hcz11_4 := bc BK168.out 4 _ rfl; have hcz11_5 := bc BK168.out 5 _ rfl; have hcz11_6 := bc BK168.out 6 _ rfl; have hcz11_7 := bc BK168.out 7 _ rfl; have hcz11_8 := bc BK168.out 8 _ rfl; have hcz11_9 := bc BK168.out 9 _ rfl; have hcz11_10 := bc BK168.out 10 _ rfl; have hcz11_11 := bc BK168.out 11 _ rfl; have hcz11_12 := bc BK168.out 12 _ rfl; have hcz11_13 := bc BK168.out 13 _ rfl; have hcz11_14 := bc BK168.out 14 _ rfl; have hcz11_15 := bc BK168.out 15 _ rfl; have hcz11_16 := bc BK168.out 16 _ rfl; have hcz11_17 := bc BK168.out 17 _ rfl; have hcz11_18 := bc BK168.out 18 _ rfl; have hcz11_19 := bc BK168.out 19 _ rfl; have hfz11_0 := blk_frozen BK168.out 0; have hfz11_1 := blk_frozen BK168.out 1; have hfz11_2 := blk_frozen BK168.out 2; have hfz11_3 := blk_frozen BK168.out 3; have hfz11_4 := blk_frozen BK168.out 4; have hfz11_5 := blk_frozen BK168.out 5; have hfz11_6 := blk_frozen BK168.out 6; have hfz11_7 := blk_frozen BK168.out 7; have hfz11_8 := blk_frozen BK168.out 8; have hfz11_9 := blk_frozen BK168.out 9; have hfz11_10 := blk_frozen BK168.out 10; have hfz11_11 := blk_frozen BK168.out 11; have hfz11_12 := blk_frozen BK168.out 12; have hfz11_13 := blk_frozen BK168.out 13; have hfz11_14 := blk_frozen BK168.out 14; have hfz11_15 := blk_frozen BK168.out 15; have hfz11_16 := blk_frozen BK168.out 16; have hfz11_17 := blk_frozen BK168.out 17; have hfz11_18 := blk_frozen BK168.out 18; have hfz11_19 := blk_frozen BK168.out 19) | ((with_reducible refine gate_store (t := 29) (p := 8) rfl ?_); refine store_whole2 (t := 29) (g := gb168) ?hg ?hn (cells := #[.int .i64 ((rd_T29 l0_5 x15_1).f0), .int .i64 ((rd_T29 l0_5 x15_1).f1), .string ((rd_T29 l0_5 x15_1).f2), .string ((rd_T29 l0_5 x15_1).f3), .string ((rd_T29 l0_5 x15_1).f4), .int .i64 ((rd_T29 l0_5 x15_1).f5), .int .i64 ((rd_T29 l0_5 x15_1).f6), .int .i64 ((rd_T29 l0_5 x15_1).f7), .int .i64 ((rd_T29 l0_5 x15_1).f8), .bool ((rd_T29 l0_5 x15_1).f9), .int .i64 ((rd_T29 l0_5 x15_1).f10), .int .i64 ((rd_T29 l0_5 x15_1).f11), .int .i64 ((rd_T29 l0_5 x15_1).f12), .string ((rd_T29 l0_5 x15_1).f13), .int .i64 ((rd_T29 l0_5 x15_1).f14), .int .i64 ((rd_T29 l0_5 x15_1).f15), .string ((rd_T29 l0_5 x15_1).f16), .int .i64 ((rd_T29 l0_5 x15_1).f17), .int .i64 ((rd_T29 l0_5 x15_1).f18), .string ((rd_T29 l0_5 x15_1).f19)]) ?ho (blk_y BK168.out) (by kernel_rfl) rfl ?h1 ?_; (case hg => rfl); (case hn => rfl); (case ho => refine ⟨_, _, rfl, ?_, ?_⟩; all_goals (first | (with_reducible rfl) | (go_simp; done) | rfl | (go_simp; rfl))); (case h1 => first | rfl | simp [Value.oneCell']); intro w12 hw; have hg : w9.grownBy w12 (some gb168) := (by rw [hw]; exact grown_setRow _ _ _); have n0_ := mkA ((by have h0_ : Kd.R k29 29 w9 w.heap.size (fun k_ => k_ ≠ gb168) u5 x5_1 := (by (with_reducible repeat (first | apply Kd.R_alloc | apply Kd.R_drewN | apply Kd.R_drew)); exact Kd.R_mono HO_5.out (fun _ hk => hk.2)); exact Kd.R_grown h0_ hg (fun k_ hk_ e_ => hk_ (Option.some.inj e_)) : Kd.R k29 29 w12 w.heap.size (fun k_ => k_ ≠ gb168) u5 x5_1)); have n1_ := mkA ((by rw [hw]; exact (setRow_other _ _ _ _ NB166_168.out).trans (blk_y BK166.out) : w12.heap[gb166]? = some (.cells #[.int .i64 a0_0, .int .i64 a0_1, .int .i64 a0_2, .int .i64 a0_3, .slice A0_4 l0_4.length c0_4, .slice (some ad167) l0_5.length c0_5] 25 (0, 0)))); have n2_ := mkA ((by rw [hw]; exact setRow_heap _ _ _ _ _ _ (blk_y BK168.out) : w12.heap[gb168]? = some (.cells #[.int .i64 ((rd_T29 l0_5 x15_1).f0), .int .i64 ((rd_T29 l0_5 x15_1).f1), .string ((rd_T29 l0_5 x15_1).f2), .string ((rd_T29 l0_5 x15_1).f3), .string ((rd_T29 l0_5 x15_1).f4), .int .i64 ((rd_T29 l0_5 x15_1).f5), .int .i64 ((rd_T29 l0_5 x15_1).f6), .int .i64 ((rd_T29 l0_5 x15_1).f7), .int .i64 ((rd_T29 l0_5 x15_1).f8), .bool ((rd_T29 l0_5 x15_1).f9), .int .i64 ((rd_T29 l0_5 x15_1).f10), .int .i64 ((rd_T29 l0_5 x15_1).f11), .int .i64 ((rd_T29 l0_5 x15_1).f12), .string ((rd_T29 l0_5 x15_1).f13), .int .i64 ((rd_T29 l0_5 x15_1).f14), .int .i64 ((rd_T29 l0_5 x15_1).f15), .string ((rd_T29 l0_5 x15_1).f16), .int .i64 ((rd_T29 l0_5 x15_1).f17), .int .i64 ((rd_T29 l0_5 x15_1).f18), .string ((rd_T29 l0_5 x15_1).f19)] 29 (0, 0)))); have n3_ := mkA ((by rw [hw]; exact below_setRow (below_y HB.out) GE168.out _ : Below w.heap.size w w12)); clear HO_5; clear BK166; clear BK168; clear HB; have HO_5 := n0_; have BK166 := n1_; have BK168 := n2_; have HB := n3_; clear n0_ n1_ n2_ n3_; clear hg hw))
 (try simp only [Act.put, sA, s0, sS])
 go_cut [27] (fun v27 wc => ∃ (kq : Nat) (x27_7 : Bool), v27 = .bool x27_7 ∧ Aside0 (retain_Over.j1 kq a1 x5_1 x6_1 l0_5 (l0_5.length : Int) x15_1 x27_7 a0_0 a0_1 a0_2 a0_3 l0_4 l0_5 ((rd_T29 l0_5 x15_1).f0) ((rd_T29 l0_5 x15_1).f1) ((rd_T29 l0_5 x15_1).f2) ((rd_T29 l0_5 x15_1).f3) ((rd_T29 l0_5 x15_1).f4) ((rd_T29 l0_5 x15_1).f5) ((rd_T29 l0_5 x15_1).f6) ((rd_T29 l0_5 x15_1).f7) ((rd_T29 l0_5 x15_1).f8) ((rd_T29 l0_5 x15_1).f9) ((rd_T29 l0_5 x15_1).f10) ((rd_T29 l0_5 x15_1).f11) ((rd_T29 l0_5 x15_1).f12) ((rd_T29 l0_5 x15_1).f13) ((rd_T29 l0_5 x15_1).f14) ((rd_T29 l0_5 x15_1).f15) ((rd_T29 l0_5 x15_1).f16) ((rd_T29 l0_5 x15_1).f17) ((rd_T29 l0_5 x15_1).f18) ((rd_T29 l0_5 x15_1).f19) = some r) ∧ Aside0 (kq ≤ k1) ∧ Aside0 (Kd.R k29 29 wc w.heap.size (fun k_ => k_ ≠ gb168) u5 x5_1) ∧ Aside0 (wc.heap[gb166]? = some (.cells #[.int .i64 a0_0, .int .i64 a0_1, .int .i64 a0_2, .int .i64 a0_3, (.slice A0_4 l0_4.length c0_4), (.slice (some ad167) l0_5.length c0_5)] 25 (0, 0))) ∧ Aside0 (wc.heap[gb168]? = some (.cells #[.int .i64 ((rd_T29 l0_5 x15_1).f0), .int .i64 ((rd_T29 l0_5 x15_1).f1), .string ((rd_T29 l0_5 x15_1).f2), .string ((rd_T29 l0_5 x15_1).f3), .string ((rd_T29 l0_5 x15_1).f4), .int .i64 ((rd_T29 l0_5 x15_1).f5), .int .i64 ((rd_T29 l0_5 x15_1).f6), .int .i64 ((rd_T29 l0_5 x15_1).f7), .int .i64 ((rd_T29 l0_5 x15_1).f8), .bool ((rd_T29 l0_5 x15_1).f9), .int .i64 ((rd_T29 l0_5 x15_1).f10), .int .i64 ((rd_T29 l0_5 x15_1).f11), .int .i64 ((rd_T29 l0_5 x15_1).f12), .string ((rd_T29 l0_5 x15_1).f13), .int .i64 ((rd_T29 l0_5 x15_1).f14), .int .i64 ((rd_T29 l0_5 x15_1).f15), .string ((rd_T29 l0_5 x15_1).f16), .int .i64 ((rd_T29 l0_5 x15_1).f17), .int .i64 ((rd_T29 l0_5 x15_1).f18), .string ((rd_T29 l0_5 x15_1).f19)] 29 (0, 0))) ∧ Aside0 (Below w.heap.size w wc))
 case first =>
  have H := HC8.out
  clear HC8
  by_cases c13 : ((rd_T29 l0_5 x15_1).f1) = a1
  ·rw [if_pos c13] at H
   have c13b0 : (((rd_T29 l0_5 x15_1).f1) == a1) = true := beq_iff_eq.mpr c13
   have c13b1 : (((rd_T29 l0_5 x15_1).f1) != a1) = false := bne_eq_false_iff_eq.mpr c13
   clear c13
   (first | rw [c13b0] | (simp only [i64_w, i32_w]; rw [c13b0]) | skip)
   as_aux_lemma =>
    have H' := mkA H
    clear H
    have hnb14 := NB168_166.out
    have hnc14 := NB166_168.out
    have hcz15_0 := bc BK168.out 0 _ rfl
    have hcz15_1 := bc BK168.out 1 _ rfl
    have hcz15_2 := bc BK168.out 2 _ rfl
    have hcz15_3 := bc BK168.out 3 _ rfl
    have hcz15_4 := bc BK168.out 4 _ rfl
    have hcz15_5 := bc BK168.out 5 _ rfl
    have hcz15_6 := bc BK168.out 6 _ rfl
    have hcz15_7 := bc BK168.out 7 _ rfl
    have hcz15_8 := bc BK168.out 8 _ rfl
    have hcz15_9 := bc BK168.out 9 _ rfl
    have hcz15_10 := bc BK168.out 10 _ rfl
    have hcz15_11 := bc BK168.out 11 _ rfl
    have hcz15_12 := bc BK168.out 12 _ rfl
    have hcz15_13 := bc BK168.out 13 _ rfl
    have hcz15_14 := bc BK168.out 14 _ rfl
    have hcz15_15 := bc BK168.out 15 _ rfl
    have hcz15_16 := bc BK168.out 16 _ rfl
    have hcz15_17 := bc BK168.out 17 _ rfl
    have hcz15_18 := bc BK168.out 18 _ rfl
    have hcz15_19 := bc BK168.out 19 _ rfl
    have hfz15_0 := blk_frozen BK168.out 0
    have hfz15_1 := blk_frozen BK168.out 1
    have hfz15_2 := blk_frozen BK168.out 2
    have hfz15_3 := blk_frozen BK168.out 3
    have hfz15_4 := blk_frozen BK168.out 4
    have hfz15_5 := blk_frozen BK168.out 5
    have hfz15_6 := blk_frozen BK168.out 6
    have hfz15_7 := blk_frozen BK168.out 7
    have hfz15_8 := blk_frozen BK168.out 8
    have hfz15_9 := blk_frozen BK168.out 9
    have hfz15_10 := blk_frozen BK168.out 10
    have hfz15_11 := blk_frozen BK168.out 11
    have hfz15_12 := blk_frozen BK168.out 12
    have hfz15_13 := blk_frozen BK168.out 13
    have hfz15_14 := blk_frozen BK168.out 14
    have hfz15_15 := blk_frozen BK168.out 15
    have hfz15_16 := blk_frozen BK168.out 16
    have hfz15_17 := blk_frozen BK168.out 17
    have hfz15_18 := blk_frozen BK168.out 18
    have hfz15_19 := blk_frozen BK168.out 19
    go_wp2_with (first | ((with_reducible refine gate_load (t := 29) rfl ?_); refine load_at2 (t := 29) ?hg ?ho (c0 := _) (cs := [_, _, _, _, _, _, _, _, _, _, _, _, _, _, _, _, _, _, _]) Try.underlying29 rfl (by kernel_rfl) hx167_0 ⟨hx167_1, hx167_2, hx167_3, hx167_4, hx167_5, hx167_6, hx167_7, hx167_8, hx167_9, hx167_10, hx167_11, hx167_12, hx167_13, hx167_14, hx167_15, hx167_16, hx167_17, hx167_18, hx167_19, trivial⟩ ?_; (case hg => rfl); (case ho => refine ⟨_, rfl, ?_⟩; first | (with_reducible rfl) | (go_simp; done))) | ((with_reducible refine gate_load (t := 25) rfl ?_); refine load_row3 (t := 25) (g := gb166) ?hg BK166.out ?ho ?hb Try.underlying25 rfl ?hs ?_; (case hg => rfl); (case ho => refine ⟨_, rfl, ?_⟩; first | (with_reducible rfl) | (go_simp; done)); (case hb => (with_reducible repeat (first | refine blk_drewN ?_ _ | refine blk_drew ?_ | refine blk_alloc ?_ _)); with_reducible exact BK166.out); (case hs => kernel_rfl)) | ((with_reducible refine gate_load (t := 29) rfl ?_); refine load_row3 (t := 29) (g := gb168) ?hg BK168.out ?ho ?hb Try.underlying29 rfl ?hs ?_; (case hg => rfl); (case ho => refine ⟨_, rfl, ?_⟩; first | (with_reducible rfl) | (go_simp; done)); (case hb => (with_reducible repeat (first | refine blk_drewN ?_ _ | refine blk_drew ?_ | refine blk_alloc ?_ _)); with_reducible exact BK168.out); (case hs => kernel_rfl)))
    go_meet
    case rel => exact ⟨_, ((((rd_T29 l0_5 x15_1).f7) != 3)), (by first | rfl | (simp; done) | (simp [*]; done)), H', ⟨by have := HK1.out; first | omega | exact Nat.le_refl _⟩, ⟨by (with_reducible repeat (first | apply Kd.R_alloc | apply Kd.R_drewN | apply Kd.R_drew)); exact HO_5.out⟩, ⟨by (with_reducible repeat (first | refine blk_drewN ?_ _ | refine blk_drew ?_ | refine blk_alloc ?_ _)); exact BK166.out⟩, ⟨by (with_reducible repeat (first | refine blk_drewN ?_ _ | refine blk_drew ?_ | refine blk_alloc ?_ _)); exact BK168.out⟩, ⟨by repeat (first | (with_reducible first | exact HB.out | apply below_alloc | apply pw_below_drewN | apply below_drew1 | refine below_set ?_ GE166.out | refine below_set ?_ GE168.out) | exact HB.out)⟩⟩
  ·rw [if_neg c13] at H
   have c13b0 : (((rd_T29 l0_5 x15_1).f1) == a1) = false := beq_eq_false_iff_ne.mpr c13
   have c13b1 : (((rd_T29 l0_5 x15_1).f1) != a1) = true := bne_iff_ne.mpr c13
   (first | rw [c13b0] | (simp only [i64_w, i32_w]; rw [c13b0]) | skip)
   as_aux_lemma =>
    have H' := mkA H
    clear H
    have hnb16 := NB168_166.out
    have hnc16 := NB166_168.out
    have hcz17_0 := bc BK168.out 0 _ rfl
    have hcz17_1 := bc BK168.out 1 _ rfl
    have hcz17_2 := bc BK168.out 2 _ rfl
    have hcz17_3 := bc BK168.out 3 _ rfl
    have hcz17_4 := bc BK168.out 4 _ rfl
    have hcz17_5 := bc BK168.out 5 _ rfl
    have hcz17_6 := bc BK168.out 6 _ rfl
    have hcz17_7 := bc BK168.out 7 _ rfl
    have hcz17_8 := bc BK168.out 8 _ rfl
    have hcz17_9 := bc BK168.out 9 _ rfl
    have hcz17_10 := bc BK168.out 10 _ rfl
    have hcz17_11 := bc BK168.out 11 _ rfl
    have hcz17_12 := bc BK168.out 12 _ rfl
    have hcz17_13 := bc BK168.out 13 _ rfl
    have hcz17_14 := bc BK168.out 14 _ rfl
    have hcz17_15 := bc BK168.out 15 _ rfl
    have hcz17_16 := bc BK168.out 16 _ rfl
    have hcz17_17 := bc BK168.out 17 _ rfl
    have hcz17_18 := bc BK168.out 18 _ rfl
    have hcz17_19 := bc BK168.out 19 _ rfl
    have hfz17_0 := blk_frozen BK168.out 0
    have hfz17_1 := blk_frozen BK168.out 1
    have hfz17_2 := blk_frozen BK168.out 2
    have hfz17_3 := blk_frozen BK168.out 3
    have hfz17_4 := blk_frozen BK168.out 4
    have hfz17_5 := blk_frozen BK168.out 5
    have hfz17_6 := blk_frozen BK168.out 6
    have hfz17_7 := blk_frozen BK168.out 7
    have hfz17_8 := blk_frozen BK168.out 8
    have hfz17_9 := blk_frozen BK168.out 9
    have hfz17_10 := blk_frozen BK168.out 10
    have hfz17_11 := blk_frozen BK168.out 11
    have hfz17_12 := blk_frozen BK168.out 12
    have hfz17_13 := blk_frozen BK168.out 13
    have hfz17_14 := blk_frozen BK168.out 14
    have hfz17_15 := blk_frozen BK168.out 15
    have hfz17_16 := blk_frozen BK168.out 16
    have hfz17_17 := blk_frozen BK168.out 17
    have hfz17_18 := blk_frozen BK168.out 18
    have hfz17_19 := blk_frozen BK168.out 19
    go_wp2_with (first | ((with_reducible refine gate_load (t := 29) rfl ?_); refine load_at2 (t := 29) ?hg ?ho (c0 := _) (cs := [_, _, _, _, _, _, _, _, _, _, _, _, _, _, _, _, _, _, _]) Try.underlying29 rfl (by kernel_rfl) hx167_0 ⟨hx167_1, hx167_2, hx167_3, hx167_4, hx167_5, hx167_6, hx167_7, hx167_8, hx167_9, hx167_10, hx167_11, hx167_12, hx167_13, hx167_14, hx167_15, hx167_16, hx167_17, hx167_18, hx167_19, trivial⟩ ?_; (case hg => rfl); (case ho => refine ⟨_, rfl, ?_⟩; first | (with_reducible rfl) | (go_simp; done))) | ((with_reducible refine gate_load (t := 25) rfl ?_); refine load_row3 (t := 25) (g := gb166) ?hg BK166.out ?ho ?hb Try.underlying25 rfl ?hs ?_; (case hg => rfl); (case ho => refine ⟨_, rfl, ?_⟩; first | (with_reducible rfl) | (go_simp; done)); (case hb => (with_reducible repeat (first | refine blk_drewN ?_ _ | refine blk_drew ?_ | refine blk_alloc ?_ _)); with_reducible exact BK166.out); (case hs => kernel_rfl)) | ((with_reducible refine gate_load (t := 29) rfl ?_); refine load_row3 (t := 29) (g := gb168) ?hg BK168.out ?ho ?hb Try.underlying29 rfl ?hs ?_; (case hg => rfl); (case ho => refine ⟨_, rfl, ?_⟩; first | (with_reducible rfl) | (go_simp; done)); (case hb => (with_reducible repeat (first | refine blk_drewN ?_ _ | refine blk_drew ?_ | refine blk_alloc ?_ _)); with_reducible exact BK168.out); (case hs => kernel_rfl)))
    go_meet
    case rel => exact ⟨_, (true), (by first | rfl | (simp; done) | (simp [*]; done)), H', ⟨by have := HK1.out; first | omega | exact Nat.le_refl _⟩, ⟨by (with_reducible repeat (first | apply Kd.R_alloc | apply Kd.R_drewN | apply Kd.R_drew)); exact HO_5.out⟩, ⟨by (with_reducible repeat (first | refine blk_drewN ?_ _ | refine blk_drew ?_ | refine blk_alloc ?_ _)); exact BK166.out⟩, ⟨by (with_reducible repeat (first | refine blk_drewN ?_ _ | refine blk_drew ?_ | refine blk_alloc ?_ _)); exact BK168.out⟩, ⟨by repeat (first | (with_reducible first | exact HB.out | apply below_alloc | apply pw_below_drewN | apply below_drew1 | refine below_set ?_ GE166.out | refine below_set ?_ GE168.out) | exact HB.out)⟩⟩
 clear HC8
 try clear c1
 try clear p1
 try clear q1
 try clear hx1
 try clear p2
 try clear c5
 try clear c5b0
 try clear c6
 try clear c6b0
 try clear c7
 try clear c7b0
 try clear c10
 try clear c11
 try clear c13
 try clear c13b0
 try clear c13b1
 try clear c14
 try clear c16
 try clear p16
 try clear q16
 try clear hx16
 try clear hcz11_0
 try clear hcz11_1
 try clear hcz11_10
 try clear hcz11_11
 try clear hcz11_12
 try clear hcz11_13
 try clear hcz11_14
 try clear hcz11_15
 try clear hcz11_16
 try clear hcz11_17
 try clear hcz11_18
 try clear hcz11_19
 try clear hcz11_2
 try clear hcz11_3
 try clear hcz11_4
 try clear hcz11_5
 try clear hcz11_6
 try clear hcz11_7
 try clear hcz11_8
 try clear hcz11_9
 try clear hcz15_0
 try clear hcz15_1
 try clear hcz15_10
 try clear hcz15_11
 try clear hcz15_12
 try clear hcz15_13
 try clear hcz15_14
 try clear hcz15_15
 try clear hcz15_16
 try clear hcz15_17
 try clear hcz15_18
 try clear hcz15_19
 try clear hcz15_2
 try clear hcz15_3
 try clear hcz15_4
 try clear hcz15_5
 try clear hcz15_6
 try clear hcz15_7
 try clear hcz15_8
 try clear hcz15_9
 try clear hcz17_0
 try clear hcz17_1
 try clear hcz17_10
 try clear hcz17_11
 try clear hcz17_12
 try clear hcz17_13
 try clear hcz17_14
 try clear hcz17_15
 try clear hcz17_16
 try clear hcz17_17
 try clear hcz17_18
 try clear hcz17_19
 try clear hcz17_2
 try clear hcz17_3
 try clear hcz17_4
 try clear hcz17_5
 try clear hcz17_6
 try clear hcz17_7
 try clear hcz17_8
 try clear hcz17_9
 try clear hcz4_0
 try clear hcz4_1
 try clear hcz4_2
 try clear hcz4_3
 try clear hcz4_4
 try clear hcz4_5
 try clear hfz11_0
 try clear hfz11_1
 try clear hfz11_10
 try clear hfz11_11
 try clear hfz11_12
 try clear hfz11_13
 try clear hfz11_14
 try clear hfz11_15
 try clear hfz11_16
 try clear hfz11_17
 try clear hfz11_18
 try clear hfz11_19
 try clear hfz11_2
 try clear hfz11_3
 try clear hfz11_4
 try clear hfz11_5
 try clear hfz11_6
 try clear hfz11_7
 try clear hfz11_8
 try clear hfz11_9
 try clear hfz15_0
 try clear hfz15_1
 try clear hfz15_10
 try clear hfz15_11
 try clear hfz15_12
 try clear hfz15_13
 try clear hfz15_14
 try clear hfz15_15
 try clear hfz15_16
 try clear hfz15_17
 try clear hfz15_18
 try clear hfz15_19
 try clear hfz15_2
 try clear hfz15_3
 try clear hfz15_4
 try clear hfz15_5
 try clear hfz15_6
 try clear hfz15_7
 try clear hfz15_8
 try clear hfz15_9
 try clear hfz17_0
 try clear hfz17_1
 try clear hfz17_10
 try clear hfz17_11
 try clear hfz17_12
 try clear hfz17_13
 try clear hfz17_14
 try clear hfz17_15
 try clear hfz17_16
 try clear hfz17_17
 try clear hfz17_18
 try clear hfz17_19
 try clear hfz17_2
 try clear hfz17_3
 try clear hfz17_4
 try clear hfz17_5
 try clear hfz17_6
 try clear hfz17_7
 try clear hfz17_8
 try clear hfz17_9
 try clear hfz4_0
 try clear hfz4_1
 try clear hfz4_2
 try clear hfz4_3
 try clear hfz4_4
 try clear hfz4_5
 try clear hx167_0
 try clear hx167_1
 try clear hx167_10
 try clear hx167_11
 try clear hx167_12
 try clear hx167_13
 try clear hx167_14
 try clear hx167_15
 try clear hx167_16
 try clear hx167_17
 try clear hx167_18
 try clear hx167_19
 try clear hx167_2
 try clear hx167_3
 try clear hx167_4
 try clear hx167_5
 try clear hx167_6
 try clear hx167_7
 try clear hx167_8
 try clear hx167_9
 try clear p167
 try clear p2
 try clear q167
 obtain ⟨kq, x27_7, rfl, HA, HJ7, HO_5, BK166, BK168, HB⟩ := hcut
 rcases kq with _ | kj7
 ·exact absurd HA.out (by simp [retain_Over.j1])
 have H := HA.out
 clear HA
 simp only [retain_Over.j1] at H
 by_cases c18 : x27_7 = true
 ·subst c18
  have H1 : (retain_Over.l0 kj7 a1 x5_1 x6_1 l0_5 (l0_5.length : Int) (wrap64 (x15_1 + 1)) a0_0 a0_1 a0_2 a0_3 l0_4 l0_5) = some r := by rw [if_pos rfl] at H; exact H
  clear H
  have H := H1
  clear H1
  as_aux_lemma =>
   have H' := mkA H
   clear H
   go_wp2_with (first | ((with_reducible refine gate_load (t := 29) rfl ?_); refine load_at2 (t := 29) ?hg ?ho (c0 := _) (cs := [_, _, _, _, _, _, _, _, _, _, _, _, _, _, _, _, _, _, _]) Try.underlying29 rfl (by kernel_rfl) hx167_0 ⟨hx167_1, hx167_2, hx167_3, hx167_4, hx167_5, hx167_6, hx167_7, hx167_8, hx167_9, hx167_10, hx167_11, hx167_12, hx167_13, hx167_14, hx167_15, hx167_16, hx167_17, hx167_18, hx167_19, trivial⟩ ?_; (case hg => rfl); (case ho => refine ⟨_, rfl, ?_⟩; first | (with_reducible rfl) | (go_simp; done))) | ((with_reducible refine gate_load (t := 25) rfl ?_); refine load_row3 (t := 25) (g := gb166) ?hg BK166.out ?ho ?hb Try.underlying25 rfl ?hs ?_; (case hg => rfl); (case ho => refine ⟨_, rfl, ?_⟩; first | (with_reducible rfl) | (go_simp; done)); (case hb => (with_reducible repeat (first | refine blk_drewN ?_ _ | refine blk_drew ?_ | refine blk_alloc ?_ _)); with_reducible exact BK166.out); (case hs => kernel_rfl)) | ((with_reducible refine gate_load (t := 29) rfl ?_); refine load_row3 (t := 29) (g := gb168) ?hg BK168.out ?ho ?hb Try.underlying29 rfl ?hs ?_; (case hg => rfl); (case ho => refine ⟨_, rfl, ?_⟩; first | (with_reducible rfl) | (go_simp; done)); (case hb => (with_reducible repeat (first | refine blk_drewN ?_ _ | refine blk_drew ?_ | refine blk_alloc ?_ _)); with_reducible exact BK168.out); (case hs => kernel_rfl)))
   go_roundg kj7
   case measure => have := HK1.out; have := HJ7.out; omega
   case rel => exact ⟨(x5_1), (x6_1), (wrap64 (x15_1 + 1)), (by first | rfl | (simp; done) | (simp [*]; done)), (by first | rfl | (simp; done) | (simp [*]; done)), H', ⟨by have := HK1.out; have := HJ7.out; omega⟩, ⟨by (with_reducible repeat (first | apply Kd.R_alloc | apply Kd.R_drewN | apply Kd.R_drew)); exact Kd.R_mono HO_5.out (fun _ hk => trivial)⟩, ⟨by (with_reducible repeat (first | refine blk_drewN ?_ _ | refine blk_drew ?_ | refine blk_alloc ?_ _)); exact BK166.out⟩, ⟨by repeat (first | (with_reducible first | exact HB.out | apply below_alloc | apply pw_below_drewN | apply below_drew1 | refine below_set ?_ GE166.out | refine below_set ?_ GE168.out) | exact HB.out)⟩⟩
 replace c18 := Bool.eq_false_iff.mpr c18
 subst c18
 have H1 : ((retain_may.f ((rd_T29 l0_5 x15_1).f0) ((rd_T29 l0_5 x15_1).f1) ((rd_T29 l0_5 x15_1).f2) ((rd_T29 l0_5 x15_1).f3) ((rd_T29 l0_5 x15_1).f4) ((rd_T29 l0_5 x15_1).f5) ((rd_T29 l0_5 x15_1).f6) ((rd_T29 l0_5 x15_1).f7) ((rd_T29 l0_5 x15_1).f8) ((rd_T29 l0_5 x15_1).f9) ((rd_T29 l0_5 x15_1).f10) ((rd_T29 l0_5 x15_1).f11) ((rd_T29 l0_5 x15_1).f12) ((rd_T29 l0_5 x15_1).f13) ((rd_T29 l0_5 x15_1).f14) ((rd_T29 l0_5 x15_1).f15) ((rd_T29 l0_5 x15_1).f16) ((rd_T29 l0_5 x15_1).f17) ((rd_T29 l0_5 x15_1).f18) ((rd_T29 l0_5 x15_1).f19)).bind fun t169 => (if t169 = true then (if x5_1.length < 676622540169 then (retain_Over.l0 kj7 a1 (x5_1 ++ [(⟨((rd_T29 l0_5 x15_1).f0), ((rd_T29 l0_5 x15_1).f1), ((rd_T29 l0_5 x15_1).f2), ((rd_T29 l0_5 x15_1).f3), ((rd_T29 l0_5 x15_1).f4), ((rd_T29 l0_5 x15_1).f5), ((rd_T29 l0_5 x15_1).f6), ((rd_T29 l0_5 x15_1).f7), ((rd_T29 l0_5 x15_1).f8), ((rd_T29 l0_5 x15_1).f9), ((rd_T29 l0_5 x15_1).f10), ((rd_T29 l0_5 x15_1).f11), ((rd_T29 l0_5 x15_1).f12), ((rd_T29 l0_5 x15_1).f13), ((rd_T29 l0_5 x15_1).f14), ((rd_T29 l0_5 x15_1).f15), ((rd_T29 l0_5 x15_1).f16), ((rd_T29 l0_5 x15_1).f17), ((rd_T29 l0_5 x15_1).f18), ((rd_T29 l0_5 x15_1).f19)⟩ : S29)]) (wrap64 (x6_1 + 1)) l0_5 (l0_5.length : Int) (wrap64 (x15_1 + 1)) a0_0 a0_1 a0_2 a0_3 l0_4 l0_5) else (none)) else (retain_Over.l0 kj7 a1 x5_1 (wrap64 (x6_1 + 1)) l0_5 (l0_5.length : Int) (wrap64 (x15_1 + 1)) a0_0 a0_1 a0_2 a0_3 l0_4 l0_5))) = some r := by rw [if_neg (show ¬ (false = true) by decide)] at H; exact H
 clear H
 have H := H1
 clear H1
 replace H := Option.bind_eq_some_iff.mp H
 obtain ⟨t169, A190, H⟩ := H
 replace H : (if t169 = true then (if x5_1.length < 676622540169 then (retain_Over.l0 kj7 a1 (x5_1 ++ [(⟨((rd_T29 l0_5 x15_1).f0), ((rd_T29 l0_5 x15_1).f1), ((rd_T29 l0_5 x15_1).f2), ((rd_T29 l0_5 x15_1).f3), ((rd_T29 l0_5 x15_1).f4), ((rd_T29 l0_5 x15_1).f5), ((rd_T29 l0_5 x15_1).f6), ((rd_T29 l0_5 x15_1).f7), ((rd_T29 l0_5 x15_1).f8), ((rd_T29 l0_5 x15_1).f9), ((rd_T29 l0_5 x15_1).f10), ((rd_T29 l0_5 x15_1).f11), ((rd_T29 l0_5 x15_1).f12), ((rd_T29 l0_5 x15_1).f13), ((rd_T29 l0_5 x15_1).f14), ((rd_T29 l0_5 x15_1).f15), ((rd_T29 l0_5 x15_1).f16), ((rd_T29 l0_5 x15_1).f17), ((rd_T29 l0_5 x15_1).f18), ((rd_T29 l0_5 x15_1).f19)⟩ : S29)]) (wrap64 (x6_1 + 1)) l0_5 (l0_5.length : Int) (wrap64 (x15_1 + 1)) a0_0 a0_1 a0_2 a0_3 l0_4 l0_5) else (none)) else (retain_Over.l0 kj7 a1 x5_1 (wrap64 (x6_1 + 1)) l0_5 (l0_5.length : Int) (wrap64 (x15_1 + 1)) a0_0 a0_1 a0_2 a0_3 l0_4 l0_5)) = some r := H
 have A19 := mkA A190
 clear A190
 by_cases c20 : t169 = true
 rotate_left
 ·replace c20 := Bool.eq_false_iff.mpr c20
  subst c20
  have H1 : (retain_Over.l0 kj7 a1 x5_1 (wrap64 (x6_1 + 1)) l0_5 (l0_5.length : Int) (wrap64 (x15_1 + 1)) a0_0 a0_1 a0_2 a0_3 l0_4 l0_5) = some r := by rw [if_neg (show ¬ (false = true) by decide)] at H; exact H
  clear H
  have H := H1
  clear H1
  as_aux_lemma =>
   have H' := mkA H
   clear H
   have hnb27 := NB168_166.out
   have hnc27 := NB166_168.out
   have hcz28_0 := bc BK168.out 0 _ rfl
   have hcz28_1 := bc BK168.out 1 _ rfl
   have hcz28_2 := bc BK168.out 2 _ rfl
   have hcz28_3 := bc BK168.out 3 _ rfl
   have hcz28_4 := bc BK168.out 4 _ rfl
   have hcz28_5 := bc BK168.out 5 _ rfl
   have hcz28_6 := bc BK168.out 6 _ rfl
   have hcz28_7 := bc BK168.out 7 _ rfl
   have hcz28_8 := bc BK168.out 8 _ rfl
   have hcz28_9 := bc BK168.out 9 _ rfl
   have hcz28_10 := bc BK168.out 10 _ rfl
   have hcz28_11 := bc BK168.out 11 _ rfl
   have hcz28_12 := bc BK168.out 12 _ rfl
   have hcz28_13 := bc BK168.out 13 _ rfl
   have hcz28_14 := bc BK168.out 14 _ rfl
   have hcz28_15 := bc BK168.out 15 _ rfl
   have hcz28_16 := bc BK168.out 16 _ rfl
   have hcz28_17 := bc BK168.out 17 _ rfl
   have hcz28_18 := bc BK168.out 18 _ rfl
   have hcz28_19 := bc BK168.out 19 _ rfl
   have hfz28_0 := blk_frozen BK168.out 0
   have hfz28_1 := blk_frozen BK168.out 1
   have hfz28_2 := blk_frozen BK168.out 2
   have hfz28_3 := blk_frozen BK168.out 3
   have hfz28_4 := blk_frozen BK168.out 4
   have hfz28_5 := blk_frozen BK168.out 5
   have hfz28_6 := blk_frozen BK168.out 6
   have hfz28_7 := blk_frozen BK168.out 7
   have hfz28_8 := blk_frozen BK168.out 8
   have hfz28_9 := blk_frozen BK168.out 9
   have hfz28_10 := blk_frozen BK168.out 10
   have hfz28_11 := blk_frozen BK168.out 11
   have hfz28_12 := blk_frozen BK168.out 12
   have hfz28_13 := blk_frozen BK168.out 13
   have hfz28_14 := blk_frozen BK168.out 14
   have hfz28_15 := blk_frozen BK168.out 15
   have hfz28_16 := blk_frozen BK168.out 16
   have hfz28_17 := blk_frozen BK168.out 17
   have hfz28_18 := blk_frozen BK168.out 18
   have hfz28_19 := blk_frozen BK168.out 19
   go_wp2_with (first | ((with_reducible refine gate_load (t := 29) rfl ?_); refine load_at2 (t := 29) ?hg ?ho (c0 := _) (cs := [_, _, _, _, _, _, _, _, _, _, _, _, _, _, _, _, _, _, _]) Try.underlying29 rfl (by kernel_rfl) hx167_0 ⟨hx167_1, hx167_2, hx167_3, hx167_4, hx167_5, hx167_6, hx167_7, hx167_8, hx167_9, hx167_10, hx167_11, hx167_12, hx167_13, hx167_14, hx167_15, hx167_16, hx167_17, hx167_18, hx167_19, trivial⟩ ?_; (case hg => rfl); (case ho => refine ⟨_, rfl, ?_⟩; first | (with_reducible rfl) | (go_simp; done))) | ((with_reducible refine gate_load (t := 25) rfl ?_); refine load_row3 (t := 25) (g := gb166) ?hg BK166.out ?ho ?hb Try.underlying25 rfl ?hs ?_; (case hg => rfl); (case ho => refine ⟨_, rfl, ?_⟩; first | (with_reducible rfl) | (go_simp; done)); (case hb => (with_reducible repeat (first | refine blk_drewN ?_ _ | refine blk_drew ?_ | refine blk_alloc ?_ _)); with_reducible exact BK166.out); (case hs => kernel_rfl)) | ((with_reducible refine gate_load (t := 29) rfl ?_); refine load_row3 (t := 29) (g := gb168) ?hg BK168.out ?ho ?hb Try.underlying29 rfl ?hs ?_; (case hg => rfl); (case ho => refine ⟨_, rfl, ?_⟩; first | (with_reducible rfl) | (go_simp; done)); (case hb => (with_reducible repeat (first | refine blk_drewN ?_ _ | refine blk_drew ?_ | refine blk_alloc ?_ _)); with_reducible exact BK168.out); (case hs => kernel_rfl)) | ((with_reducible refine gate_callee (f := 20) rfl ?_); refine goesL_ (some 31) rfl rfl Try.func20 (by kernel_rfl) rfl #[.agg #[.int .i64 ((rd_T29 l0_5 x15_1).f0), .int .i64 ((rd_T29 l0_5 x15_1).f1), .string ((rd_T29 l0_5 x15_1).f2), .string ((rd_T29 l0_5 x15_1).f3), .string ((rd_T29 l0_5 x15_1).f4), .int .i64 ((rd_T29 l0_5 x15_1).f5), .int .i64 ((rd_T29 l0_5 x15_1).f6), .int .i64 ((rd_T29 l0_5 x15_1).f7), .int .i64 ((rd_T29 l0_5 x15_1).f8), .bool ((rd_T29 l0_5 x15_1).f9), .int .i64 ((rd_T29 l0_5 x15_1).f10), .int .i64 ((rd_T29 l0_5 x15_1).f11), .int .i64 ((rd_T29 l0_5 x15_1).f12), .string ((rd_T29 l0_5 x15_1).f13), .int .i64 ((rd_T29 l0_5 x15_1).f14), .int .i64 ((rd_T29 l0_5 x15_1).f15), .string ((rd_T29 l0_5 x15_1).f16), .int .i64 ((rd_T29 l0_5 x15_1).f17), .int .i64 ((rd_T29 l0_5 x15_1).f18), .string ((rd_T29 l0_5 x15_1).f19)]] rfl ca ?_; (with_reducible refine (retain_may.calls _ _ _ _ _ _ _ _ _ _ _ _ _ _ _ _ _ _ _ _ false _ A19.out).mono ?_); rintro e w29 ⟨rfl, hb⟩; refine ⟨_, rfl, ?_⟩; have n0_ := mkA (Kd.R_below (Kd.R_y HO_5.out) hb); have n1_ := mkA (blk_below (blk_y BK166.out) hb); have n2_ := mkA (blk_below (blk_y BK168.out) hb); have n3_ := mkA (below_step (below_y HB.out) hb); clear HO_5; clear BK166; clear BK168; clear HB; have HO_5 := n0_; have BK166 := n1_; have BK168 := n2_; have HB := n3_; clear n0_ n1_ n2_ n3_; (try clear hb); (try clear hb2); (try clear hk); (try clear hi)))
   go_roundg kj7
   case measure => have := HK1.out; have := HJ7.out; omega
   case rel => exact ⟨(x5_1), (wrap64 (x6_1 + 1)), (wrap64 (x15_1 + 1)), (by first | rfl | (simp; done) | (simp [*]; done)), (by first | rfl | (simp; done) | (simp [*]; done)), H', ⟨by have := HK1.out; have := HJ7.out; omega⟩, ⟨by (with_reducible repeat (first | apply Kd.R_alloc | apply Kd.R_drewN | apply Kd.R_drew)); exact Kd.R_mono HO_5.out (fun _ hk => trivial)⟩, ⟨by (with_reducible repeat (first | refine blk_drewN ?_ _ | refine blk_drew ?_ | refine blk_alloc ?_ _)); exact BK166.out⟩, ⟨by repeat (first | (with_reducible first | exact HB.out | apply below_alloc | apply pw_below_drewN | apply below_drew1 | refine below_set ?_ GE166.out | refine below_set ?_ GE168.out) | exact HB.out)⟩⟩
 subst c20
 have H1 : (if x5_1.length < 676622540169 then (retain_Over.l0 kj7 a1 (x5_1 ++ [(⟨((rd_T29 l0_5 x15_1).f0), ((rd_T29 l0_5 x15_1).f1), ((rd_T29 l0_5 x15_1).f2), ((rd_T29 l0_5 x15_1).f3), ((rd_T29 l0_5 x15_1).f4), ((rd_T29 l0_5 x15_1).f5), ((rd_T29 l0_5 x15_1).f6), ((rd_T29 l0_5 x15_1).f7), ((rd_T29 l0_5 x15_1).f8), ((rd_T29 l0_5 x15_1).f9), ((rd_T29 l0_5 x15_1).f10), ((rd_T29 l0_5 x15_1).f11), ((rd_T29 l0_5 x15_1).f12), ((rd_T29 l0_5 x15_1).f13), ((rd_T29 l0_5 x15_1).f14), ((rd_T29 l0_5 x15_1).f15), ((rd_T29 l0_5 x15_1).f16), ((rd_T29 l0_5 x15_1).f17), ((rd_T29 l0_5 x15_1).f18), ((rd_T29 l0_5 x15_1).f19)⟩ : S29)]) (wrap64 (x6_1 + 1)) l0_5 (l0_5.length : Int) (wrap64 (x15_1 + 1)) a0_0 a0_1 a0_2 a0_3 l0_4 l0_5) else (none)) = some r := by rw [if_pos rfl] at H; exact H
 clear H
 have H := H1
 clear H1
 by_cases c21 : x5_1.length < 676622540169
 rotate_left
 ·rw [if_neg c21] at H
  exact absurd H (by simp)
 rw [if_pos c21] at H
 have LMc21 := mkA c21
 clear c21
 obtain ⟨y170, hy170⟩ : ∃ y_ : List (S29), y_ = (x5_1 ++ [(⟨((rd_T29 l0_5 x15_1).f0), ((rd_T29 l0_5 x15_1).f1), ((rd_T29 l0_5 x15_1).f2), ((rd_T29 l0_5 x15_1).f3), ((rd_T29 l0_5 x15_1).f4), ((rd_T29 l0_5 x15_1).f5), ((rd_T29 l0_5 x15_1).f6), ((rd_T29 l0_5 x15_1).f7), ((rd_T29 l0_5 x15_1).f8), ((rd_T29 l0_5 x15_1).f9), ((rd_T29 l0_5 x15_1).f10), ((rd_T29 l0_5 x15_1).f11), ((rd_T29 l0_5 x15_1).f12), ((rd_T29 l0_5 x15_1).f13), ((rd_T29 l0_5 x15_1).f14), ((rd_T29 l0_5 x15_1).f15), ((rd_T29 l0_5 x15_1).f16), ((rd_T29 l0_5 x15_1).f17), ((rd_T29 l0_5 x15_1).f18), ((rd_T29 l0_5 x15_1).f19)⟩ : S29)]) := ⟨_, rfl⟩
 replace H : (retain_Over.l0 kj7 a1 y170 (wrap64 (x6_1 + 1)) l0_5 (l0_5.length : Int) (wrap64 (x15_1 + 1)) a0_0 a0_1 a0_2 a0_3 l0_4 l0_5) = some r := by first | (rw [hy170]; with_reducible exact H) | (have H2_ := (Option.bind_some _ _).symm.trans H; rw [hy170]; with_reducible exact H2_) | (have H2_ := (Option.bind_some _ _).symm.trans H; with_reducible exact H2_) | with_reducible exact H | (rw [hy170]; exact H) | exact H
 have Ny170 := mkA hy170
 clear hy170
 focus
  have H' := mkA H
  clear H
  have hnb22 := NB168_166.out
  have hnc22 := NB166_168.out
  have hcz23_0 := bc BK168.out 0 _ rfl
  have hcz23_1 := bc BK168.out 1 _ rfl
  have hcz23_2 := bc BK168.out 2 _ rfl
  have hcz23_3 := bc BK168.out 3 _ rfl
  have hcz23_4 := bc BK168.out 4 _ rfl
  have hcz23_5 := bc BK168.out 5 _ rfl
  have hcz23_6 := bc BK168.out 6 _ rfl
  have hcz23_7 := bc BK168.out 7 _ rfl
  have hcz23_8 := bc BK168.out 8 _ rfl
  have hcz23_9 := bc BK168.out 9 _ rfl
  have hcz23_10 := bc BK168.out 10 _ rfl
  have hcz23_11 := bc BK168.out 11 _ rfl
  have hcz23_12 := bc BK168.out 12 _ rfl
  have hcz23_13 := bc BK168.out 13 _ rfl
  have hcz23_14 := bc BK168.out 14 _ rfl
  have hcz23_15 := bc BK168.out 15 _ rfl
  have hcz23_16 := bc BK168.out 16 _ rfl
  have hcz23_17 := bc BK168.out 17 _ rfl
  have hcz23_18 := bc BK168.out 18 _ rfl
  have hcz23_19 := bc BK168.out 19 _ rfl
  have hfz23_0 := blk_frozen BK168.out 0
  have hfz23_1 := blk_frozen BK168.out 1
  have hfz23_2 := blk_frozen BK168.out 2
  have hfz23_3 := blk_frozen BK168.out 3
  have hfz23_4 := blk_frozen BK168.out 4
  have hfz23_5 := blk_frozen BK168.out 5
  have hfz23_6 := blk_frozen BK168.out 6
  have hfz23_7 := blk_frozen BK168.out 7
  have hfz23_8 := blk_frozen BK168.out 8
  have hfz23_9 := blk_frozen BK168.out 9
  have hfz23_10 := blk_frozen BK168.out 10
  have hfz23_11 := blk_frozen BK168.out 11
  have hfz23_12 := blk_frozen BK168.out 12
  have hfz23_13 := blk_frozen BK168.out 13
  have hfz23_14 := blk_frozen BK168.out 14
  have hfz23_15 := blk_frozen BK168.out 15
  have hfz23_16 := blk_frozen BK168.out 16
  have hfz23_17 := blk_frozen BK168.out 17
  have hfz23_18 := blk_frozen BK168.out 18
  have hfz23_19 := blk_frozen BK168.out 19
  go_wp2_with (first | ((with_reducible refine gate_load (t := 29) rfl ?_); refine load_at2 (t := 29) ?hg ?ho (c0 := _) (cs := [_, _, _, _, _, _, _, _, _, _, _, _, _, _, _, _, _, _, _]) Try.underlying29 rfl (by kernel_rfl) hx167_0 ⟨hx167_1, hx167_2, hx167_3, hx167_4, hx167_5, hx167_6, hx167_7, hx167_8, hx167_9, hx167_10, hx167_11, hx167_12, hx167_13, hx167_14, hx167_15, hx167_16, hx167_17, hx167_18, hx167_19, trivial⟩ ?_; (case hg => rfl); (case ho => refine ⟨_, rfl, ?_⟩; first | (with_reducible rfl) | (go_simp; done))) | ((with_reducible refine gate_load (t := 25) rfl ?_); refine load_row3 (t := 25) (g := gb166) ?hg BK166.out ?ho ?hb Try.underlying25 rfl ?hs ?_; (case hg => rfl); (case ho => refine ⟨_, rfl, ?_⟩; first | (with_reducible rfl) | (go_simp; done)); (case hb => (with_reducible repeat (first | refine blk_drewN ?_ _ | refine blk_drew ?_ | refine blk_alloc ?_ _)); with_reducible exact BK166.out); (case hs => kernel_rfl)) | ((with_reducible refine gate_load (t := 29) rfl ?_); refine load_row3 (t := 29) (g := gb168) ?hg BK168.out ?ho ?hb Try.underlying29 rfl ?hs ?_; (case hg => rfl); (case ho => refine ⟨_, rfl, ?_⟩; first | (with_reducible rfl) | (go_simp; done)); (case hb => (with_reducible repeat (first | refine blk_drewN ?_ _ | refine blk_drew ?_ | refine blk_alloc ?_ _)); with_reducible exact BK168.out); (case hs => kernel_rfl)) | ((with_reducible refine gate_callee (f := 20) rfl ?_); refine goesL_ (some 31) rfl rfl Try.func20 (by kernel_rfl) rfl #[.agg #[.int .i64 ((rd_T29 l0_5 x15_1).f0), .int .i64 ((rd_T29 l0_5 x15_1).f1), .string ((rd_T29 l0_5 x15_1).f2), .string ((rd_T29 l0_5 x15_1).f3), .string ((rd_T29 l0_5 x15_1).f4), .int .i64 ((rd_T29 l0_5 x15_1).f5), .int .i64 ((rd_T29 l0_5 x15_1).f6), .int .i64 ((rd_T29 l0_5 x15_1).f7), .int .i64 ((rd_T29 l0_5 x15_1).f8), .bool ((rd_T29 l0_5 x15_1).f9), .int .i64 ((rd_T29 l0_5 x15_1).f10), .int .i64 ((rd_T29 l0_5 x15_1).f11), .int .i64 ((rd_T29 l0_5 x15_1).f12), .string ((rd_T29 l0_5 x15_1).f13), .int .i64 ((rd_T29 l0_5 x15_1).f14), .int .i64 ((rd_T29 l0_5 x15_1).f15), .string ((rd_T29 l0_5 x15_1).f16), .int .i64 ((rd_T29 l0_5 x15_1).f17), .int .i64 ((rd_T29 l0_5 x15_1).f18), .string ((rd_T29 l0_5 x15_1).f19)]] rfl ca ?_; (with_reducible refine (retain_may.calls _ _ _ _ _ _ _ _ _ _ _ _ _ _ _ _ _ _ _ _ true _ A19.out).mono ?_); rintro e w24 ⟨rfl, hb⟩; refine ⟨_, rfl, ?_⟩; have n0_ := mkA (Kd.R_below (Kd.R_y HO_5.out) hb); have n1_ := mkA (blk_below (blk_y BK166.out) hb); have n2_ := mkA (blk_below (blk_y BK168.out) hb); have n3_ := mkA (below_step (below_y HB.out) hb); clear HO_5; clear BK166; clear BK168; clear HB; have HO_5 := n0_; have BK166 := n1_; have BK168 := n2_; have HB := n3_; clear n0_ n1_ n2_ n3_; (try clear hb); (try clear hb2); (try clear hk); (try clear hi); have hcz25_0 := bc BK168.out 0 _ rfl; have hcz25_1 := bc BK168.out 1 _ rfl; have hcz25_2 := bc BK168.out 2 _ rfl; have hcz25_3 := bc BK168.out 3 _ rfl; have hcz25_4 := bc BK168.out 4 _ rfl; have hcz25_5 := bc BK168.out 5 _ rfl; have hcz25_6 := bc BK168.out 6 _ rfl; have hcz25_7 := bc BK168.out 7 _ rfl; have hcz25_8 := bc BK168.out 8 _ rfl; have hcz25_9 := bc BK168.out 9 _ rfl; have hcz25_10 := bc BK168.out 10 _ rfl; have hcz25_11 := bc BK168.out 11 _ rfl; have hcz25_12 := bc BK168.out 12 _ rfl; have hcz25_13 := bc BK168.out 13 _ rfl; have hcz25_14 := bc BK168.out 14 _ rfl; have hcz25_15 := bc BK168.out 15 _ rfl; have hcz25_16 := bc BK168.out 16 _ rfl; have hcz25_17 := bc BK168.out 17 _ rfl; have hcz25_18 := bc BK168.out 18 _ rfl; have hcz25_19 := bc BK168.out 19 _ rfl; have hfz25_0 := blk_frozen BK168.out 0; have hfz25_1 := blk_frozen BK168.out 1; have hfz25_2 := blk_frozen BK168.out 2; have hfz25_3 := blk_frozen BK168.out 3; have hfz25_4 := blk_frozen BK168.out 4; have hfz25_5 := blk_frozen BK168.out 5; have hfz25_6 := blk_frozen BK168.out 6; have hfz25_7 := blk_frozen BK168.out 7; have hfz25_8 := blk_frozen BK168.out 8; have hfz25_9 := blk_frozen BK168.out 9; have hfz25_10 := blk_frozen BK168.out 10; have hfz25_11 := blk_frozen BK168.out 11; have hfz25_12 := blk_frozen BK168.out 12; have hfz25_13 := blk_frozen BK168.out 13; have hfz25_14 := blk_frozen BK168.out 14; have hfz25_15 := blk_frozen BK168.out 15; have hfz25_16 := blk_frozen BK168.out 16; have hfz25_17 := blk_frozen BK168.out 17; have hfz25_18 := blk_frozen BK168.out 18; have hfz25_19 := blk_frozen BK168.out 19) | ((with_reducible refine gate_builtin (b := .append) (xs := #[.tmp 32, .tmp 34]) rfl ?_); at_builtin; refine Kd.R_append k29 (w0 := w) w.heap.size rfl (.tmp 32) (.tmp 34) 23 29 (.agg #[(.int .i64 0), (.int .i64 0), (.string ⟨#[]⟩), (.string ⟨#[]⟩), (.string ⟨#[]⟩), (.int .i64 0), (.int .i64 0), (.int .i64 0), (.int .i64 0), (.bool false), (.int .i64 0), (.int .i64 0), (.int .i64 0), (.string ⟨#[]⟩), (.int .i64 0), (.int .i64 0), (.string ⟨#[]⟩), (.int .i64 0), (.int .i64 0), (.string ⟨#[]⟩)]) 208 rfl Try.underlying23 info29 rfl (by decide) (by omega) u5 x5_1 (⟨((rd_T29 l0_5 x15_1).f0), ((rd_T29 l0_5 x15_1).f1), ((rd_T29 l0_5 x15_1).f2), ((rd_T29 l0_5 x15_1).f3), ((rd_T29 l0_5 x15_1).f4), ((rd_T29 l0_5 x15_1).f5), ((rd_T29 l0_5 x15_1).f6), ((rd_T29 l0_5 x15_1).f7), ((rd_T29 l0_5 x15_1).f8), ((rd_T29 l0_5 x15_1).f9), ((rd_T29 l0_5 x15_1).f10), ((rd_T29 l0_5 x15_1).f11), ((rd_T29 l0_5 x15_1).f12), ((rd_T29 l0_5 x15_1).f13), ((rd_T29 l0_5 x15_1).f14), ((rd_T29 l0_5 x15_1).f15), ((rd_T29 l0_5 x15_1).f16), ((rd_T29 l0_5 x15_1).f17), ((rd_T29 l0_5 x15_1).f18), ((rd_T29 l0_5 x15_1).f19)⟩ : S29) [.int .i64 ((rd_T29 l0_5 x15_1).f0), .int .i64 ((rd_T29 l0_5 x15_1).f1), .string ((rd_T29 l0_5 x15_1).f2), .string ((rd_T29 l0_5 x15_1).f3), .string ((rd_T29 l0_5 x15_1).f4), .int .i64 ((rd_T29 l0_5 x15_1).f5), .int .i64 ((rd_T29 l0_5 x15_1).f6), .int .i64 ((rd_T29 l0_5 x15_1).f7), .int .i64 ((rd_T29 l0_5 x15_1).f8), .bool ((rd_T29 l0_5 x15_1).f9), .int .i64 ((rd_T29 l0_5 x15_1).f10), .int .i64 ((rd_T29 l0_5 x15_1).f11), .int .i64 ((rd_T29 l0_5 x15_1).f12), .string ((rd_T29 l0_5 x15_1).f13), .int .i64 ((rd_T29 l0_5 x15_1).f14), .int .i64 ((rd_T29 l0_5 x15_1).f15), .string ((rd_T29 l0_5 x15_1).f16), .int .i64 ((rd_T29 l0_5 x15_1).f17), .int .i64 ((rd_T29 l0_5 x15_1).f18), .string ((rd_T29 l0_5 x15_1).f19)] (fun k_ => k_ ≠ gb168) (fun _ => False) rfl rfl ?aP (fun _ hk => hk.elim) ?aF ?aO ?aB ?aS ?aL ?_; (case aP => exact k29_mkM _ _ _ (⟨((rd_T29 l0_5 x15_1).f0), ((rd_T29 l0_5 x15_1).f1), ((rd_T29 l0_5 x15_1).f2), ((rd_T29 l0_5 x15_1).f3), ((rd_T29 l0_5 x15_1).f4), ((rd_T29 l0_5 x15_1).f5), ((rd_T29 l0_5 x15_1).f6), ((rd_T29 l0_5 x15_1).f7), ((rd_T29 l0_5 x15_1).f8), ((rd_T29 l0_5 x15_1).f9), ((rd_T29 l0_5 x15_1).f10), ((rd_T29 l0_5 x15_1).f11), ((rd_T29 l0_5 x15_1).f12), ((rd_T29 l0_5 x15_1).f13), ((rd_T29 l0_5 x15_1).f14), ((rd_T29 l0_5 x15_1).f15), ((rd_T29 l0_5 x15_1).f16), ((rd_T29 l0_5 x15_1).f17), ((rd_T29 l0_5 x15_1).f18), ((rd_T29 l0_5 x15_1).f19)⟩ : S29)); (case aB => exact (below_y HB.out)); (case aF => exact (fun k_ hk => Kd.freshB (blk_y BK168.out) k_ hk)); (case aO => exact (Kd.R_y HO_5.out)); (case aS => exact (below_size (below_y HB.out))); (case aL => have := LMc21.out; omega); intro v171 w26 ho hb hg hat; rw [← Ny170.out] at ho; have n0_ := mkA (blk_grown (blk_y BK166.out) hg (Kd.R_ne HO_5.out BK166.out (by decide))); have n1_ := mkA (blk_grown (blk_y BK168.out) hg (Kd.R_away HO_5.out (fun _ hk => hk))); have n2_ := mkA (hb); have n3_ := mkA (ho); clear BK166; clear BK168; clear HB; clear HO_5; have BK166 := n0_; have BK168 := n1_; have HB := n2_; have HO172 := n3_; clear n0_ n1_ n2_ n3_; clear ho hb hg hat))
  go_roundg kj7
  case measure => have := HK1.out; have := HJ7.out; omega
  case rel => exact ⟨(y170), (wrap64 (x6_1 + 1)), (wrap64 (x15_1 + 1)), (by first | rfl | (simp; done) | (simp [*]; done)), (by first | rfl | (simp; done) | (simp [*]; done)), H', ⟨by have := HK1.out; have := HJ7.out; omega⟩, ⟨by (with_reducible repeat (first | apply Kd.R_alloc | apply Kd.R_drewN | apply Kd.R_drew)); exact Kd.R_mono HO172.out (fun _ hk => trivial)⟩, ⟨by (with_reducible repeat (first | refine blk_drewN ?_ _ | refine blk_drew ?_ | refine blk_alloc ?_ _)); exact BK166.out⟩, ⟨by repeat (first | (with_reducible first | exact HB.out | apply below_alloc | apply pw_below_drewN | apply below_drew1 | refine below_set ?_ GE166.out | refine below_set ?_ GE168.out) | exact HB.out)⟩⟩

end Go.Proofs.Ytcpojadlnpnbaaa.XRet
