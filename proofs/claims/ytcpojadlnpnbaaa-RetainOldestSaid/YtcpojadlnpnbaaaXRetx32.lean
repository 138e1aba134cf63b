-- By a program of this work (xprint.py) over the translation; Lean checks it.
import Derived.Test.YtcpojadlnpnbaaaXRetx0
namespace Go.Proofs.Ytcpojadlnpnbaaa.XRet
open Go.RowKit Go.Proofs.YtcpojadlnpnbaaaW.PrintWords Go.Proofs.YtcpojadlnpnbaaaW.PrintLast Go.Proofs.YtcpojadlnpnbaaaW.PrintMore
attribute [local go_sem] max2_int min2_int max_two min_two max_three min_three max_four min_four   -- for this text's walks alone
set_option linter.unusedVariables false
set_option linter.unusedSimpArgs false

/-! ### newsreelref15_Ep: function 17 -/
def newsreelref15_Ep.l0 : Nat → Int → Int → Int → Int → Int → Int → List (S43) → List (S29) → Option (Int × Int × ByteArray × ByteArray × ByteArray × Int × Int × Int × Int × Bool × Int × Int × Int × ByteArray × Int × Int × ByteArray × Int × Int × ByteArray × Bool)
 | 0, _, _, _, _, _, _, _, _ => none
 | k + 1, x1, x6, x285000, x285001, x285002, x285003, x285004, x285005 => if x6 < (x285005.length : Int) then (if 0 ≤ x6 then (if ((rd_T29 x285005 x6).f0) = x1 then (some ((rd_T29 x285005 x6).f0, (rd_T29 x285005 x6).f1, (rd_T29 x285005 x6).f2, (rd_T29 x285005 x6).f3, (rd_T29 x285005 x6).f4, (rd_T29 x285005 x6).f5, (rd_T29 x285005 x6).f6, (rd_T29 x285005 x6).f7, (rd_T29 x285005 x6).f8, (rd_T29 x285005 x6).f9, (rd_T29 x285005 x6).f10, (rd_T29 x285005 x6).f11, (rd_T29 x285005 x6).f12, (rd_T29 x285005 x6).f13, (rd_T29 x285005 x6).f14, (rd_T29 x285005 x6).f15, (rd_T29 x285005 x6).f16, (rd_T29 x285005 x6).f17, (rd_T29 x285005 x6).f18, (rd_T29 x285005 x6).f19, true)) else (newsreelref15_Ep.l0 k x1 (wrap64 (x6 + 1)) x285000 x285001 x285002 x285003 x285004 x285005)) else (none)) else (some (0, 0, (⟨#[]⟩ : ByteArray), (⟨#[]⟩ : ByteArray), (⟨#[]⟩ : ByteArray), 0, 0, 0, 0, false, 0, 0, 0, (⟨#[]⟩ : ByteArray), 0, 0, (⟨#[]⟩ : ByteArray), 0, 0, (⟨#[]⟩ : ByteArray), false))
def newsreelref15_Ep.f (k : Nat) (a0_0 : Int) (a0_1 : Int) (a0_2 : Int) (a0_3 : Int) (l0_4 : List (S43)) (l0_5 : List (S29)) (a1 : Int) : Option (Int × Int × ByteArray × ByteArray × ByteArray × Int × Int × Int × Int × Bool × Int × Int × Int × ByteArray × Int × Int × ByteArray × Int × Int × ByteArray × Bool) := newsreelref15_Ep.l0 k a1 0 a0_0 a0_1 a0_2 a0_3 l0_4 l0_5
theorem newsreelref15_Ep.mono_l : ∀ k, (∀ y0 y1 y2 y3 y4 y5 y6 y7, LeO (newsreelref15_Ep.l0 k y0 y1 y2 y3 y4 y5 y6 y7) (newsreelref15_Ep.l0 (k + 1) y0 y1 y2 y3 y4 y5 y6 y7))
 | 0 => fun _ _ _ _ _ _ _ _ r h => by simp [newsreelref15_Ep.l0] at h
 | k + 1 => by
  have ih0 := newsreelref15_Ep.mono_l k
  ·intro y0 y1 y2 y3 y4 y5 y6 y7
   unfold newsreelref15_Ep.l0
   repeat' first
   | (with_reducible exact ih0 _ _ _ _ _ _ _ _)
   | (with_reducible exact LeO.refl _)
   | (with_reducible exact LeO.none _)
   | (with_reducible refine LeO.ite ?_ ?_)
   | (with_reducible refine LeO.bind ?_ (fun _ => ?_))
   | exact ih0 _ _ _ _ _ _ _ _
   | exact LeO.none _
   | refine LeO.ite ?_ ?_
   | refine LeO.bind ?_ (fun _ => ?_)
theorem newsreelref15_Ep.mono : ∀ a0 a1 a2 a3 a4 a5 a6 k, LeO (newsreelref15_Ep.f k a0 a1 a2 a3 a4 a5 a6) (newsreelref15_Ep.f (k + 1) a0 a1 a2 a3 a4 a5 a6) := by
 intro a0 a1 a2 a3 a4 a5 a6 k
 have ih0 := newsreelref15_Ep.mono_l k
 unfold newsreelref15_Ep.f
 repeat' first
   | (with_reducible exact ih0 _ _ _ _ _ _ _ _)
   | (with_reducible exact LeO.refl _)
   | (with_reducible exact LeO.none _)
   | (with_reducible refine LeO.ite ?_ ?_)
   | (with_reducible refine LeO.bind ?_ (fun _ => ?_))
   | exact ih0 _ _ _ _ _ _ _ _
   | exact LeO.none _
   | refine LeO.ite ?_ ?_
   | refine LeO.bind ?_ (fun _ => ?_)
set_option maxHeartbeats 2000000 in
set_option maxRecDepth 100000 in
theorem newsreelref15_Ep.calls (k : Nat) (a0_0 : Int) (a0_1 : Int) (a0_2 : Int) (a0_3 : Int) (A0_4 : Option Addr) (c0_4 : Nat) (l0_4 : List (S43)) (A0_5 : Option Addr) (c0_5 : Nat) (l0_5 : List (S29)) (a1 : Int) (r1 : Int) (r2 : Int) (r3 : ByteArray) (r4 : ByteArray) (r5 : ByteArray) (r6 : Int) (r7 : Int) (r8 : Int) (r9 : Int) (r10 : Bool) (r11 : Int) (r12 : Int) (r13 : Int) (r14 : ByteArray) (r15 : Int) (r16 : Int) (r17 : ByteArray) (r18 : Int) (r19 : Int) (r20 : ByteArray) (r21 : Bool) (w : World) (hr0_4 : Kd.C k43 w A0_4 l0_4.length l0_4) (hc0_4 : l0_4.length ≤ c0_4) (hr0_5 : Kd.C k29 w A0_5 l0_5.length l0_5) (hc0_5 : l0_5.length ≤ c0_5) (h : newsreelref15_Ep.f k a0_0 a0_1 a0_2 a0_3 l0_4 l0_5 a1 = some (r1, r2, r3, r4, r5, r6, r7, r8, r9, r10, r11, r12, r13, r14, r15, r16, r17, r18, r19, r20, r21)) :
  Calls Try.prog 17 #[.agg #[.int .i64 a0_0, .int .i64 a0_1, .int .i64 a0_2, .int .i64 a0_3, .slice A0_4 l0_4.length c0_4, .slice A0_5 l0_5.length c0_5], .int .i64 a1] w fun e w' => e = .returned (.tuple #[.agg #[.int .i64 r1, .int .i64 r2, .string r3, .string r4, .string r5, .int .i64 r6, .int .i64 r7, .int .i64 r8, .int .i64 r9, .bool r10, .int .i64 r11, .int .i64 r12, .int .i64 r13, .string r14, .int .i64 r15, .int .i64 r16, .string r17, .int .i64 r18, .int .i64 r19, .string r20], .bool r21]) ∧ Below w.heap.size w w' := by
 have hu25 := Try.underlying25
 have hu29 := Try.underlying29
 have HR0_4 := mkA hr0_4
 have HC0_4 := mkA hc0_4
 clear hr0_4 hc0_4
 have HR0_5 := mkA hr0_5
 have HC0_5 := mkA hc0_5
 clear hr0_5 hc0_5
 have HB := mkA (Below.refl w.heap.size w)
 have H : (newsreelref15_Ep.l0 k a1 0 a0_0 a0_1 a0_2 a0_3 l0_4 l0_5) = some (r1, r2, r3, r4, r5, r6, r7, r8, r9, r10, r11, r12, r13, r14, r15, r16, r17, r18, r19, r20, r21) := h
 clear h
 have H' := mkA H
 clear H
 go_enter Try.func17, Try.ntmps17
 go_wp2_with (first | ((with_reducible refine gate_load (t := 25) rfl ?_); refine load_row3 (t := 25) (g := gb284) ?hg BK284.out ?ho ?hb Try.underlying25 rfl ?hs ?_; (case hg => rfl); (case ho => refine ⟨_, rfl, ?_⟩; first | (with_reducible rfl) | (go_simp; done)); (case hb => (with_reducible repeat (first | refine blk_drewN ?_ _ | refine blk_drew ?_ | refine blk_alloc ?_ _)); with_reducible exact BK284.out); (case hs => kernel_rfl)) | ((with_reducible refine gate_load (t := 29) rfl ?_); refine load_row3 (t := 29) (g := gb285) ?hg BK285.out ?ho ?hb Try.underlying29 rfl ?hs ?_; (case hg => rfl); (case ho => refine ⟨_, rfl, ?_⟩; first | (with_reducible rfl) | (go_simp; done)); (case hb => (with_reducible repeat (first | refine blk_drewN ?_ _ | refine blk_drew ?_ | refine blk_alloc ?_ _)); with_reducible exact BK285.out); (case hs => kernel_rfl)) | ((with_reducible refine gate_dst (N := 2) rfl ?_); refine box_event ?hg (N := 2) ?hd (cs := #[.int .i64 a0_0, .int .i64 a0_1, .int .i64 a0_2, .int .i64 a0_3, .slice A0_4 l0_4.length c0_4, .slice A0_5 l0_5.length c0_5]) (t := 25) ?hr ?_; (case hd => rfl); (case hg => rfl); (case hr => first | (go_simp; done) | (go_simp; rfl)); intro gb284 hg w3 hbox hb; have n0_ := mkA (below_step (below_y HB.out) hb); have n1_ := mkA (hbox); have n2_ := mkA ((gz hg HB.out : w.heap.size ≤ gb284)); have n3_ := mkA ((gz hg HB.out : w.heap.size ≤ gb284)); clear HB; have HB := n0_; have BK284 := n1_; have GW284 := n2_; have GE284 := n3_; clear n0_ n1_ n2_ n3_; clear hb hbox hg) | ((with_reducible refine gate_dst (N := 4) rfl ?_); refine box_event ?hg (N := 4) ?hd (cs := #[.int .i64 0, .int .i64 0, .string (⟨#[]⟩ : ByteArray), .string (⟨#[]⟩ : ByteArray), .string (⟨#[]⟩ : ByteArray), .int .i64 0, .int .i64 0, .int .i64 0, .int .i64 0, .bool false, .int .i64 0, .int .i64 0, .int .i64 0, .string (⟨#[]⟩ : ByteArray), .int .i64 0, .int .i64 0, .string (⟨#[]⟩ : ByteArray), .int .i64 0, .int .i64 0, .string (⟨#[]⟩ : ByteArray)]) (t := 29) ?hr ?_; (case hd => rfl); (case hg => rfl); (case hr => first | (go_simp; done) | (go_simp; rfl)); intro gb285 hg w4 hbox hb; have n0_ := mkA (blk_below (blk_y BK284.out) hb); have n1_ := mkA (below_step (below_y HB.out) hb); have n2_ := mkA (hbox); have n3_ := mkA ((gz hg HB.out : w.heap.size ≤ gb285)); have n4_ := mkA ((gz hg HB.out : w.heap.size ≤ gb285)); have n5_ := mkA ((gn hg BK284.out : gb284 ≠ gb285)); have n6_ := mkA ((gm hg BK284.out : gb285 ≠ gb284)); clear BK284; clear HB; have BK284 := n0_; have HB := n1_; have BK285 := n2_; have GW285 := n3_; have GE285 := n4_; have NB284_285 := n5_; have NB285_284 := n6_; clear n0_ n1_ n2_ n3_ n4_ n5_ n6_; clear hb hbox hg))
 go_loopg [6] k (fun kq v6 w' => ∃ (x6_1 : Int) (x286000_1 : Int) (x286001_1 : Int) (x286002_1 : ByteArray) (x286003_1 : ByteArray) (x286004_1 : ByteArray) (x286005_1 : Int) (x286006_1 : Int) (x286007_1 : Int) (x286008_1 : Int) (x286009_1 : Bool) (x286010_1 : Int) (x286011_1 : Int) (x286012_1 : Int) (x286013_1 : ByteArray) (x286014_1 : Int) (x286015_1 : Int) (x286016_1 : ByteArray) (x286017_1 : Int) (x286018_1 : Int) (x286019_1 : ByteArray), v6 = .int .i64 x6_1 ∧ Aside0 (newsreelref15_Ep.l0 kq a1 x6_1 a0_0 a0_1 a0_2 a0_3 l0_4 l0_5 = some (r1, r2, r3, r4, r5, r6, r7, r8, r9, r10, r11, r12, r13, r14, r15, r16, r17, r18, r19, r20, r21)) ∧ Aside0 (kq ≤ k) ∧ Aside0 (w'.heap[gb284]? = some (.cells #[.int .i64 a0_0, .int .i64 a0_1, .int .i64 a0_2, .int .i64 a0_3, (.slice A0_4 l0_4.length c0_4), (.slice A0_5 l0_5.length c0_5)] 25 (0, 0))) ∧ Aside0 (w'.heap[gb285]? = some (.cells #[.int .i64 x286000_1, .int .i64 x286001_1, .string x286002_1, .string x286003_1, .string x286004_1, .int .i64 x286005_1, .int .i64 x286006_1, .int .i64 x286007_1, .int .i64 x286008_1, .bool x286009_1, .int .i64 x286010_1, .int .i64 x286011_1, .int .i64 x286012_1, .string x286013_1, .int .i64 x286014_1, .int .i64 x286015_1, .string x286016_1, .int .i64 x286017_1, .int .i64 x286018_1, .string x286019_1] 29 (0, 0))) ∧ Aside0 (Below w.heap.size w w'))
 case atStart => exact ⟨(0), (0), (0), ((⟨#[]⟩ : ByteArray)), ((⟨#[]⟩ : ByteArray)), ((⟨#[]⟩ : ByteArray)), (0), (0), (0), (0), (false), (0), (0), (0), ((⟨#[]⟩ : ByteArray)), (0), (0), ((⟨#[]⟩ : ByteArray)), (0), (0), ((⟨#[]⟩ : ByteArray)), (by first | rfl | (simp; done) | (simp [*]; done)), H', ⟨Nat.le_refl _⟩, ⟨by (with_reducible repeat (first | refine blk_drewN ?_ _ | refine blk_drew ?_ | refine blk_alloc ?_ _)); exact BK284.out⟩, ⟨by (with_reducible repeat (first | refine blk_drewN ?_ _ | refine blk_drew ?_ | refine blk_alloc ?_ _)); exact BK285.out⟩, ⟨by repeat (first | (with_reducible first | exact HB.out | apply below_alloc | apply pw_below_drewN | apply below_drew1 | refine below_set ?_ GE284.out | refine below_set ?_ GE285.out) | exact HB.out)⟩⟩
 case round =>
  clear H'
  try clear c1
  try clear p2
  obtain ⟨x6_1, x286000_1, x286001_1, x286002_1, x286003_1, x286004_1, x286005_1, x286006_1, x286007_1, x286008_1, x286009_1, x286010_1, x286011_1, x286012_1, x286013_1, x286014_1, x286015_1, x286016_1, x286017_1, x286018_1, x286019_1, rfl, HA, HK1, BK284, BK285, HB⟩ := hrel
  cases gk with
  | zero => exact absurd HA.out (by simp [newsreelref15_Ep.l0])
  | succ k1 =>
   have H := HA.out
   clear HA
   simp only [newsreelref15_Ep.l0] at H
   by_cases c5 : x6_1 < (l0_5.length : Int)
   ·rw [if_pos c5] at H
    have c5b0 : decide (x6_1 < (l0_5.length : Int)) = true := decide_eq_true c5
    clear c5
    by_cases c6 : 0 ≤ x6_1
    ·rw [if_pos c6] at H
     have c6b0 : decide (0 ≤ x6_1) = true := decide_eq_true c6
     clear c6
     by_cases c7 : ((rd_T29 l0_5 x6_1).f0) = a1
     ·rw [if_pos c7] at H
      have c7b0 : (((rd_T29 l0_5 x6_1).f0) == a1) = true := beq_iff_eq.mpr c7
      have c7b1 : (((rd_T29 l0_5 x6_1).f0) != a1) = false := bne_eq_false_iff_eq.mpr c7
      clear c7
      as_aux_lemma =>
       simp only [Option.some.injEq, Prod.mk.injEq] at H
       obtain ⟨rfl, rfl, rfl, rfl, rfl, rfl, rfl, rfl, rfl, rfl, rfl, rfl, rfl, rfl, rfl, rfl, rfl, rfl, rfl, rfl, rfl⟩ := H
       have hnb8 := NB284_285.out
       have hnc8 := NB285_284.out
       have hcz9_0 := bc BK284.out 0 _ rfl
       have hcz9_1 := bc BK284.out 1 _ rfl
       have hcz9_2 := bc BK284.out 2 _ rfl
       have hcz9_3 := bc BK284.out 3 _ rfl
       have hcz9_4 := bc BK284.out 4 _ rfl
       have hcz9_5 := bc BK284.out 5 _ rfl
       have hfz9_0 := blk_frozen BK284.out 0
       have hfz9_1 := blk_frozen BK284.out 1
       have hfz9_2 := blk_frozen BK284.out 2
       have hfz9_3 := blk_frozen BK284.out 3
       have hfz9_4 := blk_frozen BK284.out 4
       have hfz9_5 := blk_frozen BK284.out 5
       have p286 : 0 ≤ (x6_1 : Int) := odt
       have q286 : x6_1 < (l0_5.length : Int) := odt
       obtain ⟨ad286, e286, hx286_0, hx286_1, hx286_2, hx286_3, hx286_4, hx286_5, hx286_6, hx286_7, hx286_8, hx286_9, hx286_10, hx286_11, hx286_12, hx286_13, hx286_14, hx286_15, hx286_16, hx286_17, hx286_18, hx286_19⟩ := at_T29 HR0_5.out x6_1 p286 q286
       cases e286
       replace hx286_0 := hs_ HB.out hx286_0
       replace hx286_1 := hs_ HB.out hx286_1
       replace hx286_2 := hs_ HB.out hx286_2
       replace hx286_3 := hs_ HB.out hx286_3
       replace hx286_4 := hs_ HB.out hx286_4
       replace hx286_5 := hs_ HB.out hx286_5
       replace hx286_6 := hs_ HB.out hx286_6
       replace hx286_7 := hs_ HB.out hx286_7
       replace hx286_8 := hs_ HB.out hx286_8
       replace hx286_9 := hs_ HB.out hx286_9
       replace hx286_10 := hs_ HB.out hx286_10
       replace hx286_11 := hs_ HB.out hx286_11
       replace hx286_12 := hs_ HB.out hx286_12
       replace hx286_13 := hs_ HB.out hx286_13
       replace hx286_14 := hs_ HB.out hx286_14
       replace hx286_15 := hs_ HB.out hx286_15
       replace hx286_16 := hs_ HB.out hx286_16
       replace hx286_17 := hs_ HB.out hx286_17
       replace hx286_18 := hs_ HB.out hx286_18
       replace hx286_19 := hs_ HB.out hx286_19
       replace p286 := eq_true p286
       replace q286 := eq_true q286
       have p287 : 0 ≤ (x6_1 : Int) := odt
       have q287 : x6_1 < (l0_5.length : Int) := odt
       obtain ⟨ad287, e287, hx287_0, hx287_1, hx287_2, hx287_3, hx287_4, hx287_5, hx287_6, hx287_7, hx287_8, hx287_9, hx287_10, hx287_11, hx287_12, hx287_13, hx287_14, hx287_15, hx287_16, hx287_17, hx287_18, hx287_19⟩ := at_T29 HR0_5.out x6_1 p287 q287
       obtain rfl : ad286 = ad287 := (by injection e287)
       replace hx287_0 := hs_ HB.out hx287_0
       replace hx287_1 := hs_ HB.out hx287_1
       replace hx287_2 := hs_ HB.out hx287_2
       replace hx287_3 := hs_ HB.out hx287_3
       replace hx287_4 := hs_ HB.out hx287_4
       replace hx287_5 := hs_ HB.out hx287_5
       replace hx287_6 := hs_ HB.out hx287_6
       replace hx287_7 := hs_ HB.out hx287_7
       replace hx287_8 := hs_ HB.out hx287_8
       replace hx287_9 := hs_ HB.out hx287_9
       replace hx287_10 := hs_ HB.out hx287_10
       replace hx287_11 := hs_ HB.out hx287_11
       replace hx287_12 := hs_ HB.out hx287_12
       replace hx287_13 := hs_ HB.out hx287_13
       replace hx287_14 := hs_ HB.out hx287_14
       replace hx287_15 := hs_ HB.out hx287_15
       replace hx287_16 := hs_ HB.out hx287_16
       replace hx287_17 := hs_ HB.out hx287_17
       replace hx287_18 := hs_ HB.out hx287_18
       replace hx287_19 := hs_ HB.out hx287_19
       replace p287 := eq_true p287
       replace q287 := eq_true q287
       have hcz10_0 := bc BK285.out 0 _ rfl
       have hcz10_1 := bc BK285.out 1 _ rfl
       have hcz10_2 := bc BK285.out 2 _ rfl
       have hcz10_3 := bc BK285.out 3 _ rfl
       have hcz10_4 := bc BK285.out 4 _ rfl
       have hcz10_5 := bc BK285.out 5 _ rfl
       have hcz10_6 := bc BK285.out 6 _ rfl
       have hcz10_7 := bc BK285.out 7 _ rfl
       have hcz10_8 := bc BK285.out 8 _ rfl
       have hcz10_9 := bc BK285.out 9 _ rfl
       have hcz10_10 := bc BK285.out 10 _ rfl
       have hcz10_11 := bc BK285.out 11 _ rfl
       have hcz10_12 := bc BK285.out 12 _ rfl
       have hcz10_13 := bc BK285.out 13 _ rfl
       have hcz10_14 := bc BK285.out 14 _ rfl
       have hcz10_15 := bc BK285.out 15 _ rfl
       have hcz10_16 := bc BK285.out 16 _ rfl
       have hcz10_17 := bc BK285.out 17 _ rfl
       have hcz10_18 := bc BK285.out 18 _ rfl
       have hcz10_19 := bc BK285.out 19 _ rfl
       have hfz10_0 := blk_frozen BK285.out 0
       have hfz10_1 := blk_frozen BK285.out 1
       have hfz10_2 := blk_frozen BK285.out 2
       have hfz10_3 := blk_frozen BK285.out 3
       have hfz10_4 := blk_frozen BK285.out 4
       have hfz10_5 := blk_frozen BK285.out 5
       have hfz10_6 := blk_frozen BK285.out 6
       have hfz10_7 := blk_frozen BK285.out 7
       have hfz10_8 := blk_frozen BK285.out 8
       have hfz10_9 := blk_frozen BK285.out 9
       have hfz10_10 := blk_frozen BK285.out 10
       have hfz10_11 := blk_frozen BK285.out 11
       have hfz10_12 := blk_frozen BK285.out 12
       have hfz10_13 := blk_frozen BK285.out 13
       have hfz10_14 := blk_frozen BK285.out 14
       have hfz10_15 := blk_frozen BK285.out 15
       have hfz10_16 := blk_frozen BK285.out 16
       have hfz10_17 := blk_frozen BK285.out 17
       have hfz10_18 := blk_frozen BK285.out 18
       have hfz10_19 := blk_frozen BK285.out 19
       go_wp2_with (first | ((with_reducible refine gate_load (t := 29) rfl ?_); refine load_at2 (t := 29) ?hg ?ho (c0 := _) (cs := [_, _, _, _, _, _, _, _, _, _, _, _, _, _, _, _, _, _, _]) Try.underlying29 rfl (by kernel_rfl) hx286_0 ⟨hx286_1, hx286_2, hx286_3, hx286_4, hx286_5, hx286_6, hx286_7, hx286_8, hx286_9, hx286_10, hx286_11, hx286_12, hx286_13, hx286_14, hx286_15, hx286_16, hx286_17, hx286_18, hx286_19, trivial⟩ ?_; (case hg => rfl); (case ho => refine ⟨_, rfl, ?_⟩; first | (with_reducible rfl) | (go_simp; done))) | ((with_reducible refine gate_load (t := 29) rfl ?_); refine load_at2 (t := 29) ?hg ?ho (c0 := _) (cs := [_, _, _, _, _, _, _, _, _, _, _, _, _, _, _, _, _, _, _]) Try.underlying29 rfl (by kernel_rfl) hx287_0 ⟨hx287_1, hx287_2, hx287_3, hx287_4, hx287_5, hx287_6, hx287_7, hx287_8, hx287_9, hx287_10, hx287_11, hx287_12, hx287_13, hx287_14, hx287_15, hx287_16, hx287_17, hx287_18, hx287_19, trivial⟩ ?_; (case hg => rfl); (case ho => refine ⟨_, rfl, ?_⟩; first | (with_reducible rfl) | (go_simp; done))) | ((with_reducible refine gate_load (t := 25) rfl ?_); refine load_row3 (t := 25) (g := gb284) ?hg BK284.out ?ho ?hb Try.underlying25 rfl ?hs ?_; (case hg => rfl); (case ho => refine ⟨_, rfl, ?_⟩; first | (with_reducible rfl) | (go_simp; done)); (case hb => (with_reducible repeat (first | refine blk_drewN ?_ _ | refine blk_drew ?_ | refine blk_alloc ?_ _)); with_reducible exact BK284.out); (case hs => kernel_rfl)) | ((with_reducible refine gate_load (t := 29) rfl ?_); refine load_row3 (t := 29) (g := gb285) ?hg BK285.out ?ho ?hb Try.underlying29 rfl ?hs ?_; (case hg => rfl); (case ho => refine ⟨_, rfl, ?_⟩; first | (with_reducible rfl) | (go_simp; done)); (case hb => (with_reducible repeat (first | refine blk_drewN ?_ _ | refine blk_drew ?_ | refine blk_alloc ?_ _)); with_reducible exact BK285.out); (case hs => kernel_rfl)) | ((with_reducible refine gate_store (t := 29) (p := 4) rfl ?_); refine store_whole2 (t := 29) (g := gb285) ?hg ?hn (cells := #[.int .i64 ((rd_T29 l0_5 x6_1).f0), .int .i64 ((rd_T29 l0_5 x6_1).f1), .string ((rd_T29 l0_5 x6_1).f2), .string ((rd_T29 l0_5 x6_1).f3), .string ((rd_T29 l0_5 x6_1).f4), .int .i64 ((rd_T29 l0_5 x6_1).f5), .int .i64 ((rd_T29 l0_5 x6_1).f6), .int .i64 ((rd_T29 l0_5 x6_1).f7), .int .i64 ((rd_T29 l0_5 x6_1).f8), .bool ((rd_T29 l0_5 x6_1).f9), .int .i64 ((rd_T29 l0_5 x6_1).f10), .int .i64 ((rd_T29 l0_5 x6_1).f11), .int .i64 ((rd_T29 l0_5 x6_1).f12), .string ((rd_T29 l0_5 x6_1).f13), .int .i64 ((rd_T29 l0_5 x6_1).f14), .int .i64 ((rd_T29 l0_5 x6_1).f15), .string ((rd_T29 l0_5 x6_1).f16), .int .i64 ((rd_T29 l0_5 x6_1).f17), .int .i64 ((rd_T29 l0_5 x6_1).f18), .string ((rd_T29 l0_5 x6_1).f19)]) ?ho (blk_y BK285.out) (by kernel_rfl) rfl ?h1 ?_; (case hg => rfl); (case hn => rfl); (case ho => refine ⟨_, _, rfl, ?_, ?_⟩; all_goals (first | (with_reducible rfl) | (go_simp; done) | rfl | (go_simp; rfl))); (case h1 => first | rfl | simp [Value.oneCell']); intro w11 hw; have hg : wr.grownBy w11 (some gb285) := (by rw [hw]; exact grown_setRow _ _ _); have n0_ := mkA ((by rw [hw]; exact (setRow_other _ _ _ _ NB284_285.out).trans (blk_y BK284.out) : w11.heap[gb284]? = some (.cells #[.int .i64 a0_0, .int .i64 a0_1, .int .i64 a0_2, .int .i64 a0_3, .slice A0_4 l0_4.length c0_4, .slice (some ad286) l0_5.length c0_5] 25 (0, 0)))); have n1_ := mkA ((by rw [hw]; exact setRow_heap _ _ _ _ _ _ (blk_y BK285.out) : w11.heap[gb285]? = some (.cells #[.int .i64 ((rd_T29 l0_5 x6_1).f0), .int .i64 ((rd_T29 l0_5 x6_1).f1), .string ((rd_T29 l0_5 x6_1).f2), .string ((rd_T29 l0_5 x6_1).f3), .string ((rd_T29 l0_5 x6_1).f4), .int .i64 ((rd_T29 l0_5 x6_1).f5), .int .i64 ((rd_T29 l0_5 x6_1).f6), .int .i64 ((rd_T29 l0_5 x6_1).f7), .int .i64 ((rd_T29 l0_5 x6_1).f8), .bool ((rd_T29 l0_5 x6_1).f9), .int .i64 ((rd_T29 l0_5 x6_1).f10), .int .i64 ((rd_T29 l0_5 x6_1).f11), .int .i64 ((rd_T29 l0_5 x6_1).f12), .string ((rd_T29 l0_5 x6_1).f13), .int .i64 ((rd_T29 l0_5 x6_1).f14), .int .i64 ((rd_T29 l0_5 x6_1).f15), .string ((rd_T29 l0_5 x6_1).f16), .int .i64 ((rd_T29 l0_5 x6_1).f17), .int .i64 ((rd_T29 l0_5 x6_1).f18), .string ((rd_T29 l0_5 x6_1).f19)] 29 (0, 0)))); have n2_ := mkA ((by rw [hw]; exact below_setRow (below_y HB.out) GE285.out _ : Below w.heap.size w w11)); clear BK284; clear BK285; clear HB; have BK284 := n0_; have BK285 := n1_; have HB := n2_; clear n0_ n1_ n2_; clear hg hw))
       refine bodyPost_ret (results_ct rfl _ _ gb285 29 #[.int .i64 ((rd_T29 l0_5 x6_1).f0), .int .i64 ((rd_T29 l0_5 x6_1).f1), .string ((rd_T29 l0_5 x6_1).f2), .string ((rd_T29 l0_5 x6_1).f3), .string ((rd_T29 l0_5 x6_1).f4), .int .i64 ((rd_T29 l0_5 x6_1).f5), .int .i64 ((rd_T29 l0_5 x6_1).f6), .int .i64 ((rd_T29 l0_5 x6_1).f7), .int .i64 ((rd_T29 l0_5 x6_1).f8), .bool ((rd_T29 l0_5 x6_1).f9), .int .i64 ((rd_T29 l0_5 x6_1).f10), .int .i64 ((rd_T29 l0_5 x6_1).f11), .int .i64 ((rd_T29 l0_5 x6_1).f12), .string ((rd_T29 l0_5 x6_1).f13), .int .i64 ((rd_T29 l0_5 x6_1).f14), .int .i64 ((rd_T29 l0_5 x6_1).f15), .string ((rd_T29 l0_5 x6_1).f16), .int .i64 ((rd_T29 l0_5 x6_1).f17), .int .i64 ((rd_T29 l0_5 x6_1).f18), .string ((rd_T29 l0_5 x6_1).f19)] (0, 0) _ rfl (blk_y BK285.out) Try.underlying29 rfl (by kernel_rfl)) rfl ?_
       exact ⟨by first | rfl | (simp [errW_none, errW_some] <;> rfl) | (simp [*, errW_none, errW_some] <;> rfl), by repeat (first | (with_reducible first | exact HB.out | apply below_alloc | apply pw_below_drewN | apply below_drew1 | refine below_set ?_ GE284.out | refine below_set ?_ GE285.out) | exact HB.out)⟩
     ·rw [if_neg c7] at H
      have c7b0 : (((rd_T29 l0_5 x6_1).f0) == a1) = false := beq_eq_false_iff_ne.mpr c7
      have c7b1 : (((rd_T29 l0_5 x6_1).f0) != a1) = true := bne_iff_ne.mpr c7
      as_aux_lemma =>
       have H' := mkA H
       clear H
       have hnb12 := NB284_285.out
       have hnc12 := NB285_284.out
       have hcz13_0 := bc BK284.out 0 _ rfl
       have hcz13_1 := bc BK284.out 1 _ rfl
       have hcz13_2 := bc BK284.out 2 _ rfl
       have hcz13_3 := bc BK284.out 3 _ rfl
       have hcz13_4 := bc BK284.out 4 _ rfl
       have hcz13_5 := bc BK284.out 5 _ rfl
       have hfz13_0 := blk_frozen BK284.out 0
       have hfz13_1 := blk_frozen BK284.out 1
       have hfz13_2 := blk_frozen BK284.out 2
       have hfz13_3 := blk_frozen BK284.out 3
       have hfz13_4 := blk_frozen BK284.out 4
       have hfz13_5 := blk_frozen BK284.out 5
       have p286 : 0 ≤ (x6_1 : Int) := odt
       have q286 : x6_1 < (l0_5.length : Int) := odt
       obtain ⟨ad286, e286, hx286_0, hx286_1, hx286_2, hx286_3, hx286_4, hx286_5, hx286_6, hx286_7, hx286_8, hx286_9, hx286_10, hx286_11, hx286_12, hx286_13, hx286_14, hx286_15, hx286_16, hx286_17, hx286_18, hx286_19⟩ := at_T29 HR0_5.out x6_1 p286 q286
       cases e286
       replace hx286_0 := hs_ HB.out hx286_0
       replace hx286_1 := hs_ HB.out hx286_1
       replace hx286_2 := hs_ HB.out hx286_2
       replace hx286_3 := hs_ HB.out hx286_3
       replace hx286_4 := hs_ HB.out hx286_4
       replace hx286_5 := hs_ HB.out hx286_5
       replace hx286_6 := hs_ HB.out hx286_6
       replace hx286_7 := hs_ HB.out hx286_7
       replace hx286_8 := hs_ HB.out hx286_8
       replace hx286_9 := hs_ HB.out hx286_9
       replace hx286_10 := hs_ HB.out hx286_10
       replace hx286_11 := hs_ HB.out hx286_11
       replace hx286_12 := hs_ HB.out hx286_12
       replace hx286_13 := hs_ HB.out hx286_13
       replace hx286_14 := hs_ HB.out hx286_14
       replace hx286_15 := hs_ HB.out hx286_15
       replace hx286_16 := hs_ HB.out hx286_16
       replace hx286_17 := hs_ HB.out hx286_17
       replace hx286_18 := hs_ HB.out hx286_18
       replace hx286_19 := hs_ HB.out hx286_19
       replace p286 := eq_true p286
       replace q286 := eq_true q286
       go_wp2_with (first | ((with_reducible refine gate_load (t := 29) rfl ?_); refine load_at2 (t := 29) ?hg ?ho (c0 := _) (cs := [_, _, _, _, _, _, _, _, _, _, _, _, _, _, _, _, _, _, _]) Try.underlying29 rfl (by kernel_rfl) hx286_0 ⟨hx286_1, hx286_2, hx286_3, hx286_4, hx286_5, hx286_6, hx286_7, hx286_8, hx286_9, hx286_10, hx286_11, hx286_12, hx286_13, hx286_14, hx286_15, hx286_16, hx286_17, hx286_18, hx286_19, trivial⟩ ?_; (case hg => rfl); (case ho => refine ⟨_, rfl, ?_⟩; first | (with_reducible rfl) | (go_simp; done))) | ((with_reducible refine gate_load (t := 25) rfl ?_); refine load_row3 (t := 25) (g := gb284) ?hg BK284.out ?ho ?hb Try.underlying25 rfl ?hs ?_; (case hg => rfl); (case ho => refine ⟨_, rfl, ?_⟩; first | (with_reducible rfl) | (go_simp; done)); (case hb => (with_reducible repeat (first | refine blk_drewN ?_ _ | refine blk_drew ?_ | refine blk_alloc ?_ _)); with_reducible exact BK284.out); (case hs => kernel_rfl)) | ((with_reducible refine gate_load (t := 29) rfl ?_); refine load_row3 (t := 29) (g := gb285) ?hg BK285.out ?ho ?hb Try.underlying29 rfl ?hs ?_; (case hg => rfl); (case ho => refine ⟨_, rfl, ?_⟩; first | (with_reducible rfl) | (go_simp; done)); (case hb => (with_reducible repeat (first | refine blk_drewN ?_ _ | refine blk_drew ?_ | refine blk_alloc ?_ _)); with_reducible exact BK285.out); (case hs => kernel_rfl)))
       go_roundg k1
       case measure => have := HK1.out; omega
       case rel => exact ⟨(wrap64 (x6_1 + 1)), (x286000_1), (x286001_1), (x286002_1), (x286003_1), (x286004_1), (x286005_1), (x286006_1), (x286007_1), (x286008_1), (x286009_1), (x286010_1), (x286011_1), (x286012_1), (x286013_1), (x286014_1), (x286015_1), (x286016_1), (x286017_1), (x286018_1), (x286019_1), (by first | rfl | (simp; done) | (simp [*]; done)), H', ⟨by have := HK1.out; omega⟩, ⟨by (with_reducible repeat (first | refine blk_drewN ?_ _ | refine blk_drew ?_ | refine blk_alloc ?_ _)); exact BK284.out⟩, ⟨by (with_reducible repeat (first | refine blk_drewN ?_ _ | refine blk_drew ?_ | refine blk_alloc ?_ _)); exact BK285.out⟩, ⟨by repeat (first | (with_reducible first | exact HB.out | apply below_alloc | apply pw_below_drewN | apply below_drew1 | refine below_set ?_ GE284.out | refine below_set ?_ GE285.out) | exact HB.out)⟩⟩
    ·rw [if_neg c6] at H
     exact absurd H (by simp)
   ·rw [if_neg c5] at H
    have c5b0 : decide (x6_1 < (l0_5.length : Int)) = false := decide_eq_false c5
    clear c5
    as_aux_lemma =>
     simp only [Option.some.injEq, Prod.mk.injEq] at H
     obtain ⟨rfl, rfl, rfl, rfl, rfl, rfl, rfl, rfl, rfl, rfl, rfl, rfl, rfl, rfl, rfl, rfl, rfl, rfl, rfl, rfl, rfl⟩ := H
     have hnb14 := NB284_285.out
     have hnc14 := NB285_284.out
     have hcz15_0 := bc BK284.out 0 _ rfl
     have hcz15_1 := bc BK284.out 1 _ rfl
     have hcz15_2 := bc BK284.out 2 _ rfl
     have hcz15_3 := bc BK284.out 3 _ rfl
     have hcz15_4 := bc BK284.out 4 _ rfl
     have hcz15_5 := bc BK284.out 5 _ rfl
     have hfz15_0 := blk_frozen BK284.out 0
     have hfz15_1 := blk_frozen BK284.out 1
     have hfz15_2 := blk_frozen BK284.out 2
     have hfz15_3 := blk_frozen BK284.out 3
     have hfz15_4 := blk_frozen BK284.out 4
     have hfz15_5 := blk_frozen BK284.out 5
     have hcz16_0 := bc BK285.out 0 _ rfl
     have hcz16_1 := bc BK285.out 1 _ rfl
     have hcz16_2 := bc BK285.out 2 _ rfl
     have hcz16_3 := bc BK285.out 3 _ rfl
     have hcz16_4 := bc BK285.out 4 _ rfl
     have hcz16_5 := bc BK285.out 5 _ rfl
     have hcz16_6 := bc BK285.out 6 _ rfl
     have hcz16_7 := bc BK285.out 7 _ rfl
     have hcz16_8 := bc BK285.out 8 _ rfl
     have hcz16_9 := bc BK285.out 9 _ rfl
     have hcz16_10 := bc BK285.out 10 _ rfl
     have hcz16_11 := bc BK285.out 11 _ rfl
     have hcz16_12 := bc BK285.out 12 _ rfl
     have hcz16_13 := bc BK285.out 13 _ rfl
     have hcz16_14 := bc BK285.out 14 _ rfl
     have hcz16_15 := bc BK285.out 15 _ rfl
     have hcz16_16 := bc BK285.out 16 _ rfl
     have hcz16_17 := bc BK285.out 17 _ rfl
     have hcz16_18 := bc BK285.out 18 _ rfl
     have hcz16_19 := bc BK285.out 19 _ rfl
     have hfz16_0 := blk_frozen BK285.out 0
     have hfz16_1 := blk_frozen BK285.out 1
     have hfz16_2 := blk_frozen BK285.out 2
     have hfz16_3 := blk_frozen BK285.out 3
     have hfz16_4 := blk_frozen BK285.out 4
     have hfz16_5 := blk_frozen BK285.out 5
     have hfz16_6 := blk_frozen BK285.out 6
     have hfz16_7 := blk_frozen BK285.out 7
     have hfz16_8 := blk_frozen BK285.out 8
     have hfz16_9 := blk_frozen BK285.out 9
     have hfz16_10 := blk_frozen BK285.out 10
     have hfz16_11 := blk_frozen BK285.out 11
     have hfz16_12 := blk_frozen BK285.out 12
     have hfz16_13 := blk_frozen BK285.out 13
     have hfz16_14 := blk_frozen BK285.out 14
     have hfz16_15 := blk_frozen BK285.out 15
     have hfz16_16 := blk_frozen BK285.out 16
     have hfz16_17 := blk_frozen BK285.out 17
     have hfz16_18 := blk_frozen BK285.out 18
     have hfz16_19 := blk_frozen BK285.out 19
     go_wp2_with (first | ((with_reducible refine gate_load (t := 25) rfl ?_); refine load_row3 (t := 25) (g := gb284) ?hg BK284.out ?ho ?hb Try.underlying25 rfl ?hs ?_; (case hg => rfl); (case ho => refine ⟨_, rfl, ?_⟩; first | (with_reducible rfl) | (go_simp; done)); (case hb => (with_reducible repeat (first | refine blk_drewN ?_ _ | refine blk_drew ?_ | refine blk_alloc ?_ _)); with_reducible exact BK284.out); (case hs => kernel_rfl)) | ((with_reducible refine gate_load (t := 29) rfl ?_); refine load_row3 (t := 29) (g := gb285) ?hg BK285.out ?ho ?hb Try.underlying29 rfl ?hs ?_; (case hg => rfl); (case ho => refine ⟨_, rfl, ?_⟩; first | (with_reducible rfl) | (go_simp; done)); (case hb => (with_reducible repeat (first | refine blk_drewN ?_ _ | refine blk_drew ?_ | refine blk_alloc ?_ _)); with_reducible exact BK285.out); (case hs => kernel_rfl)) | ((with_reducible refine gate_store (t := 29) (p := 4) rfl ?_); refine store_whole2 (t := 29) (g := gb285) ?hg ?hn (cells := #[.int .i64 0, .int .i64 0, .string (⟨#[]⟩ : ByteArray), .string (⟨#[]⟩ : ByteArray), .string (⟨#[]⟩ : ByteArray), .int .i64 0, .int .i64 0, .int .i64 0, .int .i64 0, .bool false, .int .i64 0, .int .i64 0, .int .i64 0, .string (⟨#[]⟩ : ByteArray), .int .i64 0, .int .i64 0, .string (⟨#[]⟩ : ByteArray), .int .i64 0, .int .i64 0, .string (⟨#[]⟩ : ByteArray)]) ?ho (blk_y BK285.out) (by kernel_rfl) rfl ?h1 ?_; (case hg => rfl); (case hn => rfl); (case ho => refine ⟨_, _, rfl, ?_, ?_⟩; all_goals (first | (with_reducible rfl) | (go_simp; done) | rfl | (go_simp; rfl))); (case h1 => first | rfl | simp [Value.oneCell']); intro w17 hw; have hg : wr.grownBy w17 (some gb285) := (by rw [hw]; exact grown_setRow _ _ _); have n0_ := mkA ((by rw [hw]; exact (setRow_other _ _ _ _ NB284_285.out).trans (blk_y BK284.out) : w17.heap[gb284]? = some (.cells #[.int .i64 a0_0, .int .i64 a0_1, .int .i64 a0_2, .int .i64 a0_3, .slice A0_4 l0_4.length c0_4, .slice A0_5 l0_5.length c0_5] 25 (0, 0)))); have n1_ := mkA ((by rw [hw]; exact setRow_heap _ _ _ _ _ _ (blk_y BK285.out) : w17.heap[gb285]? = some (.cells #[.int .i64 0, .int .i64 0, .string (⟨#[]⟩ : ByteArray), .string (⟨#[]⟩ : ByteArray), .string (⟨#[]⟩ : ByteArray), .int .i64 0, .int .i64 0, .int .i64 0, .int .i64 0, .bool false, .int .i64 0, .int .i64 0, .int .i64 0, .string (⟨#[]⟩ : ByteArray), .int .i64 0, .int .i64 0, .string (⟨#[]⟩ : ByteArray), .int .i64 0, .int .i64 0, .string (⟨#[]⟩ : ByteArray)] 29 (0, 0)))); have n2_ := mkA ((by rw [hw]; exact below_setRow (below_y HB.out) GE285.out _ : Below w.heap.size w w17)); clear BK284; clear BK285; clear HB; have BK284 := n0_; have BK285 := n1_; have HB := n2_; clear n0_ n1_ n2_; clear hg hw))
     refine bodyPost_ret (results_ct rfl _ _ gb285 29 #[.int .i64 0, .int .i64 0, .string (⟨#[]⟩ : ByteArray), .string (⟨#[]⟩ : ByteArray), .string (⟨#[]⟩ : ByteArray), .int .i64 0, .int .i64 0, .int .i64 0, .int .i64 0, .bool false, .int .i64 0, .int .i64 0, .int .i64 0, .string (⟨#[]⟩ : ByteArray), .int .i64 0, .int .i64 0, .string (⟨#[]⟩ : ByteArray), .int .i64 0, .int .i64 0, .string (⟨#[]⟩ : ByteArray)] (0, 0) _ rfl (blk_y BK285.out) Try.underlying29 rfl (by kernel_rfl)) rfl ?_
     exact ⟨by first | rfl | (simp [errW_none, errW_some] <;> rfl) | (simp [*, errW_none, errW_some] <;> rfl), by repeat (first | (with_reducible first | exact HB.out | apply below_alloc | apply pw_below_drewN | apply below_drew1 | refine below_set ?_ GE284.out | refine below_set ?_ GE285.out) | exact HB.out)⟩

end Go.Proofs.Ytcpojadlnpnbaaa.XRet
