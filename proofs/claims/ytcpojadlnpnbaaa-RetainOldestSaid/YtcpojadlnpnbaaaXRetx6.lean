-- By a program of this work (xprint.py) over the translation; Lean checks it.
import Derived.Test.YtcpojadlnpnbaaaXRetx0
namespace Go.Proofs.Ytcpojadlnpnbaaa.XRet
open Go.RowKit Go.Proofs.YtcpojadlnpnbaaaW.PrintWords Go.Proofs.YtcpojadlnpnbaaaW.PrintLast Go.Proofs.YtcpojadlnpnbaaaW.PrintMore
attribute [local go_sem] max2_int min2_int max_two min_two max_three min_three max_four min_four   -- for this text's walks alone
set_option linter.unusedVariables false
set_option linter.unusedSimpArgs false

/-! ### newsreelref41_Once: function 6 -/
mutual
def newsreelref41_Once.l0 : Nat → Int → Int → Int → Int → Int → List (S43) → List (S29) → Option (Bool)
 | 0, _, _, _, _, _, _, _ => none
 | k + 1, x3, x109000, x109001, x109002, x109003, x109004, x109005 => if x3 < (x109005.length : Int) then (newsreelref41_Once.l1 k x3 0 x109000 x109001 x109002 x109003 x109004 x109005) else (some true)
def newsreelref41_Once.l1 : Nat → Int → Int → Int → Int → Int → Int → List (S43) → List (S29) → Option (Bool)
 | 0, _, _, _, _, _, _, _, _ => none
 | k + 1, x3, x4, x109000, x109001, x109002, x109003, x109004, x109005 => if x4 < x3 then (if 0 ≤ x4 then (if x4 < (x109005.length : Int) then (if 0 ≤ x3 then (if x3 < (x109005.length : Int) then (if ((rd_T29 x109005 x4).f0) = ((rd_T29 x109005 x3).f0) then (some false) else (newsreelref41_Once.l1 k x3 (wrap64 (x4 + 1)) x109000 x109001 x109002 x109003 x109004 x109005)) else (none)) else (none)) else (none)) else (none)) else (newsreelref41_Once.l0 k (wrap64 (x3 + 1)) x109000 x109001 x109002 x109003 x109004 x109005)
end
def newsreelref41_Once.f (k : Nat) (a0_0 : Int) (a0_1 : Int) (a0_2 : Int) (a0_3 : Int) (l0_4 : List (S43)) (l0_5 : List (S29)) : Option (Bool) := newsreelref41_Once.l0 k 0 a0_0 a0_1 a0_2 a0_3 l0_4 l0_5
theorem newsreelref41_Once.mono_l : ∀ k, (∀ y0 y1 y2 y3 y4 y5 y6, LeO (newsreelref41_Once.l0 k y0 y1 y2 y3 y4 y5 y6) (newsreelref41_Once.l0 (k + 1) y0 y1 y2 y3 y4 y5 y6)) ∧ (∀ y0 y1 y2 y3 y4 y5 y6 y7, LeO (newsreelref41_Once.l1 k y0 y1 y2 y3 y4 y5 y6 y7) (newsreelref41_Once.l1 (k + 1) y0 y1 y2 y3 y4 y5 y6 y7))
 | 0 => ⟨fun _ _ _ _ _ _ _ r h => by simp [newsreelref41_Once.l0] at h, fun _ _ _ _ _ _ _ _ r h => by simp [newsreelref41_Once.l1] at h⟩
 | k + 1 => by
  obtain ⟨ih0, ih1⟩ := newsreelref41_Once.mono_l k
  refine ⟨?_, ?_⟩
  ·intro y0 y1 y2 y3 y4 y5 y6
   unfold newsreelref41_Once.l0
   repeat' first
   | (with_reducible exact ih0 _ _ _ _ _ _ _)
   | (with_reducible exact ih1 _ _ _ _ _ _ _ _)
   | (with_reducible exact LeO.refl _)
   | (with_reducible exact LeO.none _)
   | (with_reducible refine LeO.ite ?_ ?_)
   | (with_reducible refine LeO.bind ?_ (fun _ => ?_))
   | exact ih0 _ _ _ _ _ _ _
   | exact ih1 _ _ _ _ _ _ _ _
   | exact LeO.none _
   | refine LeO.ite ?_ ?_
   | refine LeO.bind ?_ (fun _ => ?_)
  ·intro y0 y1 y2 y3 y4 y5 y6 y7
   unfold newsreelref41_Once.l1
   repeat' first
   | (with_reducible exact ih0 _ _ _ _ _ _ _)
   | (with_reducible exact ih1 _ _ _ _ _ _ _ _)
   | (with_reducible exact LeO.refl _)
   | (with_reducible exact LeO.none _)
   | (with_reducible refine LeO.ite ?_ ?_)
   | (with_reducible refine LeO.bind ?_ (fun _ => ?_))
   | exact ih0 _ _ _ _ _ _ _
   | exact ih1 _ _ _ _ _ _ _ _
   | exact LeO.none _
   | refine LeO.ite ?_ ?_
   | refine LeO.bind ?_ (fun _ => ?_)
theorem newsreelref41_Once.mono : ∀ a0 a1 a2 a3 a4 a5 k, LeO (newsreelref41_Once.f k a0 a1 a2 a3 a4 a5) (newsreelref41_Once.f (k + 1) a0 a1 a2 a3 a4 a5) := by
 intro a0 a1 a2 a3 a4 a5 k
 obtain ⟨ih0, ih1⟩ := newsreelref41_Once.mono_l k
 unfold newsreelref41_Once.f
 repeat' first
   | (with_reducible exact ih0 _ _ _ _ _ _ _)
   | (with_reducible exact ih1 _ _ _ _ _ _ _ _)
   | (with_reducible exact LeO.refl _)
   | (with_reducible exact LeO.none _)
   | (with_reducible refine LeO.ite ?_ ?_)
   | (with_reducible refine LeO.bind ?_ (fun _ => ?_))
   | exact ih0 _ _ _ _ _ _ _
   | exact ih1 _ _ _ _ _ _ _ _
   | exact LeO.none _
   | refine LeO.ite ?_ ?_
   | refine LeO.bind ?_ (fun _ => ?_)
set_option maxHeartbeats 2000000 in
set_option maxRecDepth 100000 in
theorem newsreelref41_Once.calls (k : Nat) (a0_0 : Int) (a0_1 : Int) (a0_2 : Int) (a0_3 : Int) (A0_4 : Option Addr) (c0_4 : Nat) (l0_4 : List (S43)) (A0_5 : Option Addr) (c0_5 : Nat) (l0_5 : List (S29)) (r : Bool) (w : World) (hr0_4 : Kd.C k43 w A0_4 l0_4.length l0_4) (hc0_4 : l0_4.length ≤ c0_4) (hr0_5 : Kd.C k29 w A0_5 l0_5.length l0_5) (hc0_5 : l0_5.length ≤ c0_5) (h : newsreelref41_Once.f k a0_0 a0_1 a0_2 a0_3 l0_4 l0_5 = some r) :
  Calls Try.prog 6 #[.agg #[.int .i64 a0_0, .int .i64 a0_1, .int .i64 a0_2, .int .i64 a0_3, .slice A0_4 l0_4.length c0_4, .slice A0_5 l0_5.length c0_5]] w fun e w' => e = .returned (.bool r) ∧ Below w.heap.size w w' := by
 have hu25 := Try.underlying25
 have HR0_4 := mkA hr0_4
 have HC0_4 := mkA hc0_4
 clear hr0_4 hc0_4
 have HR0_5 := mkA hr0_5
 have HC0_5 := mkA hc0_5
 clear hr0_5 hc0_5
 have HB := mkA (Below.refl w.heap.size w)
 have H : (newsreelref41_Once.l0 k 0 a0_0 a0_1 a0_2 a0_3 l0_4 l0_5) = some r := h
 clear h
 have H' := mkA H
 clear H
 go_enter Try.func6, Try.ntmps6
 go_wp2_with (first | ((with_reducible refine gate_load (t := 25) rfl ?_); refine load_row3 (t := 25) (g := gb108) ?hg BK108.out ?ho ?hb Try.underlying25 rfl ?hs ?_; (case hg => rfl); (case ho => refine ⟨_, rfl, ?_⟩; first | (with_reducible rfl) | (go_simp; done)); (case hb => (with_reducible repeat (first | refine blk_drewN ?_ _ | refine blk_drew ?_ | refine blk_alloc ?_ _)); with_reducible exact BK108.out); (case hs => kernel_rfl)) | ((with_reducible refine gate_dst (N := 1) rfl ?_); refine box_event ?hg (N := 1) ?hd (cs := #[.int .i64 a0_0, .int .i64 a0_1, .int .i64 a0_2, .int .i64 a0_3, .slice A0_4 l0_4.length c0_4, .slice A0_5 l0_5.length c0_5]) (t := 25) ?hr ?_; (case hd => rfl); (case hg => rfl); (case hr => first | (go_simp; done) | (go_simp; rfl)); intro gb108 hg w2 hbox hb; have n0_ := mkA (below_step (below_y HB.out) hb); have n1_ := mkA (hbox); have n2_ := mkA ((gz hg HB.out : w.heap.size ≤ gb108)); have n3_ := mkA ((gz hg HB.out : w.heap.size ≤ gb108)); clear HB; have HB := n0_; have BK108 := n1_; have GW108 := n2_; have GE108 := n3_; clear n0_ n1_ n2_ n3_; clear hb hbox hg))
 repeat (go_quiet (first | ((with_reducible refine gate_load (t := 25) rfl ?_); refine load_row3 (t := 25) (g := gb108) ?hg BK108.out ?ho ?hb Try.underlying25 rfl ?hs ?_; (case hg => rfl); (case ho => refine ⟨_, rfl, ?_⟩; first | (with_reducible rfl) | (go_simp; done)); (case hb => (with_reducible repeat (first | refine blk_drewN ?_ _ | refine blk_drew ?_ | refine blk_alloc ?_ _)); with_reducible exact BK108.out); (case hs => kernel_rfl)) | ((with_reducible refine gate_dst (N := 1) rfl ?_); refine box_event ?hg (N := 1) ?hd (cs := #[.int .i64 a0_0, .int .i64 a0_1, .int .i64 a0_2, .int .i64 a0_3, .slice A0_4 l0_4.length c0_4, .slice A0_5 l0_5.length c0_5]) (t := 25) ?hr ?_; (case hd => rfl); (case hg => rfl); (case hr => first | (go_simp; done) | (go_simp; rfl)); intro gb108 hg w2 hbox hb; have n0_ := mkA (below_step (below_y HB.out) hb); have n1_ := mkA (hbox); have n2_ := mkA ((gz hg HB.out : w.heap.size ≤ gb108)); have n3_ := mkA ((gz hg HB.out : w.heap.size ≤ gb108)); clear HB; have HB := n0_; have BK108 := n1_; have GW108 := n2_; have GE108 := n3_; clear n0_ n1_ n2_ n3_; clear hb hbox hg)); try go_wp2_with (first | ((with_reducible refine gate_load (t := 25) rfl ?_); refine load_row3 (t := 25) (g := gb108) ?hg BK108.out ?ho ?hb Try.underlying25 rfl ?hs ?_; (case hg => rfl); (case ho => refine ⟨_, rfl, ?_⟩; first | (with_reducible rfl) | (go_simp; done)); (case hb => (with_reducible repeat (first | refine blk_drewN ?_ _ | refine blk_drew ?_ | refine blk_alloc ?_ _)); with_reducible exact BK108.out); (case hs => kernel_rfl)) | ((with_reducible refine gate_dst (N := 1) rfl ?_); refine box_event ?hg (N := 1) ?hd (cs := #[.int .i64 a0_0, .int .i64 a0_1, .int .i64 a0_2, .int .i64 a0_3, .slice A0_4 l0_4.length c0_4, .slice A0_5 l0_5.length c0_5]) (t := 25) ?hr ?_; (case hd => rfl); (case hg => rfl); (case hr => first | (go_simp; done) | (go_simp; rfl)); intro gb108 hg w2 hbox hb; have n0_ := mkA (below_step (below_y HB.out) hb); have n1_ := mkA (hbox); have n2_ := mkA ((gz hg HB.out : w.heap.size ≤ gb108)); have n3_ := mkA ((gz hg HB.out : w.heap.size ≤ gb108)); clear HB; have HB := n0_; have BK108 := n1_; have GW108 := n2_; have GE108 := n3_; clear n0_ n1_ n2_ n3_; clear hb hbox hg)))
 go_loopg [3] k (fun kq v3 w' => ∃ (x3_1 : Int), v3 = .int .i64 x3_1 ∧ Aside0 (newsreelref41_Once.l0 kq x3_1 a0_0 a0_1 a0_2 a0_3 l0_4 l0_5 = some r) ∧ Aside0 (kq ≤ k) ∧ Aside0 (w'.heap[gb108]? = some (.cells #[.int .i64 a0_0, .int .i64 a0_1, .int .i64 a0_2, .int .i64 a0_3, (.slice A0_4 l0_4.length c0_4), (.slice A0_5 l0_5.length c0_5)] 25 (0, 0))) ∧ Aside0 (Below w.heap.size w w'))
 case atStart => exact ⟨(0), (by first | rfl | (simp; done) | (simp [*]; done)), H', ⟨Nat.le_refl _⟩, ⟨by (with_reducible repeat (first | refine blk_drewN ?_ _ | refine blk_drew ?_ | refine blk_alloc ?_ _)); exact BK108.out⟩, ⟨by repeat (first | (with_reducible first | exact HB.out | apply below_alloc | apply pw_below_drewN | apply below_drew1 | refine below_set ?_ GE108.out) | exact HB.out)⟩⟩
 case round =>
  clear H'
  try clear p2
  obtain ⟨x3_1, rfl, HA, HK1, BK108, HB⟩ := hrel
  cases gk with
  | zero => exact absurd HA.out (by simp [newsreelref41_Once.l0])
  | succ k1 =>
   have H := HA.out
   clear HA
   simp only [newsreelref41_Once.l0] at H
   by_cases c3 : x3_1 < (l0_5.length : Int)
   ·rw [if_pos c3] at H
    have c3b0 : decide (x3_1 < (l0_5.length : Int)) = true := decide_eq_true c3
    clear c3
    have H' := mkA H
    clear H
    have hcz4_0 := bc BK108.out 0 _ rfl
    have hcz4_1 := bc BK108.out 1 _ rfl
    have hcz4_2 := bc BK108.out 2 _ rfl
    have hcz4_3 := bc BK108.out 3 _ rfl
    have hcz4_4 := bc BK108.out 4 _ rfl
    have hcz4_5 := bc BK108.out 5 _ rfl
    have hfz4_0 := blk_frozen BK108.out 0
    have hfz4_1 := blk_frozen BK108.out 1
    have hfz4_2 := blk_frozen BK108.out 2
    have hfz4_3 := blk_frozen BK108.out 3
    have hfz4_4 := blk_frozen BK108.out 4
    have hfz4_5 := blk_frozen BK108.out 5
    go_wp2_with (first | ((with_reducible refine gate_load (t := 25) rfl ?_); refine load_row3 (t := 25) (g := gb108) ?hg BK108.out ?ho ?hb Try.underlying25 rfl ?hs ?_; (case hg => rfl); (case ho => refine ⟨_, rfl, ?_⟩; first | (with_reducible rfl) | (go_simp; done)); (case hb => (with_reducible repeat (first | refine blk_drewN ?_ _ | refine blk_drew ?_ | refine blk_alloc ?_ _)); with_reducible exact BK108.out); (case hs => kernel_rfl)))
    repeat (go_quiet (first | ((with_reducible refine gate_load (t := 25) rfl ?_); refine load_row3 (t := 25) (g := gb108) ?hg BK108.out ?ho ?hb Try.underlying25 rfl ?hs ?_; (case hg => rfl); (case ho => refine ⟨_, rfl, ?_⟩; first | (with_reducible rfl) | (go_simp; done)); (case hb => (with_reducible repeat (first | refine blk_drewN ?_ _ | refine blk_drew ?_ | refine blk_alloc ?_ _)); with_reducible exact BK108.out); (case hs => kernel_rfl))); try go_wp2_with (first | ((with_reducible refine gate_load (t := 25) rfl ?_); refine load_row3 (t := 25) (g := gb108) ?hg BK108.out ?ho ?hb Try.underlying25 rfl ?hs ?_; (case hg => rfl); (case ho => refine ⟨_, rfl, ?_⟩; first | (with_reducible rfl) | (go_simp; done)); (case hb => (with_reducible repeat (first | refine blk_drewN ?_ _ | refine blk_drew ?_ | refine blk_alloc ?_ _)); with_reducible exact BK108.out); (case hs => kernel_rfl))))
    go_loopg [4] k1 (fun kq v4 w' => ∃ (x4_2 : Int), v4 = .int .i64 x4_2 ∧ Aside0 (newsreelref41_Once.l1 kq x3_1 x4_2 a0_0 a0_1 a0_2 a0_3 l0_4 l0_5 = some r) ∧ Aside0 (kq ≤ k1) ∧ Aside0 (w'.heap[gb108]? = some (.cells #[.int .i64 a0_0, .int .i64 a0_1, .int .i64 a0_2, .int .i64 a0_3, (.slice A0_4 l0_4.length c0_4), (.slice A0_5 l0_5.length c0_5)] 25 (0, 0))) ∧ Aside0 (Below w.heap.size w w'))
    case atStart => exact ⟨(0), (by first | rfl | (simp; done) | (simp [*]; done)), H', ⟨Nat.le_refl _⟩, ⟨by (with_reducible repeat (first | refine blk_drewN ?_ _ | refine blk_drew ?_ | refine blk_alloc ?_ _)); exact BK108.out⟩, ⟨by repeat (first | (with_reducible first | exact HB.out | apply below_alloc | apply pw_below_drewN | apply below_drew1 | refine below_set ?_ GE108.out) | exact HB.out)⟩⟩
    case round =>
     clear H'
     try clear p2
     try clear c3
     try clear c3b0
     try clear hcz4_0
     try clear hcz4_1
     try clear hcz4_2
     try clear hcz4_3
     try clear hcz4_4
     try clear hcz4_5
     try clear hfz4_0
     try clear hfz4_1
     try clear hfz4_2
     try clear hfz4_3
     try clear hfz4_4
     try clear hfz4_5
     try clear p2
     obtain ⟨x4_2, rfl, HA, HK2, BK108, HB⟩ := hrel
     cases gk with
     | zero => exact absurd HA.out (by simp [newsreelref41_Once.l1])
     | succ k2 =>
      have H := HA.out
      clear HA
      simp only [newsreelref41_Once.l1] at H
      by_cases c5 : x4_2 < x3_1
      ·rw [if_pos c5] at H
       have c5b0 : decide (x4_2 < x3_1) = true := decide_eq_true c5
       clear c5
       by_cases c6 : 0 ≤ x4_2
       ·rw [if_pos c6] at H
        have c6b0 : decide (0 ≤ x4_2) = true := decide_eq_true c6
        clear c6
        by_cases c7 : x4_2 < (l0_5.length : Int)
        ·rw [if_pos c7] at H
         have c7b0 : decide (x4_2 < (l0_5.length : Int)) = true := decide_eq_true c7
         clear c7
         by_cases c8 : 0 ≤ x3_1
         ·rw [if_pos c8] at H
          have c8b0 : decide (0 ≤ x3_1) = true := decide_eq_true c8
          clear c8
          by_cases c9 : x3_1 < (l0_5.length : Int)
          ·rw [if_pos c9] at H
           have c9b0 : decide (x3_1 < (l0_5.length : Int)) = true := decide_eq_true c9
           clear c9
           by_cases c10 : ((rd_T29 l0_5 x4_2).f0) = ((rd_T29 l0_5 x3_1).f0)
           ·rw [if_pos c10] at H
            have c10b0 : (((rd_T29 l0_5 x4_2).f0) == ((rd_T29 l0_5 x3_1).f0)) = true := beq_iff_eq.mpr c10
            have c10b1 : (((rd_T29 l0_5 x4_2).f0) != ((rd_T29 l0_5 x3_1).f0)) = false := bne_eq_false_iff_eq.mpr c10
            clear c10
            as_aux_lemma =>
             obtain rfl := Option.some.inj H
             have hcz11_0 := bc BK108.out 0 _ rfl
             have hcz11_1 := bc BK108.out 1 _ rfl
             have hcz11_2 := bc BK108.out 2 _ rfl
             have hcz11_3 := bc BK108.out 3 _ rfl
             have hcz11_4 := bc BK108.out 4 _ rfl
             have hcz11_5 := bc BK108.out 5 _ rfl
             have hfz11_0 := blk_frozen BK108.out 0
             have hfz11_1 := blk_frozen BK108.out 1
             have hfz11_2 := blk_frozen BK108.out 2
             have hfz11_3 := blk_frozen BK108.out 3
             have hfz11_4 := blk_frozen BK108.out 4
             have hfz11_5 := blk_frozen BK108.out 5
             have p109 : 0 ≤ (x4_2 : Int) := odt
             have q109 : x4_2 < (l0_5.length : Int) := odt
             obtain ⟨ad109, e109, hx109_0, hx109_1, hx109_2, hx109_3, hx109_4, hx109_5, hx109_6, hx109_7, hx109_8, hx109_9, hx109_10, hx109_11, hx109_12, hx109_13, hx109_14, hx109_15, hx109_16, hx109_17, hx109_18, hx109_19⟩ := at_T29 HR0_5.out x4_2 p109 q109
             cases e109
             replace hx109_0 := hs_ HB.out hx109_0
             replace hx109_1 := hs_ HB.out hx109_1
             replace hx109_2 := hs_ HB.out hx109_2
             replace hx109_3 := hs_ HB.out hx109_3
             replace hx109_4 := hs_ HB.out hx109_4
             replace hx109_5 := hs_ HB.out hx109_5
             replace hx109_6 := hs_ HB.out hx109_6
             replace hx109_7 := hs_ HB.out hx109_7
             replace hx109_8 := hs_ HB.out hx109_8
             replace hx109_9 := hs_ HB.out hx109_9
             replace hx109_10 := hs_ HB.out hx109_10
             replace hx109_11 := hs_ HB.out hx109_11
             replace hx109_12 := hs_ HB.out hx109_12
             replace hx109_13 := hs_ HB.out hx109_13
             replace hx109_14 := hs_ HB.out hx109_14
             replace hx109_15 := hs_ HB.out hx109_15
             replace hx109_16 := hs_ HB.out hx109_16
             replace hx109_17 := hs_ HB.out hx109_17
             replace hx109_18 := hs_ HB.out hx109_18
             replace hx109_19 := hs_ HB.out hx109_19
             replace p109 := eq_true p109
             replace q109 := eq_true q109
             have p110 : 0 ≤ (x3_1 : Int) := odt
             have q110 : x3_1 < (l0_5.length : Int) := odt
             obtain ⟨ad110, e110, hx110_0, hx110_1, hx110_2, hx110_3, hx110_4, hx110_5, hx110_6, hx110_7, hx110_8, hx110_9, hx110_10, hx110_11, hx110_12, hx110_13, hx110_14, hx110_15, hx110_16, hx110_17, hx110_18, hx110_19⟩ := at_T29 HR0_5.out x3_1 p110 q110
             obtain rfl : ad109 = ad110 := (by injection e110)
             replace hx110_0 := hs_ HB.out hx110_0
             replace hx110_1 := hs_ HB.out hx110_1
             replace hx110_2 := hs_ HB.out hx110_2
             replace hx110_3 := hs_ HB.out hx110_3
             replace hx110_4 := hs_ HB.out hx110_4
             replace hx110_5 := hs_ HB.out hx110_5
             replace hx110_6 := hs_ HB.out hx110_6
             replace hx110_7 := hs_ HB.out hx110_7
             replace hx110_8 := hs_ HB.out hx110_8
             replace hx110_9 := hs_ HB.out hx110_9
             replace hx110_10 := hs_ HB.out hx110_10
             replace hx110_11 := hs_ HB.out hx110_11
             replace hx110_12 := hs_ HB.out hx110_12
             replace hx110_13 := hs_ HB.out hx110_13
             replace hx110_14 := hs_ HB.out hx110_14
             replace hx110_15 := hs_ HB.out hx110_15
             replace hx110_16 := hs_ HB.out hx110_16
             replace hx110_17 := hs_ HB.out hx110_17
             replace hx110_18 := hs_ HB.out hx110_18
             replace hx110_19 := hs_ HB.out hx110_19
             replace p110 := eq_true p110
             replace q110 := eq_true q110
             go_wp2_with (first | ((with_reducible refine gate_load (t := 29) rfl ?_); refine load_at2 (t := 29) ?hg ?ho (c0 := _) (cs := [_, _, _, _, _, _, _, _, _, _, _, _, _, _, _, _, _, _, _]) Try.underlying29 rfl (by kernel_rfl) hx109_0 ⟨hx109_1, hx109_2, hx109_3, hx109_4, hx109_5, hx109_6, hx109_7, hx109_8, hx109_9, hx109_10, hx109_11, hx109_12, hx109_13, hx109_14, hx109_15, hx109_16, hx109_17, hx109_18, hx109_19, trivial⟩ ?_; (case hg => rfl); (case ho => refine ⟨_, rfl, ?_⟩; first | (with_reducible rfl) | (go_simp; done))) | ((with_reducible refine gate_load (t := 29) rfl ?_); refine load_at2 (t := 29) ?hg ?ho (c0 := _) (cs := [_, _, _, _, _, _, _, _, _, _, _, _, _, _, _, _, _, _, _]) Try.underlying29 rfl (by kernel_rfl) hx110_0 ⟨hx110_1, hx110_2, hx110_3, hx110_4, hx110_5, hx110_6, hx110_7, hx110_8, hx110_9, hx110_10, hx110_11, hx110_12, hx110_13, hx110_14, hx110_15, hx110_16, hx110_17, hx110_18, hx110_19, trivial⟩ ?_; (case hg => rfl); (case ho => refine ⟨_, rfl, ?_⟩; first | (with_reducible rfl) | (go_simp; done))) | ((with_reducible refine gate_load (t := 25) rfl ?_); refine load_row3 (t := 25) (g := gb108) ?hg BK108.out ?ho ?hb Try.underlying25 rfl ?hs ?_; (case hg => rfl); (case ho => refine ⟨_, rfl, ?_⟩; first | (with_reducible rfl) | (go_simp; done)); (case hb => (with_reducible repeat (first | refine blk_drewN ?_ _ | refine blk_drew ?_ | refine blk_alloc ?_ _)); with_reducible exact BK108.out); (case hs => kernel_rfl)))
             repeat (go_quiet (first | ((with_reducible refine gate_load (t := 29) rfl ?_); refine load_at2 (t := 29) ?hg ?ho (c0 := _) (cs := [_, _, _, _, _, _, _, _, _, _, _, _, _, _, _, _, _, _, _]) Try.underlying29 rfl (by kernel_rfl) hx109_0 ⟨hx109_1, hx109_2, hx109_3, hx109_4, hx109_5, hx109_6, hx109_7, hx109_8, hx109_9, hx109_10, hx109_11, hx109_12, hx109_13, hx109_14, hx109_15, hx109_16, hx109_17, hx109_18, hx109_19, trivial⟩ ?_; (case hg => rfl); (case ho => refine ⟨_, rfl, ?_⟩; first | (with_reducible rfl) | (go_simp; done))) | ((with_reducible refine gate_load (t := 29) rfl ?_); refine load_at2 (t := 29) ?hg ?ho (c0 := _) (cs := [_, _, _, _, _, _, _, _, _, _, _, _, _, _, _, _, _, _, _]) Try.underlying29 rfl (by kernel_rfl) hx110_0 ⟨hx110_1, hx110_2, hx110_3, hx110_4, hx110_5, hx110_6, hx110_7, hx110_8, hx110_9, hx110_10, hx110_11, hx110_12, hx110_13, hx110_14, hx110_15, hx110_16, hx110_17, hx110_18, hx110_19, trivial⟩ ?_; (case hg => rfl); (case ho => refine ⟨_, rfl, ?_⟩; first | (with_reducible rfl) | (go_simp; done))) | ((with_reducible refine gate_load (t := 25) rfl ?_); refine load_row3 (t := 25) (g := gb108) ?hg BK108.out ?ho ?hb Try.underlying25 rfl ?hs ?_; (case hg => rfl); (case ho => refine ⟨_, rfl, ?_⟩; first | (with_reducible rfl) | (go_simp; done)); (case hb => (with_reducible repeat (first | refine blk_drewN ?_ _ | refine blk_drew ?_ | refine blk_alloc ?_ _)); with_reducible exact BK108.out); (case hs => kernel_rfl))); try go_wp2_with (first | ((with_reducible refine gate_load (t := 29) rfl ?_); refine load_at2 (t := 29) ?hg ?ho (c0 := _) (cs := [_, _, _, _, _, _, _, _, _, _, _, _, _, _, _, _, _, _, _]) Try.underlying29 rfl (by kernel_rfl) hx109_0 ⟨hx109_1, hx109_2, hx109_3, hx109_4, hx109_5, hx109_6, hx109_7, hx109_8, hx109_9, hx109_10, hx109_11, hx109_12, hx109_13, hx109_14, hx109_15, hx109_16, hx109_17, hx109_18, hx109_19, trivial⟩ ?_; (case hg => rfl); (case ho => refine ⟨_, rfl, ?_⟩; first | (with_reducible rfl) | (go_simp; done))) | ((with_reducible refine gate_load (t := 29) rfl ?_); refine load_at2 (t := 29) ?hg ?ho (c0 := _) (cs := [_, _, _, _, _, _, _, _, _, _, _, _, _, _, _, _, _, _, _]) Try.underlying29 rfl (by kernel_rfl) hx110_0 ⟨hx110_1, hx110_2, hx110_3, hx110_4, hx110_5, hx110_6, hx110_7, hx110_8, hx110_9, hx110_10, hx110_11, hx110_12, hx110_13, hx110_14, hx110_15, hx110_16, hx110_17, hx110_18, hx110_19, trivial⟩ ?_; (case hg => rfl); (case ho => refine ⟨_, rfl, ?_⟩; first | (with_reducible rfl) | (go_simp; done))) | ((with_reducible refine gate_load (t := 25) rfl ?_); refine load_row3 (t := 25) (g := gb108) ?hg BK108.out ?ho ?hb Try.underlying25 rfl ?hs ?_; (case hg => rfl); (case ho => refine ⟨_, rfl, ?_⟩; first | (with_reducible rfl) | (go_simp; done)); (case hb => (with_reducible repeat (first | refine blk_drewN ?_ _ | refine blk_drew ?_ | refine blk_alloc ?_ _)); with_reducible exact BK108.out); (case hs => kernel_rfl))))
             go_ret
             exact ⟨by first | rfl | (simp [errW_none, errW_some] <;> rfl) | (simp [*, errW_none, errW_some] <;> rfl), by repeat (first | (with_reducible first | exact HB.out | apply below_alloc | apply pw_below_drewN | apply below_drew1 | refine below_set ?_ GE108.out) | exact HB.out)⟩
           ·rw [if_neg c10] at H
            have c10b0 : (((rd_T29 l0_5 x4_2).f0) == ((rd_T29 l0_5 x3_1).f0)) = false := beq_eq_false_iff_ne.mpr c10
            have c10b1 : (((rd_T29 l0_5 x4_2).f0) != ((rd_T29 l0_5 x3_1).f0)) = true := bne_iff_ne.mpr c10
            as_aux_lemma =>
             have H' := mkA H
             clear H
             have hcz12_0 := bc BK108.out 0 _ rfl
             have hcz12_1 := bc BK108.out 1 _ rfl
             have hcz12_2 := bc BK108.out 2 _ rfl
             have hcz12_3 := bc BK108.out 3 _ rfl
             have hcz12_4 := bc BK108.out 4 _ rfl
             have hcz12_5 := bc BK108.out 5 _ rfl
             have hfz12_0 := blk_frozen BK108.out 0
             have hfz12_1 := blk_frozen BK108.out 1
             have hfz12_2 := blk_frozen BK108.out 2
             have hfz12_3 := blk_frozen BK108.out 3
             have hfz12_4 := blk_frozen BK108.out 4
             have hfz12_5 := blk_frozen BK108.out 5
             have p109 : 0 ≤ (x4_2 : Int) := odt
             have q109 : x4_2 < (l0_5.length : Int) := odt
             obtain ⟨ad109, e109, hx109_0, hx109_1, hx109_2, hx109_3, hx109_4, hx109_5, hx109_6, hx109_7, hx109_8, hx109_9, hx109_10, hx109_11, hx109_12, hx109_13, hx109_14, hx109_15, hx109_16, hx109_17, hx109_18, hx109_19⟩ := at_T29 HR0_5.out x4_2 p109 q109
             cases e109
             replace hx109_0 := hs_ HB.out hx109_0
             replace hx109_1 := hs_ HB.out hx109_1
             replace hx109_2 := hs_ HB.out hx109_2
             replace hx109_3 := hs_ HB.out hx109_3
             replace hx109_4 := hs_ HB.out hx109_4
             replace hx109_5 := hs_ HB.out hx109_5
             replace hx109_6 := hs_ HB.out hx109_6
             replace hx109_7 := hs_ HB.out hx109_7
             replace hx109_8 := hs_ HB.out hx109_8
             replace hx109_9 := hs_ HB.out hx109_9
             replace hx109_10 := hs_ HB.out hx109_10
             replace hx109_11 := hs_ HB.out hx109_11
             replace hx109_12 := hs_ HB.out hx109_12
             replace hx109_13 := hs_ HB.out hx109_13
             replace hx109_14 := hs_ HB.out hx109_14
             replace hx109_15 := hs_ HB.out hx109_15
             replace hx109_16 := hs_ HB.out hx109_16
             replace hx109_17 := hs_ HB.out hx109_17
             replace hx109_18 := hs_ HB.out hx109_18
             replace hx109_19 := hs_ HB.out hx109_19
             replace p109 := eq_true p109
             replace q109 := eq_true q109
             have p110 : 0 ≤ (x3_1 : Int) := odt
             have q110 : x3_1 < (l0_5.length : Int) := odt
             obtain ⟨ad110, e110, hx110_0, hx110_1, hx110_2, hx110_3, hx110_4, hx110_5, hx110_6, hx110_7, hx110_8, hx110_9, hx110_10, hx110_11, hx110_12, hx110_13, hx110_14, hx110_15, hx110_16, hx110_17, hx110_18, hx110_19⟩ := at_T29 HR0_5.out x3_1 p110 q110
             obtain rfl : ad109 = ad110 := (by injection e110)
             replace hx110_0 := hs_ HB.out hx110_0
             replace hx110_1 := hs_ HB.out hx110_1
             replace hx110_2 := hs_ HB.out hx110_2
             replace hx110_3 := hs_ HB.out hx110_3
             replace hx110_4 := hs_ HB.out hx110_4
             replace hx110_5 := hs_ HB.out hx110_5
             replace hx110_6 := hs_ HB.out hx110_6
             replace hx110_7 := hs_ HB.out hx110_7
             replace hx110_8 := hs_ HB.out hx110_8
             replace hx110_9 := hs_ HB.out hx110_9
             replace hx110_10 := hs_ HB.out hx110_10
             replace hx110_11 := hs_ HB.out hx110_11
             replace hx110_12 := hs_ HB.out hx110_12
             replace hx110_13 := hs_ HB.out hx110_13
             replace hx110_14 := hs_ HB.out hx110_14
             replace hx110_15 := hs_ HB.out hx110_15
             replace hx110_16 := hs_ HB.out hx110_16
             replace hx110_17 := hs_ HB.out hx110_17
             replace hx110_18 := hs_ HB.out hx110_18
             replace hx110_19 := hs_ HB.out hx110_19
             replace p110 := eq_true p110
             replace q110 := eq_true q110
             go_wp2_with (first | ((with_reducible refine gate_load (t := 29) rfl ?_); refine load_at2 (t := 29) ?hg ?ho (c0 := _) (cs := [_, _, _, _, _, _, _, _, _, _, _, _, _, _, _, _, _, _, _]) Try.underlying29 rfl (by kernel_rfl) hx109_0 ⟨hx109_1, hx109_2, hx109_3, hx109_4, hx109_5, hx109_6, hx109_7, hx109_8, hx109_9, hx109_10, hx109_11, hx109_12, hx109_13, hx109_14, hx109_15, hx109_16, hx109_17, hx109_18, hx109_19, trivial⟩ ?_; (case hg => rfl); (case ho => refine ⟨_, rfl, ?_⟩; first | (with_reducible rfl) | (go_simp; done))) | ((with_reducible refine gate_load (t := 29) rfl ?_); refine load_at2 (t := 29) ?hg ?ho (c0 := _) (cs := [_, _, _, _, _, _, _, _, _, _, _, _, _, _, _, _, _, _, _]) Try.underlying29 rfl (by kernel_rfl) hx110_0 ⟨hx110_1, hx110_2, hx110_3, hx110_4, hx110_5, hx110_6, hx110_7, hx110_8, hx110_9, hx110_10, hx110_11, hx110_12, hx110_13, hx110_14, hx110_15, hx110_16, hx110_17, hx110_18, hx110_19, trivial⟩ ?_; (case hg => rfl); (case ho => refine ⟨_, rfl, ?_⟩; first | (with_reducible rfl) | (go_simp; done))) | ((with_reducible refine gate_load (t := 25) rfl ?_); refine load_row3 (t := 25) (g := gb108) ?hg BK108.out ?ho ?hb Try.underlying25 rfl ?hs ?_; (case hg => rfl); (case ho => refine ⟨_, rfl, ?_⟩; first | (with_reducible rfl) | (go_simp; done)); (case hb => (with_reducible repeat (first | refine blk_drewN ?_ _ | refine blk_drew ?_ | refine blk_alloc ?_ _)); with_reducible exact BK108.out); (case hs => kernel_rfl)))
             repeat (go_quiet (first | ((with_reducible refine gate_load (t := 29) rfl ?_); refine load_at2 (t := 29) ?hg ?ho (c0 := _) (cs := [_, _, _, _, _, _, _, _, _, _, _, _, _, _, _, _, _, _, _]) Try.underlying29 rfl (by kernel_rfl) hx109_0 ⟨hx109_1, hx109_2, hx109_3, hx109_4, hx109_5, hx109_6, hx109_7, hx109_8, hx109_9, hx109_10, hx109_11, hx109_12, hx109_13, hx109_14, hx109_15, hx109_16, hx109_17, hx109_18, hx109_19, trivial⟩ ?_; (case hg => rfl); (case ho => refine ⟨_, rfl, ?_⟩; first | (with_reducible rfl) | (go_simp; done))) | ((with_reducible refine gate_load (t := 29) rfl ?_); refine load_at2 (t := 29) ?hg ?ho (c0 := _) (cs := [_, _, _, _, _, _, _, _, _, _, _, _, _, _, _, _, _, _, _]) Try.underlying29 rfl (by kernel_rfl) hx110_0 ⟨hx110_1, hx110_2, hx110_3, hx110_4, hx110_5, hx110_6, hx110_7, hx110_8, hx110_9, hx110_10, hx110_11, hx110_12, hx110_13, hx110_14, hx110_15, hx110_16, hx110_17, hx110_18, hx110_19, trivial⟩ ?_; (case hg => rfl); (case ho => refine ⟨_, rfl, ?_⟩; first | (with_reducible rfl) | (go_simp; done))) | ((with_reducible refine gate_load (t := 25) rfl ?_); refine load_row3 (t := 25) (g := gb108) ?hg BK108.out ?ho ?hb Try.underlying25 rfl ?hs ?_; (case hg => rfl); (case ho => refine ⟨_, rfl, ?_⟩; first | (with_reducible rfl) | (go_simp; done)); (case hb => (with_reducible repeat (first | refine blk_drewN ?_ _ | refine blk_drew ?_ | refine blk_alloc ?_ _)); with_reducible exact BK108.out); (case hs => kernel_rfl))); try go_wp2_with (first | ((with_reducible refine gate_load (t := 29) rfl ?_); refine load_at2 (t := 29) ?hg ?ho (c0 := _) (cs := [_, _, _, _, _, _, _, _, _, _, _, _, _, _, _, _, _, _, _]) Try.underlying29 rfl (by kernel_rfl) hx109_0 ⟨hx109_1, hx109_2, hx109_3, hx109_4, hx109_5, hx109_6, hx109_7, hx109_8, hx109_9, hx109_10, hx109_11, hx109_12, hx109_13, hx109_14, hx109_15, hx109_16, hx109_17, hx109_18, hx109_19, trivial⟩ ?_; (case hg => rfl); (case ho => refine ⟨_, rfl, ?_⟩; first | (with_reducible rfl) | (go_simp; done))) | ((with_reducible refine gate_load (t := 29) rfl ?_); refine load_at2 (t := 29) ?hg ?ho (c0 := _) (cs := [_, _, _, _, _, _, _, _, _, _, _, _, _, _, _, _, _, _, _]) Try.underlying29 rfl (by kernel_rfl) hx110_0 ⟨hx110_1, hx110_2, hx110_3, hx110_4, hx110_5, hx110_6, hx110_7, hx110_8, hx110_9, hx110_10, hx110_11, hx110_12, hx110_13, hx110_14, hx110_15, hx110_16, hx110_17, hx110_18, hx110_19, trivial⟩ ?_; (case hg => rfl); (case ho => refine ⟨_, rfl, ?_⟩; first | (with_reducible rfl) | (go_simp; done))) | ((with_reducible refine gate_load (t := 25) rfl ?_); refine load_row3 (t := 25) (g := gb108) ?hg BK108.out ?ho ?hb Try.underlying25 rfl ?hs ?_; (case hg => rfl); (case ho => refine ⟨_, rfl, ?_⟩; first | (with_reducible rfl) | (go_simp; done)); (case hb => (with_reducible repeat (first | refine blk_drewN ?_ _ | refine blk_drew ?_ | refine blk_alloc ?_ _)); with_reducible exact BK108.out); (case hs => kernel_rfl))))
             go_roundg k2
             case measure => have := HK1.out; have := HK2.out; omega
             case rel => exact ⟨(wrap64 (x4_2 + 1)), (by first | rfl | (simp; done) | (simp [*]; done)), H', ⟨by have := HK1.out; have := HK2.out; omega⟩, ⟨by (with_reducible repeat (first | refine blk_drewN ?_ _ | refine blk_drew ?_ | refine blk_alloc ?_ _)); exact BK108.out⟩, ⟨by repeat (first | (with_reducible first | exact HB.out | apply below_alloc | apply pw_below_drewN | apply below_drew1 | refine below_set ?_ GE108.out) | exact HB.out)⟩⟩
          ·rw [if_neg c9] at H
           exact absurd H (by simp)
         ·rw [if_neg c8] at H
          exact absurd H (by simp)
        ·rw [if_neg c7] at H
         exact absurd H (by simp)
       ·rw [if_neg c6] at H
        exact absurd H (by simp)
      ·rw [if_neg c5] at H
       have c5b0 : decide (x4_2 < x3_1) = false := decide_eq_false c5
       clear c5
       as_aux_lemma =>
        have H' := mkA H
        clear H
        go_wp2_with (first | ((with_reducible refine gate_load (t := 25) rfl ?_); refine load_row3 (t := 25) (g := gb108) ?hg BK108.out ?ho ?hb Try.underlying25 rfl ?hs ?_; (case hg => rfl); (case ho => refine ⟨_, rfl, ?_⟩; first | (with_reducible rfl) | (go_simp; done)); (case hb => (with_reducible repeat (first | refine blk_drewN ?_ _ | refine blk_drew ?_ | refine blk_alloc ?_ _)); with_reducible exact BK108.out); (case hs => kernel_rfl)))
        repeat (go_quiet (first | ((with_reducible refine gate_load (t := 25) rfl ?_); refine load_row3 (t := 25) (g := gb108) ?hg BK108.out ?ho ?hb Try.underlying25 rfl ?hs ?_; (case hg => rfl); (case ho => refine ⟨_, rfl, ?_⟩; first | (with_reducible rfl) | (go_simp; done)); (case hb => (with_reducible repeat (first | refine blk_drewN ?_ _ | refine blk_drew ?_ | refine blk_alloc ?_ _)); with_reducible exact BK108.out); (case hs => kernel_rfl))); try go_wp2_with (first | ((with_reducible refine gate_load (t := 25) rfl ?_); refine load_row3 (t := 25) (g := gb108) ?hg BK108.out ?ho ?hb Try.underlying25 rfl ?hs ?_; (case hg => rfl); (case ho => refine ⟨_, rfl, ?_⟩; first | (with_reducible rfl) | (go_simp; done)); (case hb => (with_reducible repeat (first | refine blk_drewN ?_ _ | refine blk_drew ?_ | refine blk_alloc ?_ _)); with_reducible exact BK108.out); (case hs => kernel_rfl))))
        go_roundg k2
        case measure => have := HK1.out; have := HK2.out; omega
        case rel => exact ⟨(wrap64 (x3_1 + 1)), (by first | rfl | (simp; done) | (simp [*]; done)), H', ⟨by have := HK1.out; have := HK2.out; omega⟩, ⟨by (with_reducible repeat (first | refine blk_drewN ?_ _ | refine blk_drew ?_ | refine blk_alloc ?_ _)); exact BK108.out⟩, ⟨by repeat (first | (with_reducible first | exact HB.out | apply below_alloc | apply pw_below_drewN | apply below_drew1 | refine below_set ?_ GE108.out) | exact HB.out)⟩⟩
   ·rw [if_neg c3] at H
    have c3b0 : decide (x3_1 < (l0_5.length : Int)) = false := decide_eq_false c3
    clear c3
    as_aux_lemma =>
     obtain rfl := Option.some.inj H
     have hcz13_0 := bc BK108.out 0 _ rfl
     have hcz13_1 := bc BK108.out 1 _ rfl
     have hcz13_2 := bc BK108.out 2 _ rfl
     have hcz13_3 := bc BK108.out 3 _ rfl
     have hcz13_4 := bc BK108.out 4 _ rfl
     have hcz13_5 := bc BK108.out 5 _ rfl
     have hfz13_0 := blk_frozen BK108.out 0
     have hfz13_1 := blk_frozen BK108.out 1
     have hfz13_2 := blk_frozen BK108.out 2
     have hfz13_3 := blk_frozen BK108.out 3
     have hfz13_4 := blk_frozen BK108.out 4
     have hfz13_5 := blk_frozen BK108.out 5
     go_wp2_with (first | ((with_reducible refine gate_load (t := 25) rfl ?_); refine load_row3 (t := 25) (g := gb108) ?hg BK108.out ?ho ?hb Try.underlying25 rfl ?hs ?_; (case hg => rfl); (case ho => refine ⟨_, rfl, ?_⟩; first | (with_reducible rfl) | (go_simp; done)); (case hb => (with_reducible repeat (first | refine blk_drewN ?_ _ | refine blk_drew ?_ | refine blk_alloc ?_ _)); with_reducible exact BK108.out); (case hs => kernel_rfl)))
     repeat (go_quiet (first | ((with_reducible refine gate_load (t := 25) rfl ?_); refine load_row3 (t := 25) (g := gb108) ?hg BK108.out ?ho ?hb Try.underlying25 rfl ?hs ?_; (case hg => rfl); (case ho => refine ⟨_, rfl, ?_⟩; first | (with_reducible rfl) | (go_simp; done)); (case hb => (with_reducible repeat (first | refine blk_drewN ?_ _ | refine blk_drew ?_ | refine blk_alloc ?_ _)); with_reducible exact BK108.out); (case hs => kernel_rfl))); try go_wp2_with (first | ((with_reducible refine gate_load (t := 25) rfl ?_); refine load_row3 (t := 25) (g := gb108) ?hg BK108.out ?ho ?hb Try.underlying25 rfl ?hs ?_; (case hg => rfl); (case ho => refine ⟨_, rfl, ?_⟩; first | (with_reducible rfl) | (go_simp; done)); (case hb => (with_reducible repeat (first | refine blk_drewN ?_ _ | refine blk_drew ?_ | refine blk_alloc ?_ _)); with_reducible exact BK108.out); (case hs => kernel_rfl))))
     go_ret
     exact ⟨by first | rfl | (simp [errW_none, errW_some] <;> rfl) | (simp [*, errW_none, errW_some] <;> rfl), by repeat (first | (with_reducible first | exact HB.out | apply below_alloc | apply pw_below_drewN | apply below_drew1 | refine below_set ?_ GE108.out) | exact HB.out)⟩

end Go.Proofs.Ytcpojadlnpnbaaa.XRet
