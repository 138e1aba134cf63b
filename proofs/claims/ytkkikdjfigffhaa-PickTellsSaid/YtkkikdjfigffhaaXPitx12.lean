-- By a program of this work (xprint.py) over the translation; Lean checks it.
import Derived.Test.YtkkikdjfigffhaaXPitx0
namespace Go.Proofs.Ytkkikdjfigffhaa.XPit
open Go.RowKit Go.Proofs.YtkkikdjfigffhaaW.PrintWords Go.Proofs.YtkkikdjfigffhaaW.PrintLast Go.Proofs.YtkkikdjfigffhaaW.PrintMore
attribute [local go_sem] max2_int min2_int max_two min_two max_three min_three max_four min_four   -- for this text's walks alone
set_option linter.unusedVariables false
set_option linter.unusedSimpArgs false

/-! ### newsreelref43_first: function 75 -/
def newsreelref43_first.l0 : Nat → Int → Int → Int → Int → Int → Int → List (S66) → List (S68) → Int → ByteArray → ByteArray → Int → Int → Option (Bool)
  | 0, _, _, _, _, _, _, _, _, _, _, _, _, _ => none
  | k + 1, x2, x8, x149000, x149001, x149002, x149003, x149004, x149005, x151000, x151001, x151002, x151003, x151004 => if x8 < (x149004.length : Int) then (if 0 ≤ x8 then (if ((rd_T66 x149004 x8).f3) < x151003 then (some false) else (if ((rd_T66 x149004 x8).f3) = x151003 then (if ((rd_T66 x149004 x8).f0) < x151000 then (some false) else (newsreelref43_first.l0 k x2 (wrap64 (x8 + 1)) x149000 x149001 x149002 x149003 x149004 x149005 x151000 x151001 x151002 x151003 x151004)) else (newsreelref43_first.l0 k x2 (wrap64 (x8 + 1)) x149000 x149001 x149002 x149003 x149004 x149005 x151000 x151001 x151002 x151003 x151004))) else (none)) else (some (decide (x151003 ≤ x2)))
def newsreelref43_first.f (k : Nat) (a0_0 : Int) (a0_1 : Int) (a0_2 : Int) (a0_3 : Int) (l0_4 : List (S66)) (l0_5 : List (S68)) (a1 : Int) (a2 : Int) : Option (Bool) := if 0 ≤ a1 then (if a1 < (l0_4.length : Int) then (newsreelref43_first.l0 k a2 0 a0_0 a0_1 a0_2 a0_3 l0_4 l0_5 ((rd_T66 l0_4 a1).f0) ((rd_T66 l0_4 a1).f1) ((rd_T66 l0_4 a1).f2) ((rd_T66 l0_4 a1).f3) ((rd_T66 l0_4 a1).f4)) else (none)) else (none)
theorem newsreelref43_first.mono_l : ∀ k, (∀ y0 y1 y2 y3 y4 y5 y6 y7 y8 y9 y10 y11 y12, LeO (newsreelref43_first.l0 k y0 y1 y2 y3 y4 y5 y6 y7 y8 y9 y10 y11 y12) (newsreelref43_first.l0 (k + 1) y0 y1 y2 y3 y4 y5 y6 y7 y8 y9 y10 y11 y12))
  | 0 => fun _ _ _ _ _ _ _ _ _ _ _ _ _ r h => by simp [newsreelref43_first.l0] at h
  | k + 1 => by
    have ih0 := newsreelref43_first.mono_l k
    · intro y0 y1 y2 y3 y4 y5 y6 y7 y8 y9 y10 y11 y12
      unfold newsreelref43_first.l0
      repeat' first
      | (with_reducible exact ih0 _ _ _ _ _ _ _ _ _ _ _ _ _)
      | (with_reducible exact LeO.refl _)
      | (with_reducible exact LeO.none _)
      | (with_reducible refine LeO.ite ?_ ?_)
      | (with_reducible refine LeO.bind ?_ (fun _ => ?_))
      | exact ih0 _ _ _ _ _ _ _ _ _ _ _ _ _
      | exact LeO.none _
      | refine LeO.ite ?_ ?_
      | refine LeO.bind ?_ (fun _ => ?_)
theorem newsreelref43_first.mono : ∀ a0 a1 a2 a3 a4 a5 a6 a7 k, LeO (newsreelref43_first.f k a0 a1 a2 a3 a4 a5 a6 a7) (newsreelref43_first.f (k + 1) a0 a1 a2 a3 a4 a5 a6 a7) := by
  intro a0 a1 a2 a3 a4 a5 a6 a7 k
  have ih0 := newsreelref43_first.mono_l k
  unfold newsreelref43_first.f
  repeat' first
      | (with_reducible exact ih0 _ _ _ _ _ _ _ _ _ _ _ _ _)
      | (with_reducible exact LeO.refl _)
      | (with_reducible exact LeO.none _)
      | (with_reducible refine LeO.ite ?_ ?_)
      | (with_reducible refine LeO.bind ?_ (fun _ => ?_))
      | exact ih0 _ _ _ _ _ _ _ _ _ _ _ _ _
      | exact LeO.none _
      | refine LeO.ite ?_ ?_
      | refine LeO.bind ?_ (fun _ => ?_)
set_option maxHeartbeats 8000000 in
set_option maxRecDepth 100000 in
theorem newsreelref43_first.calls (k : Nat) (a0_0 : Int) (a0_1 : Int) (a0_2 : Int) (a0_3 : Int) (A0_4 : Option Addr) (c0_4 : Nat) (l0_4 : List (S66)) (A0_5 : Option Addr) (c0_5 : Nat) (l0_5 : List (S68)) (a1 : Int) (a2 : Int) (r : Bool) (w : World) (hr0_4 : Kd.C k66 w A0_4 l0_4.length l0_4) (hc0_4 : l0_4.length ≤ c0_4) (hr0_5 : Kd.C k68 w A0_5 l0_5.length l0_5) (hc0_5 : l0_5.length ≤ c0_5) (h : newsreelref43_first.f k a0_0 a0_1 a0_2 a0_3 l0_4 l0_5 a1 a2 = some r) :
    Calls Try.prog 75 #[.agg #[.int .i64 a0_0, .int .i64 a0_1, .int .i64 a0_2, .int .i64 a0_3, .slice A0_4 l0_4.length c0_4, .slice A0_5 l0_5.length c0_5], .int .i64 a1, .int .i64 a2] w fun e w' => e = .returned (.bool r) ∧ Below w.heap.size w w' := by
  have hu56 := Try.underlying56
  have hu66 := Try.underlying66
  have HR0_4 := Aside0.mk hr0_4
  have HC0_4 := Aside0.mk hc0_4
  clear hr0_4 hc0_4
  have HR0_5 := Aside0.mk hr0_5
  have HC0_5 := Aside0.mk hc0_5
  clear hr0_5 hc0_5
  have HB := Aside0.mk (Below.refl w.heap.size w)
  have H : (if 0 ≤ a1 then (if a1 < (l0_4.length : Int) then (newsreelref43_first.l0 k a2 0 a0_0 a0_1 a0_2 a0_3 l0_4 l0_5 ((rd_T66 l0_4 a1).f0) ((rd_T66 l0_4 a1).f1) ((rd_T66 l0_4 a1).f2) ((rd_T66 l0_4 a1).f3) ((rd_T66 l0_4 a1).f4)) else (none)) else (none)) = some r := h
  clear h
  by_cases c4 : 0 ≤ a1
  · rw [if_pos c4] at H
    have c4b0 : decide (0 ≤ a1) = true := decide_eq_true c4
    clear c4
    by_cases c5 : a1 < (l0_4.length : Int)
    · rw [if_pos c5] at H
      have c5b0 : decide (a1 < (l0_4.length : Int)) = true := decide_eq_true c5
      clear c5
      have H' := Aside0.mk H
      clear H
      go_enter Try.func75, Try.ntmps75
      go_wp2_with (first | ((with_reducible refine gate_load (t := 56) rfl ?_); refine load_row3 (t := 56) (g := gb148) ?hg BK148.out ?ho ?hb Try.underlying56 rfl ?hs ?_; (case hg => rfl); (case ho => refine ⟨_, rfl, ?_⟩; first | (with_reducible rfl) | (go_simp; done)); (case hb => (with_reducible repeat (first | refine blk_drewN ?_ _ | refine blk_drew ?_ | refine blk_alloc ?_ _)); with_reducible exact BK148.out); (case hs => kernel_rfl)) | ((with_reducible refine gate_load (t := 66) rfl ?_); refine load_row3 (t := 66) (g := gb150) ?hg BK150.out ?ho ?hb Try.underlying66 rfl ?hs ?_; (case hg => rfl); (case ho => refine ⟨_, rfl, ?_⟩; first | (with_reducible rfl) | (go_simp; done)); (case hb => (with_reducible repeat (first | refine blk_drewN ?_ _ | refine blk_drew ?_ | refine blk_alloc ?_ _)); with_reducible exact BK150.out); (case hs => kernel_rfl)) | ((with_reducible refine gate_dst (N := 3) rfl ?_); refine box_event ?hg (N := 3) ?hd (cs := #[.int .i64 a0_0, .int .i64 a0_1, .int .i64 a0_2, .int .i64 a0_3, .slice A0_4 l0_4.length c0_4, .slice A0_5 l0_5.length c0_5]) (t := 56) ?hr ?_; (case hd => rfl); (case hg => rfl); (case hr => first | (go_simp; done) | (go_simp; rfl)); intro gb148 hg w6 hbox hb; have n0_ := Aside0.mk (below_step (below_y HB.out) hb); have n1_ := Aside0.mk (hbox); have n2_ := Aside0.mk ((by rw [hg]; exact (below_size (below_y HB.out)) : w.heap.size ≤ gb148)); have n3_ := Aside0.mk ((by rw [hg]; exact (below_size (below_y HB.out)) : w.heap.size ≤ gb148)); clear HB; have HB := n0_; have BK148 := n1_; have GW148 := n2_; have GE148 := n3_; clear n0_ n1_ n2_ n3_; clear hb hbox hg; have hcz7_0 : w6.cell? ⟨gb148, 0, none⟩ = some (.int .i64 a0_0) := (blk_cell BK148.out 0).trans rfl; have hcz7_1 : w6.cell? ⟨gb148, 1, none⟩ = some (.int .i64 a0_1) := (blk_cell BK148.out 1).trans rfl; have hcz7_2 : w6.cell? ⟨gb148, 2, none⟩ = some (.int .i64 a0_2) := (blk_cell BK148.out 2).trans rfl; have hcz7_3 : w6.cell? ⟨gb148, 3, none⟩ = some (.int .i64 a0_3) := (blk_cell BK148.out 3).trans rfl; have hcz7_4 : w6.cell? ⟨gb148, 4, none⟩ = some (.slice A0_4 l0_4.length c0_4) := (blk_cell BK148.out 4).trans rfl; have hcz7_5 : w6.cell? ⟨gb148, 5, none⟩ = some (.slice A0_5 l0_5.length c0_5) := (blk_cell BK148.out 5).trans rfl; have hfz7_0 := blk_frozen BK148.out 0; have hfz7_1 := blk_frozen BK148.out 1; have hfz7_2 := blk_frozen BK148.out 2; have hfz7_3 := blk_frozen BK148.out 3; have hfz7_4 := blk_frozen BK148.out 4; have hfz7_5 := blk_frozen BK148.out 5; have p149 : 0 ≤ (a1 : Int) := of_decide_eq_true (by first | (with_reducible assumption) | assumption); have q149 : a1 < (l0_4.length : Int) := of_decide_eq_true (by first | (with_reducible assumption) | assumption); obtain ⟨ad149, e149, hx149_0, hx149_1, hx149_2, hx149_3, hx149_4⟩ := at_T66 HR0_4.out a1 p149 q149; cases e149; replace hx149_0 := (HB.out.cell (World.block_lt_of_cell? w _ hx149_0)).trans hx149_0; replace hx149_1 := (HB.out.cell (World.block_lt_of_cell? w _ hx149_1)).trans hx149_1; replace hx149_2 := (HB.out.cell (World.block_lt_of_cell? w _ hx149_2)).trans hx149_2; replace hx149_3 := (HB.out.cell (World.block_lt_of_cell? w _ hx149_3)).trans hx149_3; replace hx149_4 := (HB.out.cell (World.block_lt_of_cell? w _ hx149_4)).trans hx149_4; replace p149 := eq_true p149; replace q149 := eq_true q149) | ((with_reducible refine gate_dst (N := 7) rfl ?_); refine box_event ?hg (N := 7) ?hd (cs := #[.int .i64 0, .string (⟨#[]⟩ : ByteArray), .string (⟨#[]⟩ : ByteArray), .int .i64 0, .int .i64 0]) (t := 66) ?hr ?_; (case hd => rfl); (case hg => rfl); (case hr => first | (go_simp; done) | (go_simp; rfl)); intro gb150 hg w8 hbox hb; have n0_ := Aside0.mk (blk_below (blk_y BK148.out) hb); have n1_ := Aside0.mk (below_step (below_y HB.out) hb); have n2_ := Aside0.mk (hbox); have n3_ := Aside0.mk ((by rw [hg]; exact (below_size (below_y HB.out)) : w.heap.size ≤ gb150)); have n4_ := Aside0.mk ((by rw [hg]; exact (below_size (below_y HB.out)) : w.heap.size ≤ gb150)); have n5_ := Aside0.mk ((by rw [hg]; exact Nat.ne_of_lt (blk_lt (blk_y BK148.out)) : gb148 ≠ gb150)); have n6_ := Aside0.mk ((by rw [hg]; exact Nat.ne_of_gt (blk_lt (blk_y BK148.out)) : gb150 ≠ gb148)); clear BK148; clear HB; have BK148 := n0_; have HB := n1_; have BK150 := n2_; have GW150 := n3_; have GE150 := n4_; have NB148_150 := n5_; have NB150_148 := n6_; clear n0_ n1_ n2_ n3_ n4_ n5_ n6_; clear hb hbox hg; have hnb9 := NB150_148.out; have hnc9 := NB148_150.out; have hcz10_0 : w8.cell? ⟨gb150, 0, none⟩ = some (.int .i64 0) := (blk_cell BK150.out 0).trans rfl; have hcz10_1 : w8.cell? ⟨gb150, 1, none⟩ = some (.string (⟨#[]⟩ : ByteArray)) := (blk_cell BK150.out 1).trans rfl; have hcz10_2 : w8.cell? ⟨gb150, 2, none⟩ = some (.string (⟨#[]⟩ : ByteArray)) := (blk_cell BK150.out 2).trans rfl; have hcz10_3 : w8.cell? ⟨gb150, 3, none⟩ = some (.int .i64 0) := (blk_cell BK150.out 3).trans rfl; have hcz10_4 : w8.cell? ⟨gb150, 4, none⟩ = some (.int .i64 0) := (blk_cell BK150.out 4).trans rfl; have hfz10_0 := blk_frozen BK150.out 0; have hfz10_1 := blk_frozen BK150.out 1; have hfz10_2 := blk_frozen BK150.out 2; have hfz10_3 := blk_frozen BK150.out 3; have hfz10_4 := blk_frozen BK150.out 4) | ((with_reducible refine gate_store (t := 66) (p := 7) rfl ?_); refine store_whole2 (t := 66) (g := gb150) ?hg ?hn (cells := #[.int .i64 ((rd_T66 l0_4 a1).f0), .string ((rd_T66 l0_4 a1).f1), .string ((rd_T66 l0_4 a1).f2), .int .i64 ((rd_T66 l0_4 a1).f3), .int .i64 ((rd_T66 l0_4 a1).f4)]) ?ho (blk_y BK150.out) (by kernel_rfl) rfl ?h1 ?_; (case hg => rfl); (case hn => rfl); (case ho => refine ⟨_, _, rfl, ?_, ?_⟩; all_goals (first | (with_reducible rfl) | (go_simp; done) | rfl | (go_simp; rfl))); (case h1 => first | rfl | simp [Value.oneCell']); intro w11 hw; have hg : w8.grownBy w11 (some gb150) := (by rw [hw]; exact grown_setRow _ _ _); have n0_ := Aside0.mk ((by rw [hw]; exact (setRow_other _ _ _ _ NB148_150.out).trans (blk_y BK148.out) : w11.heap[gb148]? = some (.cells #[.int .i64 a0_0, .int .i64 a0_1, .int .i64 a0_2, .int .i64 a0_3, .slice (some ad149) l0_4.length c0_4, .slice A0_5 l0_5.length c0_5] 56 (0, 0)))); have n1_ := Aside0.mk ((by rw [hw]; exact setRow_heap _ _ _ _ _ _ (blk_y BK150.out) : w11.heap[gb150]? = some (.cells #[.int .i64 ((rd_T66 l0_4 a1).f0), .string ((rd_T66 l0_4 a1).f1), .string ((rd_T66 l0_4 a1).f2), .int .i64 ((rd_T66 l0_4 a1).f3), .int .i64 ((rd_T66 l0_4 a1).f4)] 66 (0, 0)))); have n2_ := Aside0.mk ((by rw [hw]; exact below_setRow (below_y HB.out) GE150.out _ : Below w.heap.size w w11)); clear BK148; clear BK150; clear HB; have BK148 := n0_; have BK150 := n1_; have HB := n2_; clear n0_ n1_ n2_; clear hg hw))
      go_loopg [8] k (fun kq v8 w' => ∃ (x8_1 : Int), v8 = .int .i64 x8_1 ∧ Aside0 (newsreelref43_first.l0 kq a2 x8_1 a0_0 a0_1 a0_2 a0_3 l0_4 l0_5 ((rd_T66 l0_4 a1).f0) ((rd_T66 l0_4 a1).f1) ((rd_T66 l0_4 a1).f2) ((rd_T66 l0_4 a1).f3) ((rd_T66 l0_4 a1).f4) = some r) ∧ Aside0 (kq ≤ k) ∧ Aside0 (w'.heap[gb148]? = some (.cells #[.int .i64 a0_0, .int .i64 a0_1, .int .i64 a0_2, .int .i64 a0_3, (.slice (some ad149) l0_4.length c0_4), (.slice A0_5 l0_5.length c0_5)] 56 (0, 0))) ∧ Aside0 (w'.heap[gb150]? = some (.cells #[.int .i64 ((rd_T66 l0_4 a1).f0), .string ((rd_T66 l0_4 a1).f1), .string ((rd_T66 l0_4 a1).f2), .int .i64 ((rd_T66 l0_4 a1).f3), .int .i64 ((rd_T66 l0_4 a1).f4)] 66 (0, 0))) ∧ Aside0 (Below w.heap.size w w'))
      case atStart => exact ⟨(0), (by first | rfl | (simp; done) | (simp [*]; done)), H', ⟨Nat.le_refl _⟩, ⟨by (with_reducible repeat (first | refine blk_drewN ?_ _ | refine blk_drew ?_ | refine blk_alloc ?_ _)); exact BK148.out⟩, ⟨by (with_reducible repeat (first | refine blk_drewN ?_ _ | refine blk_drew ?_ | refine blk_alloc ?_ _)); exact BK150.out⟩, ⟨by repeat (first | (with_reducible first | exact HB.out | apply below_alloc | apply pw_below_drewN | apply below_drew1 | refine below_set ?_ GE148.out | refine below_set ?_ GE150.out) | exact HB.out)⟩⟩
      case round =>
        clear H'
        try clear p1
        try clear q1
        try clear hx1
        try clear p2
        try clear c4
        try clear c4b0
        try clear c5
        try clear c5b0
        try clear c7
        try clear c9
        try clear hcz10_0
        try clear hcz10_1
        try clear hcz10_2
        try clear hcz10_3
        try clear hcz10_4
        try clear hcz7_0
        try clear hcz7_1
        try clear hcz7_2
        try clear hcz7_3
        try clear hcz7_4
        try clear hcz7_5
        try clear hfz10_0
        try clear hfz10_1
        try clear hfz10_2
        try clear hfz10_3
        try clear hfz10_4
        try clear hfz7_0
        try clear hfz7_1
        try clear hfz7_2
        try clear hfz7_3
        try clear hfz7_4
        try clear hfz7_5
        try clear hx149_0
        try clear hx149_1
        try clear hx149_2
        try clear hx149_3
        try clear hx149_4
        try clear p149
        try clear q149
        obtain ⟨x8_1, rfl, HA, HK1, BK148, BK150, HB⟩ := hrel
        cases gk with
        | zero => exact absurd HA.out (by simp [newsreelref43_first.l0])
        | succ k1 =>
          have H := HA.out
          clear HA
          simp only [newsreelref43_first.l0] at H
          by_cases c12 : x8_1 < (l0_4.length : Int)
          · rw [if_pos c12] at H
            have c12b0 : decide (x8_1 < (l0_4.length : Int)) = true := decide_eq_true c12
            clear c12
            by_cases c13 : 0 ≤ x8_1
            · rw [if_pos c13] at H
              have c13b0 : decide (0 ≤ x8_1) = true := decide_eq_true c13
              clear c13
              by_cases c14 : ((rd_T66 l0_4 x8_1).f3) < ((rd_T66 l0_4 a1).f3)
              · rw [if_pos c14] at H
                have c14b0 : decide (((rd_T66 l0_4 x8_1).f3) < ((rd_T66 l0_4 a1).f3)) = true := decide_eq_true c14
                clear c14
                as_aux_lemma =>
                  obtain rfl := Option.some.inj H
                  have hnb15 := NB148_150.out
                  have hnc15 := NB150_148.out
                  have hcz16_0 : wr.cell? ⟨gb148, 0, none⟩ = some (.int .i64 a0_0) := (blk_cell BK148.out 0).trans rfl
                  have hcz16_1 : wr.cell? ⟨gb148, 1, none⟩ = some (.int .i64 a0_1) := (blk_cell BK148.out 1).trans rfl
                  have hcz16_2 : wr.cell? ⟨gb148, 2, none⟩ = some (.int .i64 a0_2) := (blk_cell BK148.out 2).trans rfl
                  have hcz16_3 : wr.cell? ⟨gb148, 3, none⟩ = some (.int .i64 a0_3) := (blk_cell BK148.out 3).trans rfl
                  have hcz16_4 : wr.cell? ⟨gb148, 4, none⟩ = some (.slice (some ad149) l0_4.length c0_4) := (blk_cell BK148.out 4).trans rfl
                  have hcz16_5 : wr.cell? ⟨gb148, 5, none⟩ = some (.slice A0_5 l0_5.length c0_5) := (blk_cell BK148.out 5).trans rfl
                  have hfz16_0 := blk_frozen BK148.out 0
                  have hfz16_1 := blk_frozen BK148.out 1
                  have hfz16_2 := blk_frozen BK148.out 2
                  have hfz16_3 := blk_frozen BK148.out 3
                  have hfz16_4 := blk_frozen BK148.out 4
                  have hfz16_5 := blk_frozen BK148.out 5
                  have p151 : 0 ≤ (x8_1 : Int) := of_decide_eq_true (by first | (with_reducible assumption) | assumption)
                  have q151 : x8_1 < (l0_4.length : Int) := of_decide_eq_true (by first | (with_reducible assumption) | assumption)
                  obtain ⟨ad151, e151, hx151_0, hx151_1, hx151_2, hx151_3, hx151_4⟩ := at_T66 HR0_4.out x8_1 p151 q151
                  obtain rfl : ad149 = ad151 := (by injection e151)
                  replace hx151_0 := (HB.out.cell (World.block_lt_of_cell? w _ hx151_0)).trans hx151_0
                  replace hx151_1 := (HB.out.cell (World.block_lt_of_cell? w _ hx151_1)).trans hx151_1
                  replace hx151_2 := (HB.out.cell (World.block_lt_of_cell? w _ hx151_2)).trans hx151_2
                  replace hx151_3 := (HB.out.cell (World.block_lt_of_cell? w _ hx151_3)).trans hx151_3
                  replace hx151_4 := (HB.out.cell (World.block_lt_of_cell? w _ hx151_4)).trans hx151_4
                  replace p151 := eq_true p151
                  replace q151 := eq_true q151
                  go_wp2_with (first | ((with_reducible refine gate_load (t := 66) rfl ?_); refine load_at2 (t := 66) ?hg ?ho (c0 := _) (cs := [_, _, _, _]) Try.underlying66 rfl (by kernel_rfl) hx151_0 ⟨hx151_1, hx151_2, hx151_3, hx151_4, trivial⟩ ?_; (case hg => rfl); (case ho => refine ⟨_, rfl, ?_⟩; first | (with_reducible rfl) | (go_simp; done))) | ((with_reducible refine gate_load (t := 56) rfl ?_); refine load_row3 (t := 56) (g := gb148) ?hg BK148.out ?ho ?hb Try.underlying56 rfl ?hs ?_; (case hg => rfl); (case ho => refine ⟨_, rfl, ?_⟩; first | (with_reducible rfl) | (go_simp; done)); (case hb => (with_reducible repeat (first | refine blk_drewN ?_ _ | refine blk_drew ?_ | refine blk_alloc ?_ _)); with_reducible exact BK148.out); (case hs => kernel_rfl)) | ((with_reducible refine gate_load (t := 66) rfl ?_); refine load_row3 (t := 66) (g := gb150) ?hg BK150.out ?ho ?hb Try.underlying66 rfl ?hs ?_; (case hg => rfl); (case ho => refine ⟨_, rfl, ?_⟩; first | (with_reducible rfl) | (go_simp; done)); (case hb => (with_reducible repeat (first | refine blk_drewN ?_ _ | refine blk_drew ?_ | refine blk_alloc ?_ _)); with_reducible exact BK150.out); (case hs => kernel_rfl)) | ((with_reducible refine gate_load (t := 66) rfl ?_); refine load_row3 (t := 66) (g := gb152) ?hg BK152.out ?ho ?hb Try.underlying66 rfl ?hs ?_; (case hg => rfl); (case ho => refine ⟨_, rfl, ?_⟩; first | (with_reducible rfl) | (go_simp; done)); (case hb => (with_reducible repeat (first | refine blk_drewN ?_ _ | refine blk_drew ?_ | refine blk_alloc ?_ _)); with_reducible exact BK152.out); (case hs => kernel_rfl)) | ((with_reducible refine gate_dst (N := 9) rfl ?_); refine box_event ?hg (N := 9) ?hd (cs := #[.int .i64 0, .string (⟨#[]⟩ : ByteArray), .string (⟨#[]⟩ : ByteArray), .int .i64 0, .int .i64 0]) (t := 66) ?hr ?_; (case hd => rfl); (case hg => rfl); (case hr => first | (go_simp; done) | (go_simp; rfl)); intro gb152 hg w17 hbox hb; have n0_ := Aside0.mk (blk_below (blk_y BK148.out) hb); have n1_ := Aside0.mk (blk_below (blk_y BK150.out) hb); have n2_ := Aside0.mk (below_step (below_y HB.out) hb); have n3_ := Aside0.mk (hbox); have n4_ := Aside0.mk ((by rw [hg]; exact (below_size (below_y HB.out)) : w.heap.size ≤ gb152)); have n5_ := Aside0.mk ((by rw [hg]; exact (below_size (below_y HB.out)) : w.heap.size ≤ gb152)); have n6_ := Aside0.mk ((by rw [hg]; exact Nat.ne_of_lt (blk_lt (blk_y BK148.out)) : gb148 ≠ gb152)); have n7_ := Aside0.mk ((by rw [hg]; exact Nat.ne_of_gt (blk_lt (blk_y BK148.out)) : gb152 ≠ gb148)); have n8_ := Aside0.mk ((by rw [hg]; exact Nat.ne_of_lt (blk_lt (blk_y BK150.out)) : gb150 ≠ gb152)); have n9_ := Aside0.mk ((by rw [hg]; exact Nat.ne_of_gt (blk_lt (blk_y BK150.out)) : gb152 ≠ gb150)); clear BK148; clear BK150; clear HB; have BK148 := n0_; have BK150 := n1_; have HB := n2_; have BK152 := n3_; have GW152 := n4_; have GE152 := n5_; have NB148_152 := n6_; have NB152_148 := n7_; have NB150_152 := n8_; have NB152_150 := n9_; clear n0_ n1_ n2_ n3_ n4_ n5_ n6_ n7_ n8_ n9_; clear hb hbox hg; have hnb18 := NB152_148.out; have hnc18 := NB148_152.out; have hnb19 := NB152_150.out; have hnc19 := NB150_152.out; have hcz20_0 : w17.cell? ⟨gb152, 0, none⟩ = some (.int .i64 0) := (blk_cell BK152.out 0).trans rfl; have hcz20_1 : w17.cell? ⟨gb152, 1, none⟩ = some (.string (⟨#[]⟩ : ByteArray)) := (blk_cell BK152.out 1).trans rfl; have hcz20_2 : w17.cell? ⟨gb152, 2, none⟩ = some (.string (⟨#[]⟩ : ByteArray)) := (blk_cell BK152.out 2).trans rfl; have hcz20_3 : w17.cell? ⟨gb152, 3, none⟩ = some (.int .i64 0) := (blk_cell BK152.out 3).trans rfl; have hcz20_4 : w17.cell? ⟨gb152, 4, none⟩ = some (.int .i64 0) := (blk_cell BK152.out 4).trans rfl; have hfz20_0 := blk_frozen BK152.out 0; have hfz20_1 := blk_frozen BK152.out 1; have hfz20_2 := blk_frozen BK152.out 2; have hfz20_3 := blk_frozen BK152.out 3; have hfz20_4 := blk_frozen BK152.out 4) | ((with_reducible refine gate_store (t := 66) (p := 9) rfl ?_); refine store_whole2 (t := 66) (g := gb152) ?hg ?hn (cells := #[.int .i64 ((rd_T66 l0_4 x8_1).f0), .string ((rd_T66 l0_4 x8_1).f1), .string ((rd_T66 l0_4 x8_1).f2), .int .i64 ((rd_T66 l0_4 x8_1).f3), .int .i64 ((rd_T66 l0_4 x8_1).f4)]) ?ho (blk_y BK152.out) (by kernel_rfl) rfl ?h1 ?_; (case hg => rfl); (case hn => rfl); (case ho => refine ⟨_, _, rfl, ?_, ?_⟩; all_goals (first | (with_reducible rfl) | (go_simp; done) | rfl | (go_simp; rfl))); (case h1 => first | rfl | simp [Value.oneCell']); intro w21 hw; have hg : w17.grownBy w21 (some gb152) := (by rw [hw]; exact grown_setRow _ _ _); have n0_ := Aside0.mk ((by rw [hw]; exact (setRow_other _ _ _ _ NB148_152.out).trans (blk_y BK148.out) : w21.heap[gb148]? = some (.cells #[.int .i64 a0_0, .int .i64 a0_1, .int .i64 a0_2, .int .i64 a0_3, .slice (some ad149) l0_4.length c0_4, .slice A0_5 l0_5.length c0_5] 56 (0, 0)))); have n1_ := Aside0.mk ((by rw [hw]; exact (setRow_other _ _ _ _ NB150_152.out).trans (blk_y BK150.out) : w21.heap[gb150]? = some (.cells #[.int .i64 ((rd_T66 l0_4 a1).f0), .string ((rd_T66 l0_4 a1).f1), .string ((rd_T66 l0_4 a1).f2), .int .i64 ((rd_T66 l0_4 a1).f3), .int .i64 ((rd_T66 l0_4 a1).f4)] 66 (0, 0)))); have n2_ := Aside0.mk ((by rw [hw]; exact setRow_heap _ _ _ _ _ _ (blk_y BK152.out) : w21.heap[gb152]? = some (.cells #[.int .i64 ((rd_T66 l0_4 x8_1).f0), .string ((rd_T66 l0_4 x8_1).f1), .string ((rd_T66 l0_4 x8_1).f2), .int .i64 ((rd_T66 l0_4 x8_1).f3), .int .i64 ((rd_T66 l0_4 x8_1).f4)] 66 (0, 0)))); have n3_ := Aside0.mk ((by rw [hw]; exact below_setRow (below_y HB.out) GE152.out _ : Below w.heap.size w w21)); clear BK148; clear BK150; clear BK152; clear HB; have BK148 := n0_; have BK150 := n1_; have BK152 := n2_; have HB := n3_; clear n0_ n1_ n2_ n3_; clear hg hw; have hcz22_0 : w21.cell? ⟨gb152, 0, none⟩ = some (.int .i64 ((rd_T66 l0_4 x8_1).f0)) := (blk_cell BK152.out 0).trans rfl; have hcz22_1 : w21.cell? ⟨gb152, 1, none⟩ = some (.string ((rd_T66 l0_4 x8_1).f1)) := (blk_cell BK152.out 1).trans rfl; have hcz22_2 : w21.cell? ⟨gb152, 2, none⟩ = some (.string ((rd_T66 l0_4 x8_1).f2)) := (blk_cell BK152.out 2).trans rfl; have hcz22_3 : w21.cell? ⟨gb152, 3, none⟩ = some (.int .i64 ((rd_T66 l0_4 x8_1).f3)) := (blk_cell BK152.out 3).trans rfl; have hcz22_4 : w21.cell? ⟨gb152, 4, none⟩ = some (.int .i64 ((rd_T66 l0_4 x8_1).f4)) := (blk_cell BK152.out 4).trans rfl; have hfz22_0 := blk_frozen BK152.out 0; have hfz22_1 := blk_frozen BK152.out 1; have hfz22_2 := blk_frozen BK152.out 2; have hfz22_3 := blk_frozen BK152.out 3; have hfz22_4 := blk_frozen BK152.out 4; have hcz23_0 : w21.cell? ⟨gb150, 0, none⟩ = some (.int .i64 ((rd_T66 l0_4 a1).f0)) := (blk_cell BK150.out 0).trans rfl; have hcz23_1 : w21.cell? ⟨gb150, 1, none⟩ = some (.string ((rd_T66 l0_4 a1).f1)) := (blk_cell BK150.out 1).trans rfl; have hcz23_2 : w21.cell? ⟨gb150, 2, none⟩ = some (.string ((rd_T66 l0_4 a1).f2)) := (blk_cell BK150.out 2).trans rfl; have hcz23_3 : w21.cell? ⟨gb150, 3, none⟩ = some (.int .i64 ((rd_T66 l0_4 a1).f3)) := (blk_cell BK150.out 3).trans rfl; have hcz23_4 : w21.cell? ⟨gb150, 4, none⟩ = some (.int .i64 ((rd_T66 l0_4 a1).f4)) := (blk_cell BK150.out 4).trans rfl; have hfz23_0 := blk_frozen BK150.out 0; have hfz23_1 := blk_frozen BK150.out 1; have hfz23_2 := blk_frozen BK150.out 2; have hfz23_3 := blk_frozen BK150.out 3; have hfz23_4 := blk_frozen BK150.out 4))
                  go_ret
                  exact ⟨by first | rfl | (simp [errW_none, errW_some] <;> rfl) | (simp [*, errW_none, errW_some] <;> rfl), by repeat (first | (with_reducible first | exact HB.out | apply below_alloc | apply pw_below_drewN | apply below_drew1 | refine below_set ?_ GE148.out | refine below_set ?_ GE150.out | refine below_set ?_ GE152.out) | exact HB.out)⟩
              · rw [if_neg c14] at H
                have c14b0 : decide (((rd_T66 l0_4 x8_1).f3) < ((rd_T66 l0_4 a1).f3)) = false := decide_eq_false c14
                clear c14
                by_cases c24 : ((rd_T66 l0_4 x8_1).f3) = ((rd_T66 l0_4 a1).f3)
                · rw [if_pos c24] at H
                  have c24b0 : (((rd_T66 l0_4 x8_1).f3) == ((rd_T66 l0_4 a1).f3)) = true := beq_iff_eq.mpr c24
                  have c24b1 : (((rd_T66 l0_4 x8_1).f3) != ((rd_T66 l0_4 a1).f3)) = false := bne_eq_false_iff_eq.mpr c24
                  clear c24
                  by_cases c25 : ((rd_T66 l0_4 x8_1).f0) < ((rd_T66 l0_4 a1).f0)
                  · rw [if_pos c25] at H
                    have c25b0 : decide (((rd_T66 l0_4 x8_1).f0) < ((rd_T66 l0_4 a1).f0)) = true := decide_eq_true c25
                    clear c25
                    as_aux_lemma =>
                      obtain rfl := Option.some.inj H
                      have hnb26 := NB148_150.out
                      have hnc26 := NB150_148.out
                      have hcz27_0 : wr.cell? ⟨gb148, 0, none⟩ = some (.int .i64 a0_0) := (blk_cell BK148.out 0).trans rfl
                      have hcz27_1 : wr.cell? ⟨gb148, 1, none⟩ = some (.int .i64 a0_1) := (blk_cell BK148.out 1).trans rfl
                      have hcz27_2 : wr.cell? ⟨gb148, 2, none⟩ = some (.int .i64 a0_2) := (blk_cell BK148.out 2).trans rfl
                      have hcz27_3 : wr.cell? ⟨gb148, 3, none⟩ = some (.int .i64 a0_3) := (blk_cell BK148.out 3).trans rfl
                      have hcz27_4 : wr.cell? ⟨gb148, 4, none⟩ = some (.slice (some ad149) l0_4.length c0_4) := (blk_cell BK148.out 4).trans rfl
                      have hcz27_5 : wr.cell? ⟨gb148, 5, none⟩ = some (.slice A0_5 l0_5.length c0_5) := (blk_cell BK148.out 5).trans rfl
                      have hfz27_0 := blk_frozen BK148.out 0
                      have hfz27_1 := blk_frozen BK148.out 1
                      have hfz27_2 := blk_frozen BK148.out 2
                      have hfz27_3 := blk_frozen BK148.out 3
                      have hfz27_4 := blk_frozen BK148.out 4
                      have hfz27_5 := blk_frozen BK148.out 5
                      have p151 : 0 ≤ (x8_1 : Int) := of_decide_eq_true (by first | (with_reducible assumption) | assumption)
                      have q151 : x8_1 < (l0_4.length : Int) := of_decide_eq_true (by first | (with_reducible assumption) | assumption)
                      obtain ⟨ad151, e151, hx151_0, hx151_1, hx151_2, hx151_3, hx151_4⟩ := at_T66 HR0_4.out x8_1 p151 q151
                      obtain rfl : ad149 = ad151 := (by injection e151)
                      replace hx151_0 := (HB.out.cell (World.block_lt_of_cell? w _ hx151_0)).trans hx151_0
                      replace hx151_1 := (HB.out.cell (World.block_lt_of_cell? w _ hx151_1)).trans hx151_1
                      replace hx151_2 := (HB.out.cell (World.block_lt_of_cell? w _ hx151_2)).trans hx151_2
                      replace hx151_3 := (HB.out.cell (World.block_lt_of_cell? w _ hx151_3)).trans hx151_3
                      replace hx151_4 := (HB.out.cell (World.block_lt_of_cell? w _ hx151_4)).trans hx151_4
                      replace p151 := eq_true p151
                      replace q151 := eq_true q151
                      go_wp2_with (first | ((with_reducible refine gate_load (t := 66) rfl ?_); refine load_at2 (t := 66) ?hg ?ho (c0 := _) (cs := [_, _, _, _]) Try.underlying66 rfl (by kernel_rfl) hx151_0 ⟨hx151_1, hx151_2, hx151_3, hx151_4, trivial⟩ ?_; (case hg => rfl); (case ho => refine ⟨_, rfl, ?_⟩; first | (with_reducible rfl) | (go_simp; done))) | ((with_reducible refine gate_load (t := 56) rfl ?_); refine load_row3 (t := 56) (g := gb148) ?hg BK148.out ?ho ?hb Try.underlying56 rfl ?hs ?_; (case hg => rfl); (case ho => refine ⟨_, rfl, ?_⟩; first | (with_reducible rfl) | (go_simp; done)); (case hb => (with_reducible repeat (first | refine blk_drewN ?_ _ | refine blk_drew ?_ | refine blk_alloc ?_ _)); with_reducible exact BK148.out); (case hs => kernel_rfl)) | ((with_reducible refine gate_load (t := 66) rfl ?_); refine load_row3 (t := 66) (g := gb150) ?hg BK150.out ?ho ?hb Try.underlying66 rfl ?hs ?_; (case hg => rfl); (case ho => refine ⟨_, rfl, ?_⟩; first | (with_reducible rfl) | (go_simp; done)); (case hb => (with_reducible repeat (first | refine blk_drewN ?_ _ | refine blk_drew ?_ | refine blk_alloc ?_ _)); with_reducible exact BK150.out); (case hs => kernel_rfl)) | ((with_reducible refine gate_load (t := 66) rfl ?_); refine load_row3 (t := 66) (g := gb152) ?hg BK152.out ?ho ?hb Try.underlying66 rfl ?hs ?_; (case hg => rfl); (case ho => refine ⟨_, rfl, ?_⟩; first | (with_reducible rfl) | (go_simp; done)); (case hb => (with_reducible repeat (first | refine blk_drewN ?_ _ | refine blk_drew ?_ | refine blk_alloc ?_ _)); with_reducible exact BK152.out); (case hs => kernel_rfl)) | ((with_reducible refine gate_dst (N := 9) rfl ?_); refine box_event ?hg (N := 9) ?hd (cs := #[.int .i64 0, .string (⟨#[]⟩ : ByteArray), .string (⟨#[]⟩ : ByteArray), .int .i64 0, .int .i64 0]) (t := 66) ?hr ?_; (case hd => rfl); (case hg => rfl); (case hr => first | (go_simp; done) | (go_simp; rfl)); intro gb152 hg w28 hbox hb; have n0_ := Aside0.mk (blk_below (blk_y BK148.out) hb); have n1_ := Aside0.mk (blk_below (blk_y BK150.out) hb); have n2_ := Aside0.mk (below_step (below_y HB.out) hb); have n3_ := Aside0.mk (hbox); have n4_ := Aside0.mk ((by rw [hg]; exact (below_size (below_y HB.out)) : w.heap.size ≤ gb152)); have n5_ := Aside0.mk ((by rw [hg]; exact (below_size (below_y HB.out)) : w.heap.size ≤ gb152)); have n6_ := Aside0.mk ((by rw [hg]; exact Nat.ne_of_lt (blk_lt (blk_y BK148.out)) : gb148 ≠ gb152)); have n7_ := Aside0.mk ((by rw [hg]; exact Nat.ne_of_gt (blk_lt (blk_y BK148.out)) : gb152 ≠ gb148)); have n8_ := Aside0.mk ((by rw [hg]; exact Nat.ne_of_lt (blk_lt (blk_y BK150.out)) : gb150 ≠ gb152)); have n9_ := Aside0.mk ((by rw [hg]; exact Nat.ne_of_gt (blk_lt (blk_y BK150.out)) : gb152 ≠ gb150)); clear BK148; clear BK150; clear HB; have BK148 := n0_; have BK150 := n1_; have HB := n2_; have BK152 := n3_; have GW152 := n4_; have GE152 := n5_; have NB148_152 := n6_; have NB152_148 := n7_; have NB150_152 := n8_; have NB152_150 := n9_; clear n0_ n1_ n2_ n3_ n4_ n5_ n6_ n7_ n8_ n9_; clear hb hbox hg; have hnb29 := NB152_148.out; have hnc29 := NB148_152.out; have hnb30 := NB152_150.out; have hnc30 := NB150_152.out; have hcz31_0 : w28.cell? ⟨gb152, 0, none⟩ = some (.int .i64 0) := (blk_cell BK152.out 0).trans rfl; have hcz31_1 : w28.cell? ⟨gb152, 1, none⟩ = some (.string (⟨#[]⟩ : ByteArray)) := (blk_cell BK152.out 1).trans rfl; have hcz31_2 : w28.cell? ⟨gb152, 2, none⟩ = some (.string (⟨#[]⟩ : ByteArray)) := (blk_cell BK152.out 2).trans rfl; have hcz31_3 : w28.cell? ⟨gb152, 3, none⟩ = some (.int .i64 0) := (blk_cell BK152.out 3).trans rfl; have hcz31_4 : w28.cell? ⟨gb152, 4, none⟩ = some (.int .i64 0) := (blk_cell BK152.out 4).trans rfl; have hfz31_0 := blk_frozen BK152.out 0; have hfz31_1 := blk_frozen BK152.out 1; have hfz31_2 := blk_frozen BK152.out 2; have hfz31_3 := blk_frozen BK152.out 3; have hfz31_4 := blk_frozen BK152.out 4) | ((with_reducible refine gate_store (t := 66) (p := 9) rfl ?_); refine store_whole2 (t := 66) (g := gb152) ?hg ?hn (cells := #[.int .i64 ((rd_T66 l0_4 x8_1).f0), .string ((rd_T66 l0_4 x8_1).f1), .string ((rd_T66 l0_4 x8_1).f2), .int .i64 ((rd_T66 l0_4 x8_1).f3), .int .i64 ((rd_T66 l0_4 x8_1).f4)]) ?ho (blk_y BK152.out) (by kernel_rfl) rfl ?h1 ?_; (case hg => rfl); (case hn => rfl); (case ho => refine ⟨_, _, rfl, ?_, ?_⟩; all_goals (first | (with_reducible rfl) | (go_simp; done) | rfl | (go_simp; rfl))); (case h1 => first | rfl | simp [Value.oneCell']); intro w32 hw; have hg : w28.grownBy w32 (some gb152) := (by rw [hw]; exact grown_setRow _ _ _); have n0_ := Aside0.mk ((by rw [hw]; exact (setRow_other _ _ _ _ NB148_152.out).trans (blk_y BK148.out) : w32.heap[gb148]? = some (.cells #[.int .i64 a0_0, .int .i64 a0_1, .int .i64 a0_2, .int .i64 a0_3, .slice (some ad149) l0_4.length c0_4, .slice A0_5 l0_5.length c0_5] 56 (0, 0)))); have n1_ := Aside0.mk ((by rw [hw]; exact (setRow_other _ _ _ _ NB150_152.out).trans (blk_y BK150.out) : w32.heap[gb150]? = some (.cells #[.int .i64 ((rd_T66 l0_4 a1).f0), .string ((rd_T66 l0_4 a1).f1), .string ((rd_T66 l0_4 a1).f2), .int .i64 ((rd_T66 l0_4 a1).f3), .int .i64 ((rd_T66 l0_4 a1).f4)] 66 (0, 0)))); have n2_ := Aside0.mk ((by rw [hw]; exact setRow_heap _ _ _ _ _ _ (blk_y BK152.out) : w32.heap[gb152]? = some (.cells #[.int .i64 ((rd_T66 l0_4 x8_1).f0), .string ((rd_T66 l0_4 x8_1).f1), .string ((rd_T66 l0_4 x8_1).f2), .int .i64 ((rd_T66 l0_4 x8_1).f3), .int .i64 ((rd_T66 l0_4 x8_1).f4)] 66 (0, 0)))); have n3_ := Aside0.mk ((by rw [hw]; exact below_setRow (below_y HB.out) GE152.out _ : Below w.heap.size w w32)); clear BK148; clear BK150; clear BK152; clear HB; have BK148 := n0_; have BK150 := n1_; have BK152 := n2_; have HB := n3_; clear n0_ n1_ n2_ n3_; clear hg hw; have hcz33_0 : w32.cell? ⟨gb152, 0, none⟩ = some (.int .i64 ((rd_T66 l0_4 x8_1).f0)) := (blk_cell BK152.out 0).trans rfl; have hcz33_1 : w32.cell? ⟨gb152, 1, none⟩ = some (.string ((rd_T66 l0_4 x8_1).f1)) := (blk_cell BK152.out 1).trans rfl; have hcz33_2 : w32.cell? ⟨gb152, 2, none⟩ = some (.string ((rd_T66 l0_4 x8_1).f2)) := (blk_cell BK152.out 2).trans rfl; have hcz33_3 : w32.cell? ⟨gb152, 3, none⟩ = some (.int .i64 ((rd_T66 l0_4 x8_1).f3)) := (blk_cell BK152.out 3).trans rfl; have hcz33_4 : w32.cell? ⟨gb152, 4, none⟩ = some (.int .i64 ((rd_T66 l0_4 x8_1).f4)) := (blk_cell BK152.out 4).trans rfl; have hfz33_0 := blk_frozen BK152.out 0; have hfz33_1 := blk_frozen BK152.out 1; have hfz33_2 := blk_frozen BK152.out 2; have hfz33_3 := blk_frozen BK152.out 3; have hfz33_4 := blk_frozen BK152.out 4; have hcz34_0 : w32.cell? ⟨gb150, 0, none⟩ = some (.int .i64 ((rd_T66 l0_4 a1).f0)) := (blk_cell BK150.out 0).trans rfl; have hcz34_1 : w32.cell? ⟨gb150, 1, none⟩ = some (.string ((rd_T66 l0_4 a1).f1)) := (blk_cell BK150.out 1).trans rfl; have hcz34_2 : w32.cell? ⟨gb150, 2, none⟩ = some (.string ((rd_T66 l0_4 a1).f2)) := (blk_cell BK150.out 2).trans rfl; have hcz34_3 : w32.cell? ⟨gb150, 3, none⟩ = some (.int .i64 ((rd_T66 l0_4 a1).f3)) := (blk_cell BK150.out 3).trans rfl; have hcz34_4 : w32.cell? ⟨gb150, 4, none⟩ = some (.int .i64 ((rd_T66 l0_4 a1).f4)) := (blk_cell BK150.out 4).trans rfl; have hfz34_0 := blk_frozen BK150.out 0; have hfz34_1 := blk_frozen BK150.out 1; have hfz34_2 := blk_frozen BK150.out 2; have hfz34_3 := blk_frozen BK150.out 3; have hfz34_4 := blk_frozen BK150.out 4))
                      go_ret
                      exact ⟨by first | rfl | (simp [errW_none, errW_some] <;> rfl) | (simp [*, errW_none, errW_some] <;> rfl), by repeat (first | (with_reducible first | exact HB.out | apply below_alloc | apply pw_below_drewN | apply below_drew1 | refine below_set ?_ GE148.out | refine below_set ?_ GE150.out | refine below_set ?_ GE152.out) | exact HB.out)⟩
                  · rw [if_neg c25] at H
                    have c25b0 : decide (((rd_T66 l0_4 x8_1).f0) < ((rd_T66 l0_4 a1).f0)) = false := decide_eq_false c25
                    clear c25
                    as_aux_lemma =>
                      have H' := Aside0.mk H
                      clear H
                      have hnb35 := NB148_150.out
                      have hnc35 := NB150_148.out
                      have hcz36_0 : wr.cell? ⟨gb148, 0, none⟩ = some (.int .i64 a0_0) := (blk_cell BK148.out 0).trans rfl
                      have hcz36_1 : wr.cell? ⟨gb148, 1, none⟩ = some (.int .i64 a0_1) := (blk_cell BK148.out 1).trans rfl
                      have hcz36_2 : wr.cell? ⟨gb148, 2, none⟩ = some (.int .i64 a0_2) := (blk_cell BK148.out 2).trans rfl
                      have hcz36_3 : wr.cell? ⟨gb148, 3, none⟩ = some (.int .i64 a0_3) := (blk_cell BK148.out 3).trans rfl
                      have hcz36_4 : wr.cell? ⟨gb148, 4, none⟩ = some (.slice (some ad149) l0_4.length c0_4) := (blk_cell BK148.out 4).trans rfl
                      have hcz36_5 : wr.cell? ⟨gb148, 5, none⟩ = some (.slice A0_5 l0_5.length c0_5) := (blk_cell BK148.out 5).trans rfl
                      have hfz36_0 := blk_frozen BK148.out 0
                      have hfz36_1 := blk_frozen BK148.out 1
                      have hfz36_2 := blk_frozen BK148.out 2
                      have hfz36_3 := blk_frozen BK148.out 3
                      have hfz36_4 := blk_frozen BK148.out 4
                      have hfz36_5 := blk_frozen BK148.out 5
                      have p151 : 0 ≤ (x8_1 : Int) := of_decide_eq_true (by first | (with_reducible assumption) | assumption)
                      have q151 : x8_1 < (l0_4.length : Int) := of_decide_eq_true (by first | (with_reducible assumption) | assumption)
                      obtain ⟨ad151, e151, hx151_0, hx151_1, hx151_2, hx151_3, hx151_4⟩ := at_T66 HR0_4.out x8_1 p151 q151
                      obtain rfl : ad149 = ad151 := (by injection e151)
                      replace hx151_0 := (HB.out.cell (World.block_lt_of_cell? w _ hx151_0)).trans hx151_0
                      replace hx151_1 := (HB.out.cell (World.block_lt_of_cell? w _ hx151_1)).trans hx151_1
                      replace hx151_2 := (HB.out.cell (World.block_lt_of_cell? w _ hx151_2)).trans hx151_2
                      replace hx151_3 := (HB.out.cell (World.block_lt_of_cell? w _ hx151_3)).trans hx151_3
                      replace hx151_4 := (HB.out.cell (World.block_lt_of_cell? w _ hx151_4)).trans hx151_4
                      replace p151 := eq_true p151
                      replace q151 := eq_true q151
                      go_wp2_with (first | ((with_reducible refine gate_load (t := 66) rfl ?_); refine load_at2 (t := 66) ?hg ?ho (c0 := _) (cs := [_, _, _, _]) Try.underlying66 rfl (by kernel_rfl) hx151_0 ⟨hx151_1, hx151_2, hx151_3, hx151_4, trivial⟩ ?_; (case hg => rfl); (case ho => refine ⟨_, rfl, ?_⟩; first | (with_reducible rfl) | (go_simp; done))) | ((with_reducible refine gate_load (t := 56) rfl ?_); refine load_row3 (t := 56) (g := gb148) ?hg BK148.out ?ho ?hb Try.underlying56 rfl ?hs ?_; (case hg => rfl); (case ho => refine ⟨_, rfl, ?_⟩; first | (with_reducible rfl) | (go_simp; done)); (case hb => (with_reducible repeat (first | refine blk_drewN ?_ _ | refine blk_drew ?_ | refine blk_alloc ?_ _)); with_reducible exact BK148.out); (case hs => kernel_rfl)) | ((with_reducible refine gate_load (t := 66) rfl ?_); refine load_row3 (t := 66) (g := gb150) ?hg BK150.out ?ho ?hb Try.underlying66 rfl ?hs ?_; (case hg => rfl); (case ho => refine ⟨_, rfl, ?_⟩; first | (with_reducible rfl) | (go_simp; done)); (case hb => (with_reducible repeat (first | refine blk_drewN ?_ _ | refine blk_drew ?_ | refine blk_alloc ?_ _)); with_reducible exact BK150.out); (case hs => kernel_rfl)) | ((with_reducible refine gate_load (t := 66) rfl ?_); refine load_row3 (t := 66) (g := gb152) ?hg BK152.out ?ho ?hb Try.underlying66 rfl ?hs ?_; (case hg => rfl); (case ho => refine ⟨_, rfl, ?_⟩; first | (with_reducible rfl) | (go_simp; done)); (case hb => (with_reducible repeat (first | refine blk_drewN ?_ _ | refine blk_drew ?_ | refine blk_alloc ?_ _)); with_reducible exact BK152.out); (case hs => kernel_rfl)) | ((with_reducible refine gate_dst (N := 9) rfl ?_); refine box_event ?hg (N := 9) ?hd (cs := #[.int .i64 0, .string (⟨#[]⟩ : ByteArray), .string (⟨#[]⟩ : ByteArray), .int .i64 0, .int .i64 0]) (t := 66) ?hr ?_; (case hd => rfl); (case hg => rfl); (case hr => first | (go_simp; done) | (go_simp; rfl)); intro gb152 hg w37 hbox hb; have n0_ := Aside0.mk (blk_below (blk_y BK148.out) hb); have n1_ := Aside0.mk (blk_below (blk_y BK150.out) hb); have n2_ := Aside0.mk (below_step (below_y HB.out) hb); have n3_ := Aside0.mk (hbox); have n4_ := Aside0.mk ((by rw [hg]; exact (below_size (below_y HB.out)) : w.heap.size ≤ gb152)); have n5_ := Aside0.mk ((by rw [hg]; exact (below_size (below_y HB.out)) : w.heap.size ≤ gb152)); have n6_ := Aside0.mk ((by rw [hg]; exact Nat.ne_of_lt (blk_lt (blk_y BK148.out)) : gb148 ≠ gb152)); have n7_ := Aside0.mk ((by rw [hg]; exact Nat.ne_of_gt (blk_lt (blk_y BK148.out)) : gb152 ≠ gb148)); have n8_ := Aside0.mk ((by rw [hg]; exact Nat.ne_of_lt (blk_lt (blk_y BK150.out)) : gb150 ≠ gb152)); have n9_ := Aside0.mk ((by rw [hg]; exact Nat.ne_of_gt (blk_lt (blk_y BK150.out)) : gb152 ≠ gb150)); clear BK148; clear BK150; clear HB; have BK148 := n0_; have BK150 := n1_; have HB := n2_; have BK152 := n3_; have GW152 := n4_; have GE152 := n5_; have NB148_152 := n6_; have NB152_148 := n7_; have NB150_152 := n8_; have NB152_150 := n9_; clear n0_ n1_ n2_ n3_ n4_ n5_ n6_ n7_ n8_ n9_; clear hb hbox hg; have hnb38 := NB152_148.out; have hnc38 := NB148_152.out; have hnb39 := NB152_150.out; have hnc39 := NB150_152.out; have hcz40_0 : w37.cell? ⟨gb152, 0, none⟩ = some (.int .i64 0) := (blk_cell BK152.out 0).trans rfl; have hcz40_1 : w37.cell? ⟨gb152, 1, none⟩ = some (.string (⟨#[]⟩ : ByteArray)) := (blk_cell BK152.out 1).trans rfl; have hcz40_2 : w37.cell? ⟨gb152, 2, none⟩ = some (.string (⟨#[]⟩ : ByteArray)) := (blk_cell BK152.out 2).trans rfl; have hcz40_3 : w37.cell? ⟨gb152, 3, none⟩ = some (.int .i64 0) := (blk_cell BK152.out 3).trans rfl; have hcz40_4 : w37.cell? ⟨gb152, 4, none⟩ = some (.int .i64 0) := (blk_cell BK152.out 4).trans rfl; have hfz40_0 := blk_frozen BK152.out 0; have hfz40_1 := blk_frozen BK152.out 1; have hfz40_2 := blk_frozen BK152.out 2; have hfz40_3 := blk_frozen BK152.out 3; have hfz40_4 := blk_frozen BK152.out 4) | ((with_reducible refine gate_store (t := 66) (p := 9) rfl ?_); refine store_whole2 (t := 66) (g := gb152) ?hg ?hn (cells := #[.int .i64 ((rd_T66 l0_4 x8_1).f0), .string ((rd_T66 l0_4 x8_1).f1), .string ((rd_T66 l0_4 x8_1).f2), .int .i64 ((rd_T66 l0_4 x8_1).f3), .int .i64 ((rd_T66 l0_4 x8_1).f4)]) ?ho (blk_y BK152.out) (by kernel_rfl) rfl ?h1 ?_; (case hg => rfl); (case hn => rfl); (case ho => refine ⟨_, _, rfl, ?_, ?_⟩; all_goals (first | (with_reducible rfl) | (go_simp; done) | rfl | (go_simp; rfl))); (case h1 => first | rfl | simp [Value.oneCell']); intro w41 hw; have hg : w37.grownBy w41 (some gb152) := (by rw [hw]; exact grown_setRow _ _ _); have n0_ := Aside0.mk ((by rw [hw]; exact (setRow_other _ _ _ _ NB148_152.out).trans (blk_y BK148.out) : w41.heap[gb148]? = some (.cells #[.int .i64 a0_0, .int .i64 a0_1, .int .i64 a0_2, .int .i64 a0_3, .slice (some ad149) l0_4.length c0_4, .slice A0_5 l0_5.length c0_5] 56 (0, 0)))); have n1_ := Aside0.mk ((by rw [hw]; exact (setRow_other _ _ _ _ NB150_152.out).trans (blk_y BK150.out) : w41.heap[gb150]? = some (.cells #[.int .i64 ((rd_T66 l0_4 a1).f0), .string ((rd_T66 l0_4 a1).f1), .string ((rd_T66 l0_4 a1).f2), .int .i64 ((rd_T66 l0_4 a1).f3), .int .i64 ((rd_T66 l0_4 a1).f4)] 66 (0, 0)))); have n2_ := Aside0.mk ((by rw [hw]; exact setRow_heap _ _ _ _ _ _ (blk_y BK152.out) : w41.heap[gb152]? = some (.cells #[.int .i64 ((rd_T66 l0_4 x8_1).f0), .string ((rd_T66 l0_4 x8_1).f1), .string ((rd_T66 l0_4 x8_1).f2), .int .i64 ((rd_T66 l0_4 x8_1).f3), .int .i64 ((rd_T66 l0_4 x8_1).f4)] 66 (0, 0)))); have n3_ := Aside0.mk ((by rw [hw]; exact below_setRow (below_y HB.out) GE152.out _ : Below w.heap.size w w41)); clear BK148; clear BK150; clear BK152; clear HB; have BK148 := n0_; have BK150 := n1_; have BK152 := n2_; have HB := n3_; clear n0_ n1_ n2_ n3_; clear hg hw; have hcz42_0 : w41.cell? ⟨gb152, 0, none⟩ = some (.int .i64 ((rd_T66 l0_4 x8_1).f0)) := (blk_cell BK152.out 0).trans rfl; have hcz42_1 : w41.cell? ⟨gb152, 1, none⟩ = some (.string ((rd_T66 l0_4 x8_1).f1)) := (blk_cell BK152.out 1).trans rfl; have hcz42_2 : w41.cell? ⟨gb152, 2, none⟩ = some (.string ((rd_T66 l0_4 x8_1).f2)) := (blk_cell BK152.out 2).trans rfl; have hcz42_3 : w41.cell? ⟨gb152, 3, none⟩ = some (.int .i64 ((rd_T66 l0_4 x8_1).f3)) := (blk_cell BK152.out 3).trans rfl; have hcz42_4 : w41.cell? ⟨gb152, 4, none⟩ = some (.int .i64 ((rd_T66 l0_4 x8_1).f4)) := (blk_cell BK152.out 4).trans rfl; have hfz42_0 := blk_frozen BK152.out 0; have hfz42_1 := blk_frozen BK152.out 1; have hfz42_2 := blk_frozen BK152.out 2; have hfz42_3 := blk_frozen BK152.out 3; have hfz42_4 := blk_frozen BK152.out 4; have hcz43_0 : w41.cell? ⟨gb150, 0, none⟩ = some (.int .i64 ((rd_T66 l0_4 a1).f0)) := (blk_cell BK150.out 0).trans rfl; have hcz43_1 : w41.cell? ⟨gb150, 1, none⟩ = some (.string ((rd_T66 l0_4 a1).f1)) := (blk_cell BK150.out 1).trans rfl; have hcz43_2 : w41.cell? ⟨gb150, 2, none⟩ = some (.string ((rd_T66 l0_4 a1).f2)) := (blk_cell BK150.out 2).trans rfl; have hcz43_3 : w41.cell? ⟨gb150, 3, none⟩ = some (.int .i64 ((rd_T66 l0_4 a1).f3)) := (blk_cell BK150.out 3).trans rfl; have hcz43_4 : w41.cell? ⟨gb150, 4, none⟩ = some (.int .i64 ((rd_T66 l0_4 a1).f4)) := (blk_cell BK150.out 4).trans rfl; have hfz43_0 := blk_frozen BK150.out 0; have hfz43_1 := blk_frozen BK150.out 1; have hfz43_2 := blk_frozen BK150.out 2; have hfz43_3 := blk_frozen BK150.out 3; have hfz43_4 := blk_frozen BK150.out 4))
                      go_roundg k1
                      case measure => have := HK1.out; omega
                      case rel => exact ⟨(wrap64 (x8_1 + 1)), (by first | rfl | (simp; done) | (simp [*]; done)), H', ⟨by have := HK1.out; omega⟩, ⟨by (with_reducible repeat (first | refine blk_drewN ?_ _ | refine blk_drew ?_ | refine blk_alloc ?_ _)); exact BK148.out⟩, ⟨by (with_reducible repeat (first | refine blk_drewN ?_ _ | refine blk_drew ?_ | refine blk_alloc ?_ _)); exact BK150.out⟩, ⟨by repeat (first | (with_reducible first | exact HB.out | apply below_alloc | apply pw_below_drewN | apply below_drew1 | refine below_set ?_ GE148.out | refine below_set ?_ GE150.out | refine below_set ?_ GE152.out) | exact HB.out)⟩⟩
                · rw [if_neg c24] at H
                  have c24b0 : (((rd_T66 l0_4 x8_1).f3) == ((rd_T66 l0_4 a1).f3)) = false := beq_eq_false_iff_ne.mpr c24
                  have c24b1 : (((rd_T66 l0_4 x8_1).f3) != ((rd_T66 l0_4 a1).f3)) = true := bne_iff_ne.mpr c24
                  as_aux_lemma =>
                    have H' := Aside0.mk H
                    clear H
                    have hnb44 := NB148_150.out
                    have hnc44 := NB150_148.out
                    have hcz45_0 : wr.cell? ⟨gb148, 0, none⟩ = some (.int .i64 a0_0) := (blk_cell BK148.out 0).trans rfl
                    have hcz45_1 : wr.cell? ⟨gb148, 1, none⟩ = some (.int .i64 a0_1) := (blk_cell BK148.out 1).trans rfl
                    have hcz45_2 : wr.cell? ⟨gb148, 2, none⟩ = some (.int .i64 a0_2) := (blk_cell BK148.out 2).trans rfl
                    have hcz45_3 : wr.cell? ⟨gb148, 3, none⟩ = some (.int .i64 a0_3) := (blk_cell BK148.out 3).trans rfl
                    have hcz45_4 : wr.cell? ⟨gb148, 4, none⟩ = some (.slice (some ad149) l0_4.length c0_4) := (blk_cell BK148.out 4).trans rfl
                    have hcz45_5 : wr.cell? ⟨gb148, 5, none⟩ = some (.slice A0_5 l0_5.length c0_5) := (blk_cell BK148.out 5).trans rfl
                    have hfz45_0 := blk_frozen BK148.out 0
                    have hfz45_1 := blk_frozen BK148.out 1
                    have hfz45_2 := blk_frozen BK148.out 2
                    have hfz45_3 := blk_frozen BK148.out 3
                    have hfz45_4 := blk_frozen BK148.out 4
                    have hfz45_5 := blk_frozen BK148.out 5
                    have p151 : 0 ≤ (x8_1 : Int) := of_decide_eq_true (by first | (with_reducible assumption) | assumption)
                    have q151 : x8_1 < (l0_4.length : Int) := of_decide_eq_true (by first | (with_reducible assumption) | assumption)
                    obtain ⟨ad151, e151, hx151_0, hx151_1, hx151_2, hx151_3, hx151_4⟩ := at_T66 HR0_4.out x8_1 p151 q151
                    obtain rfl : ad149 = ad151 := (by injection e151)
                    replace hx151_0 := (HB.out.cell (World.block_lt_of_cell? w _ hx151_0)).trans hx151_0
                    replace hx151_1 := (HB.out.cell (World.block_lt_of_cell? w _ hx151_1)).trans hx151_1
                    replace hx151_2 := (HB.out.cell (World.block_lt_of_cell? w _ hx151_2)).trans hx151_2
                    replace hx151_3 := (HB.out.cell (World.block_lt_of_cell? w _ hx151_3)).trans hx151_3
                    replace hx151_4 := (HB.out.cell (World.block_lt_of_cell? w _ hx151_4)).trans hx151_4
                    replace p151 := eq_true p151
                    replace q151 := eq_true q151
                    go_wp2_with (first | ((with_reducible refine gate_load (t := 66) rfl ?_); refine load_at2 (t := 66) ?hg ?ho (c0 := _) (cs := [_, _, _, _]) Try.underlying66 rfl (by kernel_rfl) hx151_0 ⟨hx151_1, hx151_2, hx151_3, hx151_4, trivial⟩ ?_; (case hg => rfl); (case ho => refine ⟨_, rfl, ?_⟩; first | (with_reducible rfl) | (go_simp; done))) | ((with_reducible refine gate_load (t := 56) rfl ?_); refine load_row3 (t := 56) (g := gb148) ?hg BK148.out ?ho ?hb Try.underlying56 rfl ?hs ?_; (case hg => rfl); (case ho => refine ⟨_, rfl, ?_⟩; first | (with_reducible rfl) | (go_simp; done)); (case hb => (with_reducible repeat (first | refine blk_drewN ?_ _ | refine blk_drew ?_ | refine blk_alloc ?_ _)); with_reducible exact BK148.out); (case hs => kernel_rfl)) | ((with_reducible refine gate_load (t := 66) rfl ?_); refine load_row3 (t := 66) (g := gb150) ?hg BK150.out ?ho ?hb Try.underlying66 rfl ?hs ?_; (case hg => rfl); (case ho => refine ⟨_, rfl, ?_⟩; first | (with_reducible rfl) | (go_simp; done)); (case hb => (with_reducible repeat (first | refine blk_drewN ?_ _ | refine blk_drew ?_ | refine blk_alloc ?_ _)); with_reducible exact BK150.out); (case hs => kernel_rfl)) | ((with_reducible refine gate_load (t := 66) rfl ?_); refine load_row3 (t := 66) (g := gb152) ?hg BK152.out ?ho ?hb Try.underlying66 rfl ?hs ?_; (case hg => rfl); (case ho => refine ⟨_, rfl, ?_⟩; first | (with_reducible rfl) | (go_simp; done)); (case hb => (with_reducible repeat (first | refine blk_drewN ?_ _ | refine blk_drew ?_ | refine blk_alloc ?_ _)); with_reducible exact BK152.out); (case hs => kernel_rfl)) | ((with_reducible refine gate_dst (N := 9) rfl ?_); refine box_event ?hg (N := 9) ?hd (cs := #[.int .i64 0, .string (⟨#[]⟩ : ByteArray), .string (⟨#[]⟩ : ByteArray), .int .i64 0, .int .i64 0]) (t := 66) ?hr ?_; (case hd => rfl); (case hg => rfl); (case hr => first | (go_simp; done) | (go_simp; rfl)); intro gb152 hg w46 hbox hb; have n0_ := Aside0.mk (blk_below (blk_y BK148.out) hb); have n1_ := Aside0.mk (blk_below (blk_y BK150.out) hb); have n2_ := Aside0.mk (below_step (below_y HB.out) hb); have n3_ := Aside0.mk (hbox); have n4_ := Aside0.mk ((by rw [hg]; exact (below_size (below_y HB.out)) : w.heap.size ≤ gb152)); have n5_ := Aside0.mk ((by rw [hg]; exact (below_size (below_y HB.out)) : w.heap.size ≤ gb152)); have n6_ := Aside0.mk ((by rw [hg]; exact Nat.ne_of_lt (blk_lt (blk_y BK148.out)) : gb148 ≠ gb152)); have n7_ := Aside0.mk ((by rw [hg]; exact Nat.ne_of_gt (blk_lt (blk_y BK148.out)) : gb152 ≠ gb148)); have n8_ := Aside0.mk ((by rw [hg]; exact Nat.ne_of_lt (blk_lt (blk_y BK150.out)) : gb150 ≠ gb152)); have n9_ := Aside0.mk ((by rw [hg]; exact Nat.ne_of_gt (blk_lt (blk_y BK150.out)) : gb152 ≠ gb150)); clear BK148; clear BK150; clear HB; have BK148 := n0_; have BK150 := n1_; have HB := n2_; have BK152 := n3_; have GW152 := n4_; have GE152 := n5_; have NB148_152 := n6_; have NB152_148 := n7_; have NB150_152 := n8_; have NB152_150 := n9_; clear n0_ n1_ n2_ n3_ n4_ n5_ n6_ n7_ n8_ n9_; clear hb hbox hg; have hnb47 := NB152_148.out; have hnc47 := NB148_152.out; have hnb48 := NB152_150.out; have hnc48 := NB150_152.out; have hcz49_0 : w46.cell? ⟨gb152, 0, none⟩ = some (.int .i64 0) := (blk_cell BK152.out 0).trans rfl; have hcz49_1 : w46.cell? ⟨gb152, 1, none⟩ = some (.string (⟨#[]⟩ : ByteArray)) := (blk_cell BK152.out 1).trans rfl; have hcz49_2 : w46.cell? ⟨gb152, 2, none⟩ = some (.string (⟨#[]⟩ : ByteArray)) := (blk_cell BK152.out 2).trans rfl; have hcz49_3 : w46.cell? ⟨gb152, 3, none⟩ = some (.int .i64 0) := (blk_cell BK152.out 3).trans rfl; have hcz49_4 : w46.cell? ⟨gb152, 4, none⟩ = some (.int .i64 0) := (blk_cell BK152.out 4).trans rfl; have hfz49_0 := blk_frozen BK152.out 0; have hfz49_1 := blk_frozen BK152.out 1; have hfz49_2 := blk_frozen BK152.out 2; have hfz49_3 := blk_frozen BK152.out 3; have hfz49_4 := blk_frozen BK152.out 4) | ((with_reducible refine gate_store (t := 66) (p := 9) rfl ?_); refine store_whole2 (t := 66) (g := gb152) ?hg ?hn (cells := #[.int .i64 ((rd_T66 l0_4 x8_1).f0), .string ((rd_T66 l0_4 x8_1).f1), .string ((rd_T66 l0_4 x8_1).f2), .int .i64 ((rd_T66 l0_4 x8_1).f3), .int .i64 ((rd_T66 l0_4 x8_1).f4)]) ?ho (blk_y BK152.out) (by kernel_rfl) rfl ?h1 ?_; (case hg => rfl); (case hn => rfl); (case ho => refine ⟨_, _, rfl, ?_, ?_⟩; all_goals (first | (with_reducible rfl) | (go_simp; done) | rfl | (go_simp; rfl))); (case h1 => first | rfl | simp [Value.oneCell']); intro w50 hw; have hg : w46.grownBy w50 (some gb152) := (by rw [hw]; exact grown_setRow _ _ _); have n0_ := Aside0.mk ((by rw [hw]; exact (setRow_other _ _ _ _ NB148_152.out).trans (blk_y BK148.out) : w50.heap[gb148]? = some (.cells #[.int .i64 a0_0, .int .i64 a0_1, .int .i64 a0_2, .int .i64 a0_3, .slice (some ad149) l0_4.length c0_4, .slice A0_5 l0_5.length c0_5] 56 (0, 0)))); have n1_ := Aside0.mk ((by rw [hw]; exact (setRow_other _ _ _ _ NB150_152.out).trans (blk_y BK150.out) : w50.heap[gb150]? = some (.cells #[.int .i64 ((rd_T66 l0_4 a1).f0), .string ((rd_T66 l0_4 a1).f1), .string ((rd_T66 l0_4 a1).f2), .int .i64 ((rd_T66 l0_4 a1).f3), .int .i64 ((rd_T66 l0_4 a1).f4)] 66 (0, 0)))); have n2_ := Aside0.mk ((by rw [hw]; exact setRow_heap _ _ _ _ _ _ (blk_y BK152.out) : w50.heap[gb152]? = some (.cells #[.int .i64 ((rd_T66 l0_4 x8_1).f0), .string ((rd_T66 l0_4 x8_1).f1), .string ((rd_T66 l0_4 x8_1).f2), .int .i64 ((rd_T66 l0_4 x8_1).f3), .int .i64 ((rd_T66 l0_4 x8_1).f4)] 66 (0, 0)))); have n3_ := Aside0.mk ((by rw [hw]; exact below_setRow (below_y HB.out) GE152.out _ : Below w.heap.size w w50)); clear BK148; clear BK150; clear BK152; clear HB; have BK148 := n0_; have BK150 := n1_; have BK152 := n2_; have HB := n3_; clear n0_ n1_ n2_ n3_; clear hg hw; have hcz51_0 : w50.cell? ⟨gb152, 0, none⟩ = some (.int .i64 ((rd_T66 l0_4 x8_1).f0)) := (blk_cell BK152.out 0).trans rfl; have hcz51_1 : w50.cell? ⟨gb152, 1, none⟩ = some (.string ((rd_T66 l0_4 x8_1).f1)) := (blk_cell BK152.out 1).trans rfl; have hcz51_2 : w50.cell? ⟨gb152, 2, none⟩ = some (.string ((rd_T66 l0_4 x8_1).f2)) := (blk_cell BK152.out 2).trans rfl; have hcz51_3 : w50.cell? ⟨gb152, 3, none⟩ = some (.int .i64 ((rd_T66 l0_4 x8_1).f3)) := (blk_cell BK152.out 3).trans rfl; have hcz51_4 : w50.cell? ⟨gb152, 4, none⟩ = some (.int .i64 ((rd_T66 l0_4 x8_1).f4)) := (blk_cell BK152.out 4).trans rfl; have hfz51_0 := blk_frozen BK152.out 0; have hfz51_1 := blk_frozen BK152.out 1; have hfz51_2 := blk_frozen BK152.out 2; have hfz51_3 := blk_frozen BK152.out 3; have hfz51_4 := blk_frozen BK152.out 4; have hcz52_0 : w50.cell? ⟨gb150, 0, none⟩ = some (.int .i64 ((rd_T66 l0_4 a1).f0)) := (blk_cell BK150.out 0).trans rfl; have hcz52_1 : w50.cell? ⟨gb150, 1, none⟩ = some (.string ((rd_T66 l0_4 a1).f1)) := (blk_cell BK150.out 1).trans rfl; have hcz52_2 : w50.cell? ⟨gb150, 2, none⟩ = some (.string ((rd_T66 l0_4 a1).f2)) := (blk_cell BK150.out 2).trans rfl; have hcz52_3 : w50.cell? ⟨gb150, 3, none⟩ = some (.int .i64 ((rd_T66 l0_4 a1).f3)) := (blk_cell BK150.out 3).trans rfl; have hcz52_4 : w50.cell? ⟨gb150, 4, none⟩ = some (.int .i64 ((rd_T66 l0_4 a1).f4)) := (blk_cell BK150.out 4).trans rfl; have hfz52_0 := blk_frozen BK150.out 0; have hfz52_1 := blk_frozen BK150.out 1; have hfz52_2 := blk_frozen BK150.out 2; have hfz52_3 := blk_frozen BK150.out 3; have hfz52_4 := blk_frozen BK150.out 4))
                    go_roundg k1
                    case measure => have := HK1.out; omega
                    case rel => exact ⟨(wrap64 (x8_1 + 1)), (by first | rfl | (simp; done) | (simp [*]; done)), H', ⟨by have := HK1.out; omega⟩, ⟨by (with_reducible repeat (first | refine blk_drewN ?_ _ | refine blk_drew ?_ | refine blk_alloc ?_ _)); exact BK148.out⟩, ⟨by (with_reducible repeat (first | refine blk_drewN ?_ _ | refine blk_drew ?_ | refine blk_alloc ?_ _)); exact BK150.out⟩, ⟨by repeat (first | (with_reducible first | exact HB.out | apply below_alloc | apply pw_below_drewN | apply below_drew1 | refine below_set ?_ GE148.out | refine below_set ?_ GE150.out | refine below_set ?_ GE152.out) | exact HB.out)⟩⟩
            · rw [if_neg c13] at H
              exact absurd H (by simp)
          · rw [if_neg c12] at H
            have c12b0 : decide (x8_1 < (l0_4.length : Int)) = false := decide_eq_false c12
            clear c12
            as_aux_lemma =>
              obtain rfl := Option.some.inj H
              have hnb53 := NB148_150.out
              have hnc53 := NB150_148.out
              have hcz54_0 : wr.cell? ⟨gb148, 0, none⟩ = some (.int .i64 a0_0) := (blk_cell BK148.out 0).trans rfl
              have hcz54_1 : wr.cell? ⟨gb148, 1, none⟩ = some (.int .i64 a0_1) := (blk_cell BK148.out 1).trans rfl
              have hcz54_2 : wr.cell? ⟨gb148, 2, none⟩ = some (.int .i64 a0_2) := (blk_cell BK148.out 2).trans rfl
              have hcz54_3 : wr.cell? ⟨gb148, 3, none⟩ = some (.int .i64 a0_3) := (blk_cell BK148.out 3).trans rfl
              have hcz54_4 : wr.cell? ⟨gb148, 4, none⟩ = some (.slice (some ad149) l0_4.length c0_4) := (blk_cell BK148.out 4).trans rfl
              have hcz54_5 : wr.cell? ⟨gb148, 5, none⟩ = some (.slice A0_5 l0_5.length c0_5) := (blk_cell BK148.out 5).trans rfl
              have hfz54_0 := blk_frozen BK148.out 0
              have hfz54_1 := blk_frozen BK148.out 1
              have hfz54_2 := blk_frozen BK148.out 2
              have hfz54_3 := blk_frozen BK148.out 3
              have hfz54_4 := blk_frozen BK148.out 4
              have hfz54_5 := blk_frozen BK148.out 5
              have hcz55_0 : wr.cell? ⟨gb150, 0, none⟩ = some (.int .i64 ((rd_T66 l0_4 a1).f0)) := (blk_cell BK150.out 0).trans rfl
              have hcz55_1 : wr.cell? ⟨gb150, 1, none⟩ = some (.string ((rd_T66 l0_4 a1).f1)) := (blk_cell BK150.out 1).trans rfl
              have hcz55_2 : wr.cell? ⟨gb150, 2, none⟩ = some (.string ((rd_T66 l0_4 a1).f2)) := (blk_cell BK150.out 2).trans rfl
              have hcz55_3 : wr.cell? ⟨gb150, 3, none⟩ = some (.int .i64 ((rd_T66 l0_4 a1).f3)) := (blk_cell BK150.out 3).trans rfl
              have hcz55_4 : wr.cell? ⟨gb150, 4, none⟩ = some (.int .i64 ((rd_T66 l0_4 a1).f4)) := (blk_cell BK150.out 4).trans rfl
              have hfz55_0 := blk_frozen BK150.out 0
              have hfz55_1 := blk_frozen BK150.out 1
              have hfz55_2 := blk_frozen BK150.out 2
              have hfz55_3 := blk_frozen BK150.out 3
              have hfz55_4 := blk_frozen BK150.out 4
              go_wp2_with (first | ((with_reducible refine gate_load (t := 56) rfl ?_); refine load_row3 (t := 56) (g := gb148) ?hg BK148.out ?ho ?hb Try.underlying56 rfl ?hs ?_; (case hg => rfl); (case ho => refine ⟨_, rfl, ?_⟩; first | (with_reducible rfl) | (go_simp; done)); (case hb => (with_reducible repeat (first | refine blk_drewN ?_ _ | refine blk_drew ?_ | refine blk_alloc ?_ _)); with_reducible exact BK148.out); (case hs => kernel_rfl)) | ((with_reducible refine gate_load (t := 66) rfl ?_); refine load_row3 (t := 66) (g := gb150) ?hg BK150.out ?ho ?hb Try.underlying66 rfl ?hs ?_; (case hg => rfl); (case ho => refine ⟨_, rfl, ?_⟩; first | (with_reducible rfl) | (go_simp; done)); (case hb => (with_reducible repeat (first | refine blk_drewN ?_ _ | refine blk_drew ?_ | refine blk_alloc ?_ _)); with_reducible exact BK150.out); (case hs => kernel_rfl)))
              go_ret
              exact ⟨by first | rfl | (simp [errW_none, errW_some] <;> rfl) | (simp [*, errW_none, errW_some] <;> rfl), by repeat (first | (with_reducible first | exact HB.out | apply below_alloc | apply pw_below_drewN | apply below_drew1 | refine below_set ?_ GE148.out | refine below_set ?_ GE150.out) | exact HB.out)⟩
    · rw [if_neg c5] at H
      exact absurd H (by simp)
  · rw [if_neg c4] at H
    exact absurd H (by simp)

end Go.Proofs.Ytkkikdjfigffhaa.XPit
