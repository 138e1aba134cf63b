-- By a program of this work (xprint.py) over the translation; Lean checks it.
import Derived.Test.YtkkikdjfigffhabXDirx0
import Derived.Test.YtkkikdjfigffhabXDirx1
import Derived.Test.YtkkikdjfigffhabXDirx27
namespace Go.Proofs.Ytkkikdjfigffhab.XDir
open Go.RowKit Go.Proofs.YtkkikdjfigffhabW.PrintWords Go.Proofs.YtkkikdjfigffhabW.PrintLast Go.Proofs.YtkkikdjfigffhabW.PrintMore
attribute [local go_sem] max2_int min2_int max_two min_two max_three min_three max_four min_four   -- for this text's walks alone
set_option linter.unusedVariables false
set_option linter.unusedSimpArgs false

attribute [local go_sem high] eqA69
/-! ### newsreelref10_Same: function 50 -/
def newsreelref10_Same.l0 : Nat → Int → List (S77) → List (S77) → List (S69) → List (S77) → List (S77) → List (S69) → Option (Bool)
  | 0, _, _, _, _, _, _, _ => none
  | k + 1, x5, x345000, x345001, x345002, x346000, x346001, x346002 => if x5 < (x345002.length : Int) then (if 0 ≤ x5 then (if x5 < (x346002.length : Int) then (if (!(((rd_T69 x345002 x5).f0) == ((rd_T69 x346002 x5).f0)) || (!((((rd_T69 x345002 x5).f1).toList) == (((rd_T69 x346002 x5).f1).toList)) || (!((((rd_T69 x345002 x5).f2).toList) == (((rd_T69 x346002 x5).f2).toList)) || (!(((rd_T69 x345002 x5).f3) == ((rd_T69 x346002 x5).f3)))))) = true then (some false) else (newsreelref10_Same.l0 k (wrap64 (x5 + 1)) x345000 x345001 x345002 x346000 x346001 x346002)) else (none)) else (none)) else ((newsreelref10_Entries.f k x345000 x346000).bind fun t348 => (if t348 = true then ((newsreelref10_Entries.f k x345001 x346001).bind fun t349 => (some t349)) else (some false)))
def newsreelref10_Same.f (k : Nat) (l0_0 : List (S77)) (l0_1 : List (S77)) (l0_2 : List (S69)) (l1_0 : List (S77)) (l1_1 : List (S77)) (l1_2 : List (S69)) : Option (Bool) := if (l0_2.length : Int) = (l1_2.length : Int) then (newsreelref10_Same.l0 k 0 l0_0 l0_1 l0_2 l1_0 l1_1 l1_2) else (some false)
theorem newsreelref10_Same.mono_l : ∀ k, (∀ y0 y1 y2 y3 y4 y5 y6, LeO (newsreelref10_Same.l0 k y0 y1 y2 y3 y4 y5 y6) (newsreelref10_Same.l0 (k + 1) y0 y1 y2 y3 y4 y5 y6))
  | 0 => fun _ _ _ _ _ _ _ r h => by simp [newsreelref10_Same.l0] at h
  | k + 1 => by
    have ih0 := newsreelref10_Same.mono_l k
    · intro y0 y1 y2 y3 y4 y5 y6
      unfold newsreelref10_Same.l0
      repeat' first
      | (with_reducible exact ih0 _ _ _ _ _ _ _)
      | (with_reducible exact newsreelref10_Entries.mono _ _ _)
      | (with_reducible exact LeO.refl _)
      | (with_reducible exact LeO.none _)
      | (with_reducible refine LeO.ite ?_ ?_)
      | (with_reducible refine LeO.bind ?_ (fun _ => ?_))
      | exact ih0 _ _ _ _ _ _ _
      | exact newsreelref10_Entries.mono _ _ _
      | exact LeO.none _
      | refine LeO.ite ?_ ?_
      | refine LeO.bind ?_ (fun _ => ?_)
theorem newsreelref10_Same.mono : ∀ a0 a1 a2 a3 a4 a5 k, LeO (newsreelref10_Same.f k a0 a1 a2 a3 a4 a5) (newsreelref10_Same.f (k + 1) a0 a1 a2 a3 a4 a5) := by
  intro a0 a1 a2 a3 a4 a5 k
  have ih0 := newsreelref10_Same.mono_l k
  unfold newsreelref10_Same.f
  repeat' first
      | (with_reducible exact ih0 _ _ _ _ _ _ _)
      | (with_reducible exact newsreelref10_Entries.mono _ _ _)
      | (with_reducible exact LeO.refl _)
      | (with_reducible exact LeO.none _)
      | (with_reducible refine LeO.ite ?_ ?_)
      | (with_reducible refine LeO.bind ?_ (fun _ => ?_))
      | exact ih0 _ _ _ _ _ _ _
      | exact newsreelref10_Entries.mono _ _ _
      | exact LeO.none _
      | refine LeO.ite ?_ ?_
      | refine LeO.bind ?_ (fun _ => ?_)
set_option maxHeartbeats 8000000 in
set_option maxRecDepth 100000 in
theorem newsreelref10_Same.calls (k : Nat) (A0_0 : Option Addr) (c0_0 : Nat) (l0_0 : List (S77)) (A0_1 : Option Addr) (c0_1 : Nat) (l0_1 : List (S77)) (A0_2 : Option Addr) (c0_2 : Nat) (l0_2 : List (S69)) (A1_0 : Option Addr) (c1_0 : Nat) (l1_0 : List (S77)) (A1_1 : Option Addr) (c1_1 : Nat) (l1_1 : List (S77)) (A1_2 : Option Addr) (c1_2 : Nat) (l1_2 : List (S69)) (r : Bool) (w : World) (hr0_0 : Kd.C k77 w A0_0 l0_0.length l0_0) (hc0_0 : l0_0.length ≤ c0_0) (hr0_1 : Kd.C k77 w A0_1 l0_1.length l0_1) (hc0_1 : l0_1.length ≤ c0_1) (hr0_2 : Kd.C k69 w A0_2 l0_2.length l0_2) (hc0_2 : l0_2.length ≤ c0_2) (hr1_0 : Kd.C k77 w A1_0 l1_0.length l1_0) (hc1_0 : l1_0.length ≤ c1_0) (hr1_1 : Kd.C k77 w A1_1 l1_1.length l1_1) (hc1_1 : l1_1.length ≤ c1_1) (hr1_2 : Kd.C k69 w A1_2 l1_2.length l1_2) (hc1_2 : l1_2.length ≤ c1_2) (h : newsreelref10_Same.f k l0_0 l0_1 l0_2 l1_0 l1_1 l1_2 = some r) :
    Calls Try.prog 50 #[.agg #[.slice A0_0 l0_0.length c0_0, .slice A0_1 l0_1.length c0_1, .slice A0_2 l0_2.length c0_2], .agg #[.slice A1_0 l1_0.length c1_0, .slice A1_1 l1_1.length c1_1, .slice A1_2 l1_2.length c1_2]] w fun e w' => e = .returned (.bool r) ∧ Below w.heap.size w w' := by
  have hu67 := Try.underlying67
  have hu69 := Try.underlying69
  have HR0_0 := Aside0.mk hr0_0
  have HC0_0 := Aside0.mk hc0_0
  clear hr0_0 hc0_0
  have HR0_1 := Aside0.mk hr0_1
  have HC0_1 := Aside0.mk hc0_1
  clear hr0_1 hc0_1
  have HR0_2 := Aside0.mk hr0_2
  have HC0_2 := Aside0.mk hc0_2
  clear hr0_2 hc0_2
  have HR1_0 := Aside0.mk hr1_0
  have HC1_0 := Aside0.mk hc1_0
  clear hr1_0 hc1_0
  have HR1_1 := Aside0.mk hr1_1
  have HC1_1 := Aside0.mk hc1_1
  clear hr1_1 hc1_1
  have HR1_2 := Aside0.mk hr1_2
  have HC1_2 := Aside0.mk hc1_2
  clear hr1_2 hc1_2
  have HB := Aside0.mk (Below.refl w.heap.size w)
  have H : (if (l0_2.length : Int) = (l1_2.length : Int) then (newsreelref10_Same.l0 k 0 l0_0 l0_1 l0_2 l1_0 l1_1 l1_2) else (some false)) = some r := h
  clear h
  by_cases c3 : (l0_2.length : Int) = (l1_2.length : Int)
  · rw [if_pos c3] at H
    have c3b0 : ((l0_2.length : Int) == (l1_2.length : Int)) = true := beq_iff_eq.mpr c3
    have c3b1 : ((l0_2.length : Int) != (l1_2.length : Int)) = false := bne_eq_false_iff_eq.mpr c3
    have c3b2 : (l0_2.length == l1_2.length) = true := by first | simpa using c3 | (simp at c3 ⊢; omega)
    clear c3
    have H' := Aside0.mk H
    clear H
    go_enter Try.func50, Try.ntmps50
    go_wp2_with (first | ((with_reducible refine gate_dst (N := 2) rfl ?_); refine box_event ?hg (N := 2) ?hd (cs := #[.slice A0_0 l0_0.length c0_0, .slice A0_1 l0_1.length c0_1, .slice A0_2 l0_2.length c0_2]) (t := 67) ?hr ?_; (case hd => rfl); (case hg => rfl); (case hr => first | (go_simp; done) | (go_simp; rfl)); intro gb344 hg w4 hbox hb; have n0_ := Aside0.mk (below_step (below_y HB.out) hb); have n1_ := Aside0.mk (hbox); have n2_ := Aside0.mk ((by rw [hg]; exact (below_size (below_y HB.out)) : w.heap.size ≤ gb344)); have n3_ := Aside0.mk ((by rw [hg]; exact (below_size (below_y HB.out)) : w.heap.size ≤ gb344)); clear HB; have HB := n0_; have BK344 := n1_; have GW344 := n2_; have GE344 := n3_; clear n0_ n1_ n2_ n3_; clear hb hbox hg) | ((with_reducible refine gate_dst (N := 3) rfl ?_); refine box_event ?hg (N := 3) ?hd (cs := #[.slice A1_0 l1_0.length c1_0, .slice A1_1 l1_1.length c1_1, .slice A1_2 l1_2.length c1_2]) (t := 67) ?hr ?_; (case hd => rfl); (case hg => rfl); (case hr => first | (go_simp; done) | (go_simp; rfl)); intro gb345 hg w5 hbox hb; have n0_ := Aside0.mk (blk_below (blk_y BK344.out) hb); have n1_ := Aside0.mk (below_step (below_y HB.out) hb); have n2_ := Aside0.mk (hbox); have n3_ := Aside0.mk ((by rw [hg]; exact (below_size (below_y HB.out)) : w.heap.size ≤ gb345)); have n4_ := Aside0.mk ((by rw [hg]; exact (below_size (below_y HB.out)) : w.heap.size ≤ gb345)); have n5_ := Aside0.mk ((by rw [hg]; exact Nat.ne_of_lt (blk_lt (blk_y BK344.out)) : gb344 ≠ gb345)); have n6_ := Aside0.mk ((by rw [hg]; exact Nat.ne_of_gt (blk_lt (blk_y BK344.out)) : gb345 ≠ gb344)); clear BK344; clear HB; have BK344 := n0_; have HB := n1_; have BK345 := n2_; have GW345 := n3_; have GE345 := n4_; have NB344_345 := n5_; have NB345_344 := n6_; clear n0_ n1_ n2_ n3_ n4_ n5_ n6_; clear hb hbox hg; have hnb6 := NB344_345.out; have hnc6 := NB345_344.out; have hcz7_0 := bc BK344.out 0 (.slice A0_0 l0_0.length c0_0) rfl; have hcz7_1 := bc BK344.out 1 (.slice A0_1 l0_1.length c0_1) rfl; have hcz7_2 := bc BK344.out 2 (.slice A0_2 l0_2.length c0_2) rfl; have hfz7_0 := blk_frozen BK344.out 0; have hfz7_1 := blk_frozen BK344.out 1; have hfz7_2 := blk_frozen BK344.out 2; have hcz8_0 := bc BK345.out 0 (.slice A1_0 l1_0.length c1_0) rfl; have hcz8_1 := bc BK345.out 1 (.slice A1_1 l1_1.length c1_1) rfl; have hcz8_2 := bc BK345.out 2 (.slice A1_2 l1_2.length c1_2) rfl; have hfz8_0 := blk_frozen BK345.out 0; have hfz8_1 := blk_frozen BK345.out 1; have hfz8_2 := blk_frozen BK345.out 2))
    repeat (go_quiet (first | ((with_reducible refine gate_dst (N := 2) rfl ?_); refine box_event ?hg (N := 2) ?hd (cs := #[.slice A0_0 l0_0.length c0_0, .slice A0_1 l0_1.length c0_1, .slice A0_2 l0_2.length c0_2]) (t := 67) ?hr ?_; (case hd => rfl); (case hg => rfl); (case hr => first | (go_simp; done) | (go_simp; rfl)); intro gb344 hg w4 hbox hb; have n0_ := Aside0.mk (below_step (below_y HB.out) hb); have n1_ := Aside0.mk (hbox); have n2_ := Aside0.mk ((by rw [hg]; exact (below_size (below_y HB.out)) : w.heap.size ≤ gb344)); have n3_ := Aside0.mk ((by rw [hg]; exact (below_size (below_y HB.out)) : w.heap.size ≤ gb344)); clear HB; have HB := n0_; have BK344 := n1_; have GW344 := n2_; have GE344 := n3_; clear n0_ n1_ n2_ n3_; clear hb hbox hg) | ((with_reducible refine gate_dst (N := 3) rfl ?_); refine box_event ?hg (N := 3) ?hd (cs := #[.slice A1_0 l1_0.length c1_0, .slice A1_1 l1_1.length c1_1, .slice A1_2 l1_2.length c1_2]) (t := 67) ?hr ?_; (case hd => rfl); (case hg => rfl); (case hr => first | (go_simp; done) | (go_simp; rfl)); intro gb345 hg w5 hbox hb; have n0_ := Aside0.mk (blk_below (blk_y BK344.out) hb); have n1_ := Aside0.mk (below_step (below_y HB.out) hb); have n2_ := Aside0.mk (hbox); have n3_ := Aside0.mk ((by rw [hg]; exact (below_size (below_y HB.out)) : w.heap.size ≤ gb345)); have n4_ := Aside0.mk ((by rw [hg]; exact (below_size (below_y HB.out)) : w.heap.size ≤ gb345)); have n5_ := Aside0.mk ((by rw [hg]; exact Nat.ne_of_lt (blk_lt (blk_y BK344.out)) : gb344 ≠ gb345)); have n6_ := Aside0.mk ((by rw [hg]; exact Nat.ne_of_gt (blk_lt (blk_y BK344.out)) : gb345 ≠ gb344)); clear BK344; clear HB; have BK344 := n0_; have HB := n1_; have BK345 := n2_; have GW345 := n3_; have GE345 := n4_; have NB344_345 := n5_; have NB345_344 := n6_; clear n0_ n1_ n2_ n3_ n4_ n5_ n6_; clear hb hbox hg; have hnb6 := NB344_345.out; have hnc6 := NB345_344.out; have hcz7_0 := bc BK344.out 0 (.slice A0_0 l0_0.length c0_0) rfl; have hcz7_1 := bc BK344.out 1 (.slice A0_1 l0_1.length c0_1) rfl; have hcz7_2 := bc BK344.out 2 (.slice A0_2 l0_2.length c0_2) rfl; have hfz7_0 := blk_frozen BK344.out 0; have hfz7_1 := blk_frozen BK344.out 1; have hfz7_2 := blk_frozen BK344.out 2; have hcz8_0 := bc BK345.out 0 (.slice A1_0 l1_0.length c1_0) rfl; have hcz8_1 := bc BK345.out 1 (.slice A1_1 l1_1.length c1_1) rfl; have hcz8_2 := bc BK345.out 2 (.slice A1_2 l1_2.length c1_2) rfl; have hfz8_0 := blk_frozen BK345.out 0; have hfz8_1 := blk_frozen BK345.out 1; have hfz8_2 := blk_frozen BK345.out 2)); try go_wp2_with (first | ((with_reducible refine gate_dst (N := 2) rfl ?_); refine box_event ?hg (N := 2) ?hd (cs := #[.slice A0_0 l0_0.length c0_0, .slice A0_1 l0_1.length c0_1, .slice A0_2 l0_2.length c0_2]) (t := 67) ?hr ?_; (case hd => rfl); (case hg => rfl); (case hr => first | (go_simp; done) | (go_simp; rfl)); intro gb344 hg w4 hbox hb; have n0_ := Aside0.mk (below_step (below_y HB.out) hb); have n1_ := Aside0.mk (hbox); have n2_ := Aside0.mk ((by rw [hg]; exact (below_size (below_y HB.out)) : w.heap.size ≤ gb344)); have n3_ := Aside0.mk ((by rw [hg]; exact (below_size (below_y HB.out)) : w.heap.size ≤ gb344)); clear HB; have HB := n0_; have BK344 := n1_; have GW344 := n2_; have GE344 := n3_; clear n0_ n1_ n2_ n3_; clear hb hbox hg) | ((with_reducible refine gate_dst (N := 3) rfl ?_); refine box_event ?hg (N := 3) ?hd (cs := #[.slice A1_0 l1_0.length c1_0, .slice A1_1 l1_1.length c1_1, .slice A1_2 l1_2.length c1_2]) (t := 67) ?hr ?_; (case hd => rfl); (case hg => rfl); (case hr => first | (go_simp; done) | (go_simp; rfl)); intro gb345 hg w5 hbox hb; have n0_ := Aside0.mk (blk_below (blk_y BK344.out) hb); have n1_ := Aside0.mk (below_step (below_y HB.out) hb); have n2_ := Aside0.mk (hbox); have n3_ := Aside0.mk ((by rw [hg]; exact (below_size (below_y HB.out)) : w.heap.size ≤ gb345)); have n4_ := Aside0.mk ((by rw [hg]; exact (below_size (below_y HB.out)) : w.heap.size ≤ gb345)); have n5_ := Aside0.mk ((by rw [hg]; exact Nat.ne_of_lt (blk_lt (blk_y BK344.out)) : gb344 ≠ gb345)); have n6_ := Aside0.mk ((by rw [hg]; exact Nat.ne_of_gt (blk_lt (blk_y BK344.out)) : gb345 ≠ gb344)); clear BK344; clear HB; have BK344 := n0_; have HB := n1_; have BK345 := n2_; have GW345 := n3_; have GE345 := n4_; have NB344_345 := n5_; have NB345_344 := n6_; clear n0_ n1_ n2_ n3_ n4_ n5_ n6_; clear hb hbox hg; have hnb6 := NB344_345.out; have hnc6 := NB345_344.out; have hcz7_0 := bc BK344.out 0 (.slice A0_0 l0_0.length c0_0) rfl; have hcz7_1 := bc BK344.out 1 (.slice A0_1 l0_1.length c0_1) rfl; have hcz7_2 := bc BK344.out 2 (.slice A0_2 l0_2.length c0_2) rfl; have hfz7_0 := blk_frozen BK344.out 0; have hfz7_1 := blk_frozen BK344.out 1; have hfz7_2 := blk_frozen BK344.out 2; have hcz8_0 := bc BK345.out 0 (.slice A1_0 l1_0.length c1_0) rfl; have hcz8_1 := bc BK345.out 1 (.slice A1_1 l1_1.length c1_1) rfl; have hcz8_2 := bc BK345.out 2 (.slice A1_2 l1_2.length c1_2) rfl; have hfz8_0 := blk_frozen BK345.out 0; have hfz8_1 := blk_frozen BK345.out 1; have hfz8_2 := blk_frozen BK345.out 2)))
    go_loopg [5] k (fun kq v5 w' => ∃ (x5_1 : Int), v5 = .int .i64 x5_1 ∧ Aside0 (newsreelref10_Same.l0 kq x5_1 l0_0 l0_1 l0_2 l1_0 l1_1 l1_2 = some r) ∧ Aside0 (kq ≤ k) ∧ Aside0 (w'.heap[gb344]? = some (.cells #[(.slice A0_0 l0_0.length c0_0), (.slice A0_1 l0_1.length c0_1), (.slice A0_2 l0_2.length c0_2)] 67 (0, 0))) ∧ Aside0 (w'.heap[gb345]? = some (.cells #[(.slice A1_0 l1_0.length c1_0), (.slice A1_1 l1_1.length c1_1), (.slice A1_2 l1_2.length c1_2)] 67 (0, 0))) ∧ Aside0 (Below w.heap.size w w'))
    case atStart => exact ⟨(0), (by first | rfl | (simp; done) | (simp [*]; done)), H', ⟨Nat.le_refl _⟩, ⟨by (with_reducible repeat (first | refine blk_drewN ?_ _ | refine blk_drew ?_ | refine blk_alloc ?_ _)); exact BK344.out⟩, ⟨by (with_reducible repeat (first | refine blk_drewN ?_ _ | refine blk_drew ?_ | refine blk_alloc ?_ _)); exact BK345.out⟩, ⟨by repeat (first | (with_reducible first | exact HB.out | apply below_alloc | apply pw_below_drewN | apply below_drew1 | refine below_set ?_ GE344.out | refine below_set ?_ GE345.out) | exact HB.out)⟩⟩
    case round =>
      clear H'
      try clear c1
      try clear p2
      try clear c3
      try clear c3b0
      try clear c3b1
      try clear c3b2
      try clear c5
      try clear c6
      try clear hcz7_0
      try clear hcz7_1
      try clear hcz7_2
      try clear hcz8_0
      try clear hcz8_1
      try clear hcz8_2
      try clear hfz7_0
      try clear hfz7_1
      try clear hfz7_2
      try clear hfz8_0
      try clear hfz8_1
      try clear hfz8_2
      obtain ⟨x5_1, rfl, HA, HK1, BK344, BK345, HB⟩ := hrel
      cases gk with
      | zero => exact absurd HA.out (by simp [newsreelref10_Same.l0])
      | succ k1 =>
        have H := HA.out
        clear HA
        simp only [newsreelref10_Same.l0] at H
        by_cases c9 : x5_1 < (l0_2.length : Int)
        · rw [if_pos c9] at H
          have c9b0 : decide (x5_1 < (l0_2.length : Int)) = true := decide_eq_true c9
          clear c9
          by_cases c10 : 0 ≤ x5_1
          · rw [if_pos c10] at H
            have c10b0 : decide (0 ≤ x5_1) = true := decide_eq_true c10
            clear c10
            by_cases c11 : x5_1 < (l1_2.length : Int)
            · rw [if_pos c11] at H
              have c11b0 : decide (x5_1 < (l1_2.length : Int)) = true := decide_eq_true c11
              clear c11
              by_cases c12 : (!(((rd_T69 l0_2 x5_1).f0) == ((rd_T69 l1_2 x5_1).f0)) || (!((((rd_T69 l0_2 x5_1).f1).toList) == (((rd_T69 l1_2 x5_1).f1).toList)) || (!((((rd_T69 l0_2 x5_1).f2).toList) == (((rd_T69 l1_2 x5_1).f2).toList)) || (!(((rd_T69 l0_2 x5_1).f3) == ((rd_T69 l1_2 x5_1).f3)))))) = true
              · rw [if_pos c12] at H
                have c12b0 : (!(((rd_T69 l0_2 x5_1).f0) == ((rd_T69 l1_2 x5_1).f0)) || (!((((rd_T69 l0_2 x5_1).f1).toList) == (((rd_T69 l1_2 x5_1).f1).toList)) || (!((((rd_T69 l0_2 x5_1).f2).toList) == (((rd_T69 l1_2 x5_1).f2).toList)) || (!(((rd_T69 l0_2 x5_1).f3) == ((rd_T69 l1_2 x5_1).f3)))))) = true := c12
                clear c12
                as_aux_lemma =>
                  obtain rfl := Option.some.inj H
                  have hnb13 := NB344_345.out
                  have hnc13 := NB345_344.out
                  have hcz14_0 := bc BK344.out 0 (.slice A0_0 l0_0.length c0_0) rfl
                  have hcz14_1 := bc BK344.out 1 (.slice A0_1 l0_1.length c0_1) rfl
                  have hcz14_2 := bc BK344.out 2 (.slice A0_2 l0_2.length c0_2) rfl
                  have hfz14_0 := blk_frozen BK344.out 0
                  have hfz14_1 := blk_frozen BK344.out 1
                  have hfz14_2 := blk_frozen BK344.out 2
                  have p346 : 0 ≤ (x5_1 : Int) := of_decide_eq_true (by first | (with_reducible assumption) | assumption)
                  have q346 : x5_1 < (l0_2.length : Int) := of_decide_eq_true (by first | (with_reducible assumption) | assumption)
                  obtain ⟨ad346, e346, hx346_0, hx346_1, hx346_2, hx346_3⟩ := at_T69 HR0_2.out x5_1 p346 q346
                  cases e346
                  replace hx346_0 := (HB.out.cell (World.block_lt_of_cell? w _ hx346_0)).trans hx346_0
                  replace hx346_1 := (HB.out.cell (World.block_lt_of_cell? w _ hx346_1)).trans hx346_1
                  replace hx346_2 := (HB.out.cell (World.block_lt_of_cell? w _ hx346_2)).trans hx346_2
                  replace hx346_3 := (HB.out.cell (World.block_lt_of_cell? w _ hx346_3)).trans hx346_3
                  replace p346 := eq_true p346
                  replace q346 := eq_true q346
                  have hcz15_0 := bc BK345.out 0 (.slice A1_0 l1_0.length c1_0) rfl
                  have hcz15_1 := bc BK345.out 1 (.slice A1_1 l1_1.length c1_1) rfl
                  have hcz15_2 := bc BK345.out 2 (.slice A1_2 l1_2.length c1_2) rfl
                  have hfz15_0 := blk_frozen BK345.out 0
                  have hfz15_1 := blk_frozen BK345.out 1
                  have hfz15_2 := blk_frozen BK345.out 2
                  have p347 : 0 ≤ (x5_1 : Int) := of_decide_eq_true (by first | (with_reducible assumption) | assumption)
                  have q347 : x5_1 < (l1_2.length : Int) := of_decide_eq_true (by first | (with_reducible assumption) | assumption)
                  obtain ⟨ad347, e347, hx347_0, hx347_1, hx347_2, hx347_3⟩ := at_T69 HR1_2.out x5_1 p347 q347
                  cases e347
                  replace hx347_0 := (HB.out.cell (World.block_lt_of_cell? w _ hx347_0)).trans hx347_0
                  replace hx347_1 := (HB.out.cell (World.block_lt_of_cell? w _ hx347_1)).trans hx347_1
                  replace hx347_2 := (HB.out.cell (World.block_lt_of_cell? w _ hx347_2)).trans hx347_2
                  replace hx347_3 := (HB.out.cell (World.block_lt_of_cell? w _ hx347_3)).trans hx347_3
                  replace p347 := eq_true p347
                  replace q347 := eq_true q347
                  go_wp2_with (first | ((with_reducible refine gate_load (t := 69) rfl ?_); refine load_at2 (t := 69) ?hg ?ho (c0 := _) (cs := [_, _, _]) Try.underlying69 rfl (by kernel_rfl) hx346_0 ⟨hx346_1, hx346_2, hx346_3, trivial⟩ ?_; (case hg => rfl); (case ho => refine ⟨_, rfl, ?_⟩; first | (with_reducible rfl) | (go_simp; done))) | ((with_reducible refine gate_load (t := 69) rfl ?_); refine load_at2 (t := 69) ?hg ?ho (c0 := _) (cs := [_, _, _]) Try.underlying69 rfl (by kernel_rfl) hx347_0 ⟨hx347_1, hx347_2, hx347_3, trivial⟩ ?_; (case hg => rfl); (case ho => refine ⟨_, rfl, ?_⟩; first | (with_reducible rfl) | (go_simp; done))))
                  repeat (go_quiet (fail); try go_wp2_with (first | ((with_reducible refine gate_load (t := 69) rfl ?_); refine load_at2 (t := 69) ?hg ?ho (c0 := _) (cs := [_, _, _]) Try.underlying69 rfl (by kernel_rfl) hx346_0 ⟨hx346_1, hx346_2, hx346_3, trivial⟩ ?_; (case hg => rfl); (case ho => refine ⟨_, rfl, ?_⟩; first | (with_reducible rfl) | (go_simp; done))) | ((with_reducible refine gate_load (t := 69) rfl ?_); refine load_at2 (t := 69) ?hg ?ho (c0 := _) (cs := [_, _, _]) Try.underlying69 rfl (by kernel_rfl) hx347_0 ⟨hx347_1, hx347_2, hx347_3, trivial⟩ ?_; (case hg => rfl); (case ho => refine ⟨_, rfl, ?_⟩; first | (with_reducible rfl) | (go_simp; done)))))
                  go_ret
                  exact ⟨by first | rfl | (simp [errW_none, errW_some] <;> rfl) | (simp [*, errW_none, errW_some] <;> rfl), by repeat (first | (with_reducible first | exact HB.out | apply below_alloc | apply pw_below_drewN | apply below_drew1 | refine below_set ?_ GE344.out | refine below_set ?_ GE345.out) | exact HB.out)⟩
              · rw [if_neg c12] at H
                have c12b0 : (!(((rd_T69 l0_2 x5_1).f0) == ((rd_T69 l1_2 x5_1).f0)) || (!((((rd_T69 l0_2 x5_1).f1).toList) == (((rd_T69 l1_2 x5_1).f1).toList)) || (!((((rd_T69 l0_2 x5_1).f2).toList) == (((rd_T69 l1_2 x5_1).f2).toList)) || (!(((rd_T69 l0_2 x5_1).f3) == ((rd_T69 l1_2 x5_1).f3)))))) = false := by simpa using c12
                clear c12
                as_aux_lemma =>
                  have H' := Aside0.mk H
                  clear H
                  have hnb16 := NB344_345.out
                  have hnc16 := NB345_344.out
                  have hcz17_0 := bc BK344.out 0 (.slice A0_0 l0_0.length c0_0) rfl
                  have hcz17_1 := bc BK344.out 1 (.slice A0_1 l0_1.length c0_1) rfl
                  have hcz17_2 := bc BK344.out 2 (.slice A0_2 l0_2.length c0_2) rfl
                  have hfz17_0 := blk_frozen BK344.out 0
                  have hfz17_1 := blk_frozen BK344.out 1
                  have hfz17_2 := blk_frozen BK344.out 2
                  have p346 : 0 ≤ (x5_1 : Int) := of_decide_eq_true (by first | (with_reducible assumption) | assumption)
                  have q346 : x5_1 < (l0_2.length : Int) := of_decide_eq_true (by first | (with_reducible assumption) | assumption)
                  obtain ⟨ad346, e346, hx346_0, hx346_1, hx346_2, hx346_3⟩ := at_T69 HR0_2.out x5_1 p346 q346
                  cases e346
                  replace hx346_0 := (HB.out.cell (World.block_lt_of_cell? w _ hx346_0)).trans hx346_0
                  replace hx346_1 := (HB.out.cell (World.block_lt_of_cell? w _ hx346_1)).trans hx346_1
                  replace hx346_2 := (HB.out.cell (World.block_lt_of_cell? w _ hx346_2)).trans hx346_2
                  replace hx346_3 := (HB.out.cell (World.block_lt_of_cell? w _ hx346_3)).trans hx346_3
                  replace p346 := eq_true p346
                  replace q346 := eq_true q346
                  have hcz18_0 := bc BK345.out 0 (.slice A1_0 l1_0.length c1_0) rfl
                  have hcz18_1 := bc BK345.out 1 (.slice A1_1 l1_1.length c1_1) rfl
                  have hcz18_2 := bc BK345.out 2 (.slice A1_2 l1_2.length c1_2) rfl
                  have hfz18_0 := blk_frozen BK345.out 0
                  have hfz18_1 := blk_frozen BK345.out 1
                  have hfz18_2 := blk_frozen BK345.out 2
                  have p347 : 0 ≤ (x5_1 : Int) := of_decide_eq_true (by first | (with_reducible assumption) | assumption)
                  have q347 : x5_1 < (l1_2.length : Int) := of_decide_eq_true (by first | (with_reducible assumption) | assumption)
                  obtain ⟨ad347, e347, hx347_0, hx347_1, hx347_2, hx347_3⟩ := at_T69 HR1_2.out x5_1 p347 q347
                  cases e347
                  replace hx347_0 := (HB.out.cell (World.block_lt_of_cell? w _ hx347_0)).trans hx347_0
                  replace hx347_1 := (HB.out.cell (World.block_lt_of_cell? w _ hx347_1)).trans hx347_1
                  replace hx347_2 := (HB.out.cell (World.block_lt_of_cell? w _ hx347_2)).trans hx347_2
                  replace hx347_3 := (HB.out.cell (World.block_lt_of_cell? w _ hx347_3)).trans hx347_3
                  replace p347 := eq_true p347
                  replace q347 := eq_true q347
                  go_wp2_with (first | ((with_reducible refine gate_load (t := 69) rfl ?_); refine load_at2 (t := 69) ?hg ?ho (c0 := _) (cs := [_, _, _]) Try.underlying69 rfl (by kernel_rfl) hx346_0 ⟨hx346_1, hx346_2, hx346_3, trivial⟩ ?_; (case hg => rfl); (case ho => refine ⟨_, rfl, ?_⟩; first | (with_reducible rfl) | (go_simp; done))) | ((with_reducible refine gate_load (t := 69) rfl ?_); refine load_at2 (t := 69) ?hg ?ho (c0 := _) (cs := [_, _, _]) Try.underlying69 rfl (by kernel_rfl) hx347_0 ⟨hx347_1, hx347_2, hx347_3, trivial⟩ ?_; (case hg => rfl); (case ho => refine ⟨_, rfl, ?_⟩; first | (with_reducible rfl) | (go_simp; done))))
                  repeat (go_quiet (fail); try go_wp2_with (first | ((with_reducible refine gate_load (t := 69) rfl ?_); refine load_at2 (t := 69) ?hg ?ho (c0 := _) (cs := [_, _, _]) Try.underlying69 rfl (by kernel_rfl) hx346_0 ⟨hx346_1, hx346_2, hx346_3, trivial⟩ ?_; (case hg => rfl); (case ho => refine ⟨_, rfl, ?_⟩; first | (with_reducible rfl) | (go_simp; done))) | ((with_reducible refine gate_load (t := 69) rfl ?_); refine load_at2 (t := 69) ?hg ?ho (c0 := _) (cs := [_, _, _]) Try.underlying69 rfl (by kernel_rfl) hx347_0 ⟨hx347_1, hx347_2, hx347_3, trivial⟩ ?_; (case hg => rfl); (case ho => refine ⟨_, rfl, ?_⟩; first | (with_reducible rfl) | (go_simp; done)))))
                  go_roundg k1
                  case measure => have := HK1.out; omega
                  case rel => exact ⟨(wrap64 (x5_1 + 1)), (by first | rfl | (simp; done) | (simp [*]; done)), H', ⟨by have := HK1.out; omega⟩, ⟨by (with_reducible repeat (first | refine blk_drewN ?_ _ | refine blk_drew ?_ | refine blk_alloc ?_ _)); exact BK344.out⟩, ⟨by (with_reducible repeat (first | refine blk_drewN ?_ _ | refine blk_drew ?_ | refine blk_alloc ?_ _)); exact BK345.out⟩, ⟨by repeat (first | (with_reducible first | exact HB.out | apply below_alloc | apply pw_below_drewN | apply below_drew1 | refine below_set ?_ GE344.out | refine below_set ?_ GE345.out) | exact HB.out)⟩⟩
            · rw [if_neg c11] at H
              exact absurd H (by simp)
          · rw [if_neg c10] at H
            exact absurd H (by simp)
        · rw [if_neg c9] at H
          have c9b0 : decide (x5_1 < (l0_2.length : Int)) = false := decide_eq_false c9
          clear c9
          replace H := Option.bind_eq_some_iff.mp H
          obtain ⟨t348, A190, H⟩ := H
          replace H : (if t348 = true then ((newsreelref10_Entries.f k1 l0_1 l1_1).bind fun t349 => (some t349)) else (some false)) = some r := H
          have A19 := Aside0.mk A190
          clear A190
          by_cases c20 : t348 = true
          · subst c20
            have H1 : ((newsreelref10_Entries.f k1 l0_1 l1_1).bind fun t349 => (some t349)) = some r := by rw [if_pos rfl] at H; exact H
            clear H
            have H := H1
            clear H1
            replace H := Option.bind_eq_some_iff.mp H
            obtain ⟨t349, A210, H⟩ := H
            replace H : (some t349) = some r := H
            have A21 := Aside0.mk A210
            clear A210
            as_aux_lemma =>
              obtain rfl := Option.some.inj H
              have hnb22 := NB344_345.out
              have hnc22 := NB345_344.out
              have hcz23_0 := bc BK344.out 0 (.slice A0_0 l0_0.length c0_0) rfl
              have hcz23_1 := bc BK344.out 1 (.slice A0_1 l0_1.length c0_1) rfl
              have hcz23_2 := bc BK344.out 2 (.slice A0_2 l0_2.length c0_2) rfl
              have hfz23_0 := blk_frozen BK344.out 0
              have hfz23_1 := blk_frozen BK344.out 1
              have hfz23_2 := blk_frozen BK344.out 2
              have hcz24_0 := bc BK345.out 0 (.slice A1_0 l1_0.length c1_0) rfl
              have hcz24_1 := bc BK345.out 1 (.slice A1_1 l1_1.length c1_1) rfl
              have hcz24_2 := bc BK345.out 2 (.slice A1_2 l1_2.length c1_2) rfl
              have hfz24_0 := blk_frozen BK345.out 0
              have hfz24_1 := blk_frozen BK345.out 1
              have hfz24_2 := blk_frozen BK345.out 2
              go_wp2_with (first | (go_at_call 56; (with_reducible refine (newsreelref10_Entries.calls k1 _ _ l0_0 _ _ l1_0 true _ ?side1 ?side2 ?side3 ?side4 A19.out).mono ?_); (case side1 => repeat (first | exact (Kd.C_below HR0_0.out HB.out) | exact HR0_0.out | (with_reducible refine Kd.C_alloc ?_ _) | (with_reducible refine Kd.C_drewN ?_ _) | (with_reducible refine Kd.C_drew ?_))); (case side2 => exact HC0_0.out); (case side3 => repeat (first | exact (Kd.C_below HR1_0.out HB.out) | exact HR1_0.out | (with_reducible refine Kd.C_alloc ?_ _) | (with_reducible refine Kd.C_drewN ?_ _) | (with_reducible refine Kd.C_drew ?_))); (case side4 => exact HC1_0.out); rintro e w' ⟨rfl, ⟨nd, rfl⟩⟩; (try first | exact ⟨rfl, _, World.drewN_drewN _ _ _⟩ | exact ⟨rfl, _, Eq.trans (World.drewN_drewN _ _ _) (congrArg (World.drewN _) (Nat.add_assoc _ _ _))⟩)) | (go_at_call 56; (with_reducible refine (newsreelref10_Entries.calls k1 _ _ l0_1 _ _ l1_1 t349 _ ?side1 ?side2 ?side3 ?side4 A21.out).mono ?_); (case side1 => exact Kd.C_y (Kd.C_below HR0_1.out (below_y HB.out))); (case side2 => exact HC0_1.out); (case side3 => exact Kd.C_y (Kd.C_below HR1_1.out (below_y HB.out))); (case side4 => exact HC1_1.out); rintro e w' ⟨rfl, ⟨nd, rfl⟩⟩; (try first | exact ⟨rfl, _, World.drewN_drewN _ _ _⟩ | exact ⟨rfl, _, Eq.trans (World.drewN_drewN _ _ _) (congrArg (World.drewN _) (Nat.add_assoc _ _ _))⟩)))
              repeat (go_quiet (first | (go_at_call 56; (with_reducible refine (newsreelref10_Entries.calls k1 _ _ l0_0 _ _ l1_0 true _ ?side1 ?side2 ?side3 ?side4 A19.out).mono ?_); (case side1 => repeat (first | exact (Kd.C_below HR0_0.out HB.out) | exact HR0_0.out | (with_reducible refine Kd.C_alloc ?_ _) | (with_reducible refine Kd.C_drewN ?_ _) | (with_reducible refine Kd.C_drew ?_))); (case side2 => exact HC0_0.out); (case side3 => repeat (first | exact (Kd.C_below HR1_0.out HB.out) | exact HR1_0.out | (with_reducible refine Kd.C_alloc ?_ _) | (with_reducible refine Kd.C_drewN ?_ _) | (with_reducible refine Kd.C_drew ?_))); (case side4 => exact HC1_0.out); rintro e w' ⟨rfl, ⟨nd, rfl⟩⟩; (try first | exact ⟨rfl, _, World.drewN_drewN _ _ _⟩ | exact ⟨rfl, _, Eq.trans (World.drewN_drewN _ _ _) (congrArg (World.drewN _) (Nat.add_assoc _ _ _))⟩)) | (go_at_call 56; (with_reducible refine (newsreelref10_Entries.calls k1 _ _ l0_1 _ _ l1_1 t349 _ ?side1 ?side2 ?side3 ?side4 A21.out).mono ?_); (case side1 => exact Kd.C_y (Kd.C_below HR0_1.out (below_y HB.out))); (case side2 => exact HC0_1.out); (case side3 => exact Kd.C_y (Kd.C_below HR1_1.out (below_y HB.out))); (case side4 => exact HC1_1.out); rintro e w' ⟨rfl, ⟨nd, rfl⟩⟩; (try first | exact ⟨rfl, _, World.drewN_drewN _ _ _⟩ | exact ⟨rfl, _, Eq.trans (World.drewN_drewN _ _ _) (congrArg (World.drewN _) (Nat.add_assoc _ _ _))⟩))); try go_wp2_with (first | (go_at_call 56; (with_reducible refine (newsreelref10_Entries.calls k1 _ _ l0_0 _ _ l1_0 true _ ?side1 ?side2 ?side3 ?side4 A19.out).mono ?_); (case side1 => repeat (first | exact (Kd.C_below HR0_0.out HB.out) | exact HR0_0.out | (with_reducible refine Kd.C_alloc ?_ _) | (with_reducible refine Kd.C_drewN ?_ _) | (with_reducible refine Kd.C_drew ?_))); (case side2 => exact HC0_0.out); (case side3 => repeat (first | exact (Kd.C_below HR1_0.out HB.out) | exact HR1_0.out | (with_reducible refine Kd.C_alloc ?_ _) | (with_reducible refine Kd.C_drewN ?_ _) | (with_reducible refine Kd.C_drew ?_))); (case side4 => exact HC1_0.out); rintro e w' ⟨rfl, ⟨nd, rfl⟩⟩; (try first | exact ⟨rfl, _, World.drewN_drewN _ _ _⟩ | exact ⟨rfl, _, Eq.trans (World.drewN_drewN _ _ _) (congrArg (World.drewN _) (Nat.add_assoc _ _ _))⟩)) | (go_at_call 56; (with_reducible refine (newsreelref10_Entries.calls k1 _ _ l0_1 _ _ l1_1 t349 _ ?side1 ?side2 ?side3 ?side4 A21.out).mono ?_); (case side1 => exact Kd.C_y (Kd.C_below HR0_1.out (below_y HB.out))); (case side2 => exact HC0_1.out); (case side3 => exact Kd.C_y (Kd.C_below HR1_1.out (below_y HB.out))); (case side4 => exact HC1_1.out); rintro e w' ⟨rfl, ⟨nd, rfl⟩⟩; (try first | exact ⟨rfl, _, World.drewN_drewN _ _ _⟩ | exact ⟨rfl, _, Eq.trans (World.drewN_drewN _ _ _) (congrArg (World.drewN _) (Nat.add_assoc _ _ _))⟩))))
              go_ret
              exact ⟨by first | rfl | (simp [errW_none, errW_some] <;> rfl) | (simp [*, errW_none, errW_some] <;> rfl), by repeat (first | (with_reducible first | exact HB.out | apply below_alloc | apply pw_below_drewN | apply below_drew1 | refine below_set ?_ GE344.out | refine below_set ?_ GE345.out) | exact HB.out)⟩
          · replace c20 := Bool.eq_false_iff.mpr c20
            subst c20
            have H1 : (some false) = some r := by rw [if_neg (show ¬ (false = true) by decide)] at H; exact H
            clear H
            have H := H1
            clear H1
            as_aux_lemma =>
              obtain rfl := Option.some.inj H
              have hnb25 := NB344_345.out
              have hnc25 := NB345_344.out
              have hcz26_0 := bc BK344.out 0 (.slice A0_0 l0_0.length c0_0) rfl
              have hcz26_1 := bc BK344.out 1 (.slice A0_1 l0_1.length c0_1) rfl
              have hcz26_2 := bc BK344.out 2 (.slice A0_2 l0_2.length c0_2) rfl
              have hfz26_0 := blk_frozen BK344.out 0
              have hfz26_1 := blk_frozen BK344.out 1
              have hfz26_2 := blk_frozen BK344.out 2
              have hcz27_0 := bc BK345.out 0 (.slice A1_0 l1_0.length c1_0) rfl
              have hcz27_1 := bc BK345.out 1 (.slice A1_1 l1_1.length c1_1) rfl
              have hcz27_2 := bc BK345.out 2 (.slice A1_2 l1_2.length c1_2) rfl
              have hfz27_0 := blk_frozen BK345.out 0
              have hfz27_1 := blk_frozen BK345.out 1
              have hfz27_2 := blk_frozen BK345.out 2
              go_wp2_with (first | (go_at_call 56; (with_reducible refine (newsreelref10_Entries.calls k1 _ _ l0_0 _ _ l1_0 false _ ?side1 ?side2 ?side3 ?side4 A19.out).mono ?_); (case side1 => repeat (first | exact (Kd.C_below HR0_0.out HB.out) | exact HR0_0.out | (with_reducible refine Kd.C_alloc ?_ _) | (with_reducible refine Kd.C_drewN ?_ _) | (with_reducible refine Kd.C_drew ?_))); (case side2 => exact HC0_0.out); (case side3 => repeat (first | exact (Kd.C_below HR1_0.out HB.out) | exact HR1_0.out | (with_reducible refine Kd.C_alloc ?_ _) | (with_reducible refine Kd.C_drewN ?_ _) | (with_reducible refine Kd.C_drew ?_))); (case side4 => exact HC1_0.out); rintro e w' ⟨rfl, ⟨nd, rfl⟩⟩; (try first | exact ⟨rfl, _, World.drewN_drewN _ _ _⟩ | exact ⟨rfl, _, Eq.trans (World.drewN_drewN _ _ _) (congrArg (World.drewN _) (Nat.add_assoc _ _ _))⟩)))
              repeat (go_quiet (first | (go_at_call 56; (with_reducible refine (newsreelref10_Entries.calls k1 _ _ l0_0 _ _ l1_0 false _ ?side1 ?side2 ?side3 ?side4 A19.out).mono ?_); (case side1 => repeat (first | exact (Kd.C_below HR0_0.out HB.out) | exact HR0_0.out | (with_reducible refine Kd.C_alloc ?_ _) | (with_reducible refine Kd.C_drewN ?_ _) | (with_reducible refine Kd.C_drew ?_))); (case side2 => exact HC0_0.out); (case side3 => repeat (first | exact (Kd.C_below HR1_0.out HB.out) | exact HR1_0.out | (with_reducible refine Kd.C_alloc ?_ _) | (with_reducible refine Kd.C_drewN ?_ _) | (with_reducible refine Kd.C_drew ?_))); (case side4 => exact HC1_0.out); rintro e w' ⟨rfl, ⟨nd, rfl⟩⟩; (try first | exact ⟨rfl, _, World.drewN_drewN _ _ _⟩ | exact ⟨rfl, _, Eq.trans (World.drewN_drewN _ _ _) (congrArg (World.drewN _) (Nat.add_assoc _ _ _))⟩))); try go_wp2_with (first | (go_at_call 56; (with_reducible refine (newsreelref10_Entries.calls k1 _ _ l0_0 _ _ l1_0 false _ ?side1 ?side2 ?side3 ?side4 A19.out).mono ?_); (case side1 => repeat (first | exact (Kd.C_below HR0_0.out HB.out) | exact HR0_0.out | (with_reducible refine Kd.C_alloc ?_ _) | (with_reducible refine Kd.C_drewN ?_ _) | (with_reducible refine Kd.C_drew ?_))); (case side2 => exact HC0_0.out); (case side3 => repeat (first | exact (Kd.C_below HR1_0.out HB.out) | exact HR1_0.out | (with_reducible refine Kd.C_alloc ?_ _) | (with_reducible refine Kd.C_drewN ?_ _) | (with_reducible refine Kd.C_drew ?_))); (case side4 => exact HC1_0.out); rintro e w' ⟨rfl, ⟨nd, rfl⟩⟩; (try first | exact ⟨rfl, _, World.drewN_drewN _ _ _⟩ | exact ⟨rfl, _, Eq.trans (World.drewN_drewN _ _ _) (congrArg (World.drewN _) (Nat.add_assoc _ _ _))⟩))))
              go_ret
              exact ⟨by first | rfl | (simp [errW_none, errW_some] <;> rfl) | (simp [*, errW_none, errW_some] <;> rfl), by repeat (first | (with_reducible first | exact HB.out | apply below_alloc | apply pw_below_drewN | apply below_drew1 | refine below_set ?_ GE344.out | refine below_set ?_ GE345.out) | exact HB.out)⟩
  · rw [if_neg c3] at H
    have c3b0 : ((l0_2.length : Int) == (l1_2.length : Int)) = false := beq_eq_false_iff_ne.mpr c3
    have c3b1 : ((l0_2.length : Int) != (l1_2.length : Int)) = true := bne_iff_ne.mpr c3
    have c3b2 : (l0_2.length == l1_2.length) = false := by first | simpa using c3 | (simp at c3 ⊢; omega)
    as_aux_lemma =>
      obtain rfl := Option.some.inj H
      go_enter Try.func50, Try.ntmps50
      go_wp2_with (first | ((with_reducible refine gate_dst (N := 2) rfl ?_); refine box_event ?hg (N := 2) ?hd (cs := #[.slice A0_0 l0_0.length c0_0, .slice A0_1 l0_1.length c0_1, .slice A0_2 l0_2.length c0_2]) (t := 67) ?hr ?_; (case hd => rfl); (case hg => rfl); (case hr => first | (go_simp; done) | (go_simp; rfl)); intro gb344 hg w28 hbox hb; have n0_ := Aside0.mk (below_step (below_y HB.out) hb); have n1_ := Aside0.mk (hbox); have n2_ := Aside0.mk ((by rw [hg]; exact (below_size (below_y HB.out)) : w.heap.size ≤ gb344)); have n3_ := Aside0.mk ((by rw [hg]; exact (below_size (below_y HB.out)) : w.heap.size ≤ gb344)); clear HB; have HB := n0_; have BK344 := n1_; have GW344 := n2_; have GE344 := n3_; clear n0_ n1_ n2_ n3_; clear hb hbox hg) | ((with_reducible refine gate_dst (N := 3) rfl ?_); refine box_event ?hg (N := 3) ?hd (cs := #[.slice A1_0 l1_0.length c1_0, .slice A1_1 l1_1.length c1_1, .slice A1_2 l1_2.length c1_2]) (t := 67) ?hr ?_; (case hd => rfl); (case hg => rfl); (case hr => first | (go_simp; done) | (go_simp; rfl)); intro gb345 hg w29 hbox hb; have n0_ := Aside0.mk (blk_below (blk_y BK344.out) hb); have n1_ := Aside0.mk (below_step (below_y HB.out) hb); have n2_ := Aside0.mk (hbox); have n3_ := Aside0.mk ((by rw [hg]; exact (below_size (below_y HB.out)) : w.heap.size ≤ gb345)); have n4_ := Aside0.mk ((by rw [hg]; exact (below_size (below_y HB.out)) : w.heap.size ≤ gb345)); have n5_ := Aside0.mk ((by rw [hg]; exact Nat.ne_of_lt (blk_lt (blk_y BK344.out)) : gb344 ≠ gb345)); have n6_ := Aside0.mk ((by rw [hg]; exact Nat.ne_of_gt (blk_lt (blk_y BK344.out)) : gb345 ≠ gb344)); clear BK344; clear HB; have BK344 := n0_; have HB := n1_; have BK345 := n2_; have GW345 := n3_; have GE345 := n4_; have NB344_345 := n5_; have NB345_344 := n6_; clear n0_ n1_ n2_ n3_ n4_ n5_ n6_; clear hb hbox hg; have hnb30 := NB344_345.out; have hnc30 := NB345_344.out; have hcz31_0 := bc BK344.out 0 (.slice A0_0 l0_0.length c0_0) rfl; have hcz31_1 := bc BK344.out 1 (.slice A0_1 l0_1.length c0_1) rfl; have hcz31_2 := bc BK344.out 2 (.slice A0_2 l0_2.length c0_2) rfl; have hfz31_0 := blk_frozen BK344.out 0; have hfz31_1 := blk_frozen BK344.out 1; have hfz31_2 := blk_frozen BK344.out 2; have hcz32_0 := bc BK345.out 0 (.slice A1_0 l1_0.length c1_0) rfl; have hcz32_1 := bc BK345.out 1 (.slice A1_1 l1_1.length c1_1) rfl; have hcz32_2 := bc BK345.out 2 (.slice A1_2 l1_2.length c1_2) rfl; have hfz32_0 := blk_frozen BK345.out 0; have hfz32_1 := blk_frozen BK345.out 1; have hfz32_2 := blk_frozen BK345.out 2))
      repeat (go_quiet (first | ((with_reducible refine gate_dst (N := 2) rfl ?_); refine box_event ?hg (N := 2) ?hd (cs := #[.slice A0_0 l0_0.length c0_0, .slice A0_1 l0_1.length c0_1, .slice A0_2 l0_2.length c0_2]) (t := 67) ?hr ?_; (case hd => rfl); (case hg => rfl); (case hr => first | (go_simp; done) | (go_simp; rfl)); intro gb344 hg w28 hbox hb; have n0_ := Aside0.mk (below_step (below_y HB.out) hb); have n1_ := Aside0.mk (hbox); have n2_ := Aside0.mk ((by rw [hg]; exact (below_size (below_y HB.out)) : w.heap.size ≤ gb344)); have n3_ := Aside0.mk ((by rw [hg]; exact (below_size (below_y HB.out)) : w.heap.size ≤ gb344)); clear HB; have HB := n0_; have BK344 := n1_; have GW344 := n2_; have GE344 := n3_; clear n0_ n1_ n2_ n3_; clear hb hbox hg) | ((with_reducible refine gate_dst (N := 3) rfl ?_); refine box_event ?hg (N := 3) ?hd (cs := #[.slice A1_0 l1_0.length c1_0, .slice A1_1 l1_1.length c1_1, .slice A1_2 l1_2.length c1_2]) (t := 67) ?hr ?_; (case hd => rfl); (case hg => rfl); (case hr => first | (go_simp; done) | (go_simp; rfl)); intro gb345 hg w29 hbox hb; have n0_ := Aside0.mk (blk_below (blk_y BK344.out) hb); have n1_ := Aside0.mk (below_step (below_y HB.out) hb); have n2_ := Aside0.mk (hbox); have n3_ := Aside0.mk ((by rw [hg]; exact (below_size (below_y HB.out)) : w.heap.size ≤ gb345)); have n4_ := Aside0.mk ((by rw [hg]; exact (below_size (below_y HB.out)) : w.heap.size ≤ gb345)); have n5_ := Aside0.mk ((by rw [hg]; exact Nat.ne_of_lt (blk_lt (blk_y BK344.out)) : gb344 ≠ gb345)); have n6_ := Aside0.mk ((by rw [hg]; exact Nat.ne_of_gt (blk_lt (blk_y BK344.out)) : gb345 ≠ gb344)); clear BK344; clear HB; have BK344 := n0_; have HB := n1_; have BK345 := n2_; have GW345 := n3_; have GE345 := n4_; have NB344_345 := n5_; have NB345_344 := n6_; clear n0_ n1_ n2_ n3_ n4_ n5_ n6_; clear hb hbox hg; have hnb30 := NB344_345.out; have hnc30 := NB345_344.out; have hcz31_0 := bc BK344.out 0 (.slice A0_0 l0_0.length c0_0) rfl; have hcz31_1 := bc BK344.out 1 (.slice A0_1 l0_1.length c0_1) rfl; have hcz31_2 := bc BK344.out 2 (.slice A0_2 l0_2.length c0_2) rfl; have hfz31_0 := blk_frozen BK344.out 0; have hfz31_1 := blk_frozen BK344.out 1; have hfz31_2 := blk_frozen BK344.out 2; have hcz32_0 := bc BK345.out 0 (.slice A1_0 l1_0.length c1_0) rfl; have hcz32_1 := bc BK345.out 1 (.slice A1_1 l1_1.length c1_1) rfl; have hcz32_2 := bc BK345.out 2 (.slice A1_2 l1_2.length c1_2) rfl; have hfz32_0 := blk_frozen BK345.out 0; have hfz32_1 := blk_frozen BK345.out 1; have hfz32_2 := blk_frozen BK345.out 2)); try go_wp2_with (first | ((with_reducible refine gate_dst (N := 2) rfl ?_); refine box_event ?hg (N := 2) ?hd (cs := #[.slice A0_0 l0_0.length c0_0, .slice A0_1 l0_1.length c0_1, .slice A0_2 l0_2.length c0_2]) (t := 67) ?hr ?_; (case hd => rfl); (case hg => rfl); (case hr => first | (go_simp; done) | (go_simp; rfl)); intro gb344 hg w28 hbox hb; have n0_ := Aside0.mk (below_step (below_y HB.out) hb); have n1_ := Aside0.mk (hbox); have n2_ := Aside0.mk ((by rw [hg]; exact (below_size (below_y HB.out)) : w.heap.size ≤ gb344)); have n3_ := Aside0.mk ((by rw [hg]; exact (below_size (below_y HB.out)) : w.heap.size ≤ gb344)); clear HB; have HB := n0_; have BK344 := n1_; have GW344 := n2_; have GE344 := n3_; clear n0_ n1_ n2_ n3_; clear hb hbox hg) | ((with_reducible refine gate_dst (N := 3) rfl ?_); refine box_event ?hg (N := 3) ?hd (cs := #[.slice A1_0 l1_0.length c1_0, .slice A1_1 l1_1.length c1_1, .slice A1_2 l1_2.length c1_2]) (t := 67) ?hr ?_; (case hd => rfl); (case hg => rfl); (case hr => first | (go_simp; done) | (go_simp; rfl)); intro gb345 hg w29 hbox hb; have n0_ := Aside0.mk (blk_below (blk_y BK344.out) hb); have n1_ := Aside0.mk (below_step (below_y HB.out) hb); have n2_ := Aside0.mk (hbox); have n3_ := Aside0.mk ((by rw [hg]; exact (below_size (below_y HB.out)) : w.heap.size ≤ gb345)); have n4_ := Aside0.mk ((by rw [hg]; exact (below_size (below_y HB.out)) : w.heap.size ≤ gb345)); have n5_ := Aside0.mk ((by rw [hg]; exact Nat.ne_of_lt (blk_lt (blk_y BK344.out)) : gb344 ≠ gb345)); have n6_ := Aside0.mk ((by rw [hg]; exact Nat.ne_of_gt (blk_lt (blk_y BK344.out)) : gb345 ≠ gb344)); clear BK344; clear HB; have BK344 := n0_; have HB := n1_; have BK345 := n2_; have GW345 := n3_; have GE345 := n4_; have NB344_345 := n5_; have NB345_344 := n6_; clear n0_ n1_ n2_ n3_ n4_ n5_ n6_; clear hb hbox hg; have hnb30 := NB344_345.out; have hnc30 := NB345_344.out; have hcz31_0 := bc BK344.out 0 (.slice A0_0 l0_0.length c0_0) rfl; have hcz31_1 := bc BK344.out 1 (.slice A0_1 l0_1.length c0_1) rfl; have hcz31_2 := bc BK344.out 2 (.slice A0_2 l0_2.length c0_2) rfl; have hfz31_0 := blk_frozen BK344.out 0; have hfz31_1 := blk_frozen BK344.out 1; have hfz31_2 := blk_frozen BK344.out 2; have hcz32_0 := bc BK345.out 0 (.slice A1_0 l1_0.length c1_0) rfl; have hcz32_1 := bc BK345.out 1 (.slice A1_1 l1_1.length c1_1) rfl; have hcz32_2 := bc BK345.out 2 (.slice A1_2 l1_2.length c1_2) rfl; have hfz32_0 := blk_frozen BK345.out 0; have hfz32_1 := blk_frozen BK345.out 1; have hfz32_2 := blk_frozen BK345.out 2)))
      go_ret
      exact ⟨by first | rfl | (simp [errW_none, errW_some] <;> rfl) | (simp [*, errW_none, errW_some] <;> rfl), by repeat (first | (with_reducible first | exact HB.out | apply below_alloc | apply pw_below_drewN | apply below_drew1 | refine below_set ?_ GE344.out | refine below_set ?_ GE345.out) | exact HB.out)⟩

end Go.Proofs.Ytkkikdjfigffhab.XDir
