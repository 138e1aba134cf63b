import Derived.Test.YtghdkpcpgpfgcaaDoorXStbM0a
import Derived.Test.YtghdkpcpgpfgcaaDoorXStbx25
import Derived.Test.YtghdkpcpgpfgcaaDoorXStbx35
import Derived.Test.YtghdkpcpgpfgcaaDoorXStbM2a
import Derived.Test.YtghdkpcpgpfgcaaDoorXStbM0b
import Derived.Test.YtghdkpcpgpfgcaaDoorXStbx49
import Derived.Test.YtghdkpcpgpfgcaaDoorXStbx53
namespace Go.Proofs.YtghdkpcpgpfgcaaDoor.XStb
open Go.RowKit Go.Proofs.YtghdkpcpgpfgcaaDoorW.PrintWords Go.Proofs.YtghdkpcpgpfgcaaDoorW.PrintLast Go.Proofs.YtghdkpcpgpfgcaaDoorW.PrintMore
attribute [local go_sem] max2_int min2_int max_two min_two max_three min_three max_four min_four   -- for this text's walks alone
set_option linter.unusedVariables false
set_option linter.unusedSimpArgs false

/-! ### newsreellaw17_StampTells: function 3 -/
def newsreellaw17_StampTells.f (k : Nat) (a0 : ByteArray) (a1 : Int) (a2_0 : Int) (a2_1 : Int) : Option (Bool) := if (a0.size : Int) > 100 then ((newsreellaw17_awake.f k).bind fun t367 => (some t367)) else ((stamp_Get.f k a0).bind fun bt368 => ((newsreelref17_Get.f k a0).bind fun bt370 => ((stamp_Put.f k a1).bind fun bt372 => ((newsreelref17_Put.f k a1).bind fun bt374 => (if bt368.1 = bt370.1 then (if bt368.2 = bt370.2 then (if bt372.1.toList = bt374.1.toList then (if bt372.2 = bt374.2 then ((stamp_Days.f a2_0 a2_1).bind fun t376 => ((newsreelref17_Days.f k a2_0 a2_1).bind fun t377 => (if t376 = t377 then ((newsreellaw17_awake.f k).bind fun t378 => (some t378)) else (some false)))) else (some false)) else (some false)) else (some false)) else (some false))))))
theorem newsreellaw17_StampTells.mono : ∀ a0 a1 a2 a3 k, LeO (newsreellaw17_StampTells.f k a0 a1 a2 a3) (newsreellaw17_StampTells.f (k + 1) a0 a1 a2 a3) := by
 intro a0 a1 a2 a3 k
 unfold newsreellaw17_StampTells.f
 repeat' first
   | (with_reducible exact newsreellaw17_awake.mono _)
   | (with_reducible exact newsreelref17_Days.mono _ _ _)
   | (with_reducible exact newsreelref17_Get.mono _ _)
   | (with_reducible exact newsreelref17_Put.mono _ _)
   | (with_reducible exact stamp_Get.mono _ _)
   | (with_reducible exact stamp_Put.mono _ _)
   | (with_reducible exact LeO.refl _)
   | (with_reducible exact LeO.none _)
   | (with_reducible refine LeO.ite ?_ ?_)
   | (with_reducible refine LeO.bind ?_ (fun _ => ?_))
   | exact newsreellaw17_awake.mono _
   | exact newsreelref17_Days.mono _ _ _
   | exact newsreelref17_Get.mono _ _
   | exact newsreelref17_Put.mono _ _
   | exact stamp_Get.mono _ _
   | exact stamp_Put.mono _ _
   | exact LeO.none _
   | refine LeO.ite ?_ ?_
   | refine LeO.bind ?_ (fun _ => ?_)
set_option maxHeartbeats 8000000 in
set_option maxRecDepth 100000 in
theorem newsreellaw17_StampTells.calls (k : Nat) (a0 : ByteArray) (a1 : Int) (a2_0 : Int) (a2_1 : Int) (r : Bool) (w : World) (hG : Gw w) (ht_ : r = true) (h : newsreellaw17_StampTells.f k a0 a1 a2_0 a2_1 = some r) :
  Calls Tryd.prog 3 #[.string a0, .int .i64 a1, .agg #[.int .i64 a2_0, .int .i64 a2_1]] w fun e w' => e = .returned (.bool r) ∧ Below w.heap.size w w' := by
 have hu22 := Tryd.underlying22
 have HB := mkA (Below.refl w.heap.size w)
 have H : (if (a0.size : Int) > 100 then ((newsreellaw17_awake.f k).bind fun t367 => (some t367)) else ((stamp_Get.f k a0).bind fun bt368 => ((newsreelref17_Get.f k a0).bind fun bt370 => ((stamp_Put.f k a1).bind fun bt372 => ((newsreelref17_Put.f k a1).bind fun bt374 => (if bt368.1 = bt370.1 then (if bt368.2 = bt370.2 then (if bt372.1.toList = bt374.1.toList then (if bt372.2 = bt374.2 then ((stamp_Days.f a2_0 a2_1).bind fun t376 => ((newsreelref17_Days.f k a2_0 a2_1).bind fun t377 => (if t376 = t377 then ((newsreellaw17_awake.f k).bind fun t378 => (some t378)) else (some false)))) else (some false)) else (some false)) else (some false)) else (some false))))))) = some r := h
 clear h
 by_cases c4 : (a0.size : Int) > 100
 ·rw [if_pos c4] at H
  have c4b0 : decide (100 < (a0.size : Int)) = true := decide_eq_true c4
  have c4b1 : decide (100 < a0.size) = true := decide_eq_true (by omega)
  clear c4
  replace H := Option.bind_eq_some_iff.mp H
  obtain ⟨t367, A50, H⟩ := H
  replace H : (some t367) = some r := H
  have A5 := mkA A50
  clear A50
  obtain rfl := Option.some.inj H
  go_enter Tryd.func3, Tryd.ntmps3
  go_wp2_with (first | ((with_reducible refine gate_dst (N := 5) rfl ?_); refine box_event ?hg (N := 5) ?hd (cs := #[.int .i64 a2_0, .int .i64 a2_1]) (t := 22) ?hr ?_; (case hd => rfl); (case hg => rfl); (case hr => first | (go_simp; done) | (go_simp; rfl)); intro gb366 hg w6 hbox hb; have n0_ := mkA (below_step (below_y HB.out) hb); have n1_ := mkA (hbox); have n2_ := mkA ((gz hg HB.out : w.heap.size ≤ gb366)); have n3_ := mkA ((gz hg HB.out : w.heap.size ≤ gb366)); clear HB; have HB := n0_; have BK366 := n1_; have GW366 := n2_; have GE366 := n3_; clear n0_ n1_ n2_ n3_; clear hb hbox hg; have hcz7_0 := bc BK366.out 0 (.int .i64 a2_0) rfl; have hcz7_1 := bc BK366.out 1 (.int .i64 a2_1) rfl; have hfz7_0 := blk_frozen BK366.out 0; have hfz7_1 := blk_frozen BK366.out 1) | (go_at_call 5; (with_reducible refine (newsreellaw17_awake.calls (hG := ?sideG) k  t367 _ A5.out).mono ?_); (case sideG => exact gG hG (below_y HB.out)); rintro e w8 ⟨rfl, hb⟩; have n0_ := mkA (blk_below (blk_y BK366.out) hb); have n1_ := mkA (below_step (below_y HB.out) hb); clear BK366; clear HB; have BK366 := n0_; have HB := n1_; clear n0_ n1_; (try clear hb); (try clear hb2); (try clear hk); (try clear hi)))
  repeat (go_quiet (first | ((with_reducible refine gate_dst (N := 5) rfl ?_); refine box_event ?hg (N := 5) ?hd (cs := #[.int .i64 a2_0, .int .i64 a2_1]) (t := 22) ?hr ?_; (case hd => rfl); (case hg => rfl); (case hr => first | (go_simp; done) | (go_simp; rfl)); intro gb366 hg w6 hbox hb; have n0_ := mkA (below_step (below_y HB.out) hb); have n1_ := mkA (hbox); have n2_ := mkA ((gz hg HB.out : w.heap.size ≤ gb366)); have n3_ := mkA ((gz hg HB.out : w.heap.size ≤ gb366)); clear HB; have HB := n0_; have BK366 := n1_; have GW366 := n2_; have GE366 := n3_; clear n0_ n1_ n2_ n3_; clear hb hbox hg; have hcz7_0 := bc BK366.out 0 (.int .i64 a2_0) rfl; have hcz7_1 := bc BK366.out 1 (.int .i64 a2_1) rfl; have hfz7_0 := blk_frozen BK366.out 0; have hfz7_1 := blk_frozen BK366.out 1) | (go_at_call 5; (with_reducible refine (newsreellaw17_awake.calls (hG := ?sideG) k  t367 _ A5.out).mono ?_); (case sideG => exact gG hG (below_y HB.out)); rintro e w8 ⟨rfl, hb⟩; have n0_ := mkA (blk_below (blk_y BK366.out) hb); have n1_ := mkA (below_step (below_y HB.out) hb); clear BK366; clear HB; have BK366 := n0_; have HB := n1_; clear n0_ n1_; (try clear hb); (try clear hb2); (try clear hk); (try clear hi))); try go_wp2_with (first | ((with_reducible refine gate_dst (N := 5) rfl ?_); refine box_event ?hg (N := 5) ?hd (cs := #[.int .i64 a2_0, .int .i64 a2_1]) (t := 22) ?hr ?_; (case hd => rfl); (case hg => rfl); (case hr => first | (go_simp; done) | (go_simp; rfl)); intro gb366 hg w6 hbox hb; have n0_ := mkA (below_step (below_y HB.out) hb); have n1_ := mkA (hbox); have n2_ := mkA ((gz hg HB.out : w.heap.size ≤ gb366)); have n3_ := mkA ((gz hg HB.out : w.heap.size ≤ gb366)); clear HB; have HB := n0_; have BK366 := n1_; have GW366 := n2_; have GE366 := n3_; clear n0_ n1_ n2_ n3_; clear hb hbox hg; have hcz7_0 := bc BK366.out 0 (.int .i64 a2_0) rfl; have hcz7_1 := bc BK366.out 1 (.int .i64 a2_1) rfl; have hfz7_0 := blk_frozen BK366.out 0; have hfz7_1 := blk_frozen BK366.out 1) | (go_at_call 5; (with_reducible refine (newsreellaw17_awake.calls (hG := ?sideG) k  t367 _ A5.out).mono ?_); (case sideG => exact gG hG (below_y HB.out)); rintro e w8 ⟨rfl, hb⟩; have n0_ := mkA (blk_below (blk_y BK366.out) hb); have n1_ := mkA (below_step (below_y HB.out) hb); clear BK366; clear HB; have BK366 := n0_; have HB := n1_; clear n0_ n1_; (try clear hb); (try clear hb2); (try clear hk); (try clear hi))))
  go_ret
  exact ⟨by first | rfl | (simp [errW_none, errW_some] <;> rfl) | (simp [*, errW_none, errW_some] <;> rfl), by repeat (first | (with_reducible first | exact HB.out | apply below_alloc | apply pw_below_drewN | apply below_drew1 | refine below_set ?_ GE366.out) | exact HB.out)⟩
 ·rw [if_neg c4] at H
  have c4b0 : decide (100 < (a0.size : Int)) = false := decide_eq_false c4
  have c4b1 : decide (100 < a0.size) = false := decide_eq_false (by omega)
  clear c4
  replace H := Option.bind_eq_some_iff.mp H
  obtain ⟨⟨t368, t369⟩, A90, H⟩ := H
  replace H : ((newsreelref17_Get.f k a0).bind fun bt370 => ((stamp_Put.f k a1).bind fun bt372 => ((newsreelref17_Put.f k a1).bind fun bt374 => (if t368 = bt370.1 then (if t369 = bt370.2 then (if bt372.1.toList = bt374.1.toList then (if bt372.2 = bt374.2 then ((stamp_Days.f a2_0 a2_1).bind fun t376 => ((newsreelref17_Days.f k a2_0 a2_1).bind fun t377 => (if t376 = t377 then ((newsreellaw17_awake.f k).bind fun t378 => (some t378)) else (some false)))) else (some false)) else (some false)) else (some false)) else (some false))))) = some r := H
  have A9 := mkA A90
  clear A90
  replace H := Option.bind_eq_some_iff.mp H
  obtain ⟨⟨t370, t371⟩, A100, H⟩ := H
  replace H : ((stamp_Put.f k a1).bind fun bt372 => ((newsreelref17_Put.f k a1).bind fun bt374 => (if t368 = t370 then (if t369 = t371 then (if bt372.1.toList = bt374.1.toList then (if bt372.2 = bt374.2 then ((stamp_Days.f a2_0 a2_1).bind fun t376 => ((newsreelref17_Days.f k a2_0 a2_1).bind fun t377 => (if t376 = t377 then ((newsreellaw17_awake.f k).bind fun t378 => (some t378)) else (some false)))) else (some false)) else (some false)) else (some false)) else (some false)))) = some r := H
  have A10 := mkA A100
  clear A100
  replace H := Option.bind_eq_some_iff.mp H
  obtain ⟨⟨t372, t373⟩, A110, H⟩ := H
  replace H : ((newsreelref17_Put.f k a1).bind fun bt374 => (if t368 = t370 then (if t369 = t371 then (if t372.toList = bt374.1.toList then (if t373 = bt374.2 then ((stamp_Days.f a2_0 a2_1).bind fun t376 => ((newsreelref17_Days.f k a2_0 a2_1).bind fun t377 => (if t376 = t377 then ((newsreellaw17_awake.f k).bind fun t378 => (some t378)) else (some false)))) else (some false)) else (some false)) else (some false)) else (some false))) = some r := H
  have A11 := mkA A110
  clear A110
  replace H := Option.bind_eq_some_iff.mp H
  obtain ⟨⟨t374, t375⟩, A120, H⟩ := H
  replace H : (if t368 = t370 then (if t369 = t371 then (if t372.toList = t374.toList then (if t373 = t375 then ((stamp_Days.f a2_0 a2_1).bind fun t376 => ((newsreelref17_Days.f k a2_0 a2_1).bind fun t377 => (if t376 = t377 then ((newsreellaw17_awake.f k).bind fun t378 => (some t378)) else (some false)))) else (some false)) else (some false)) else (some false)) else (some false)) = some r := H
  have A12 := mkA A120
  clear A120
  by_cases c13 : t368 = t370
  ·rw [if_pos c13] at H
   have c13b0 : (t368 == t370) = true := beq_iff_eq.mpr c13
   have c13b1 : (t368 != t370) = false := bne_eq_false_iff_eq.mpr c13
   clear c13
   by_cases c14 : t369 = t371
   ·rw [if_pos c14] at H
    have c14b0 : (t369 == t371) = true := beq_iff_eq.mpr c14
    have c14b1 : (t369 != t371) = false := bne_eq_false_iff_eq.mpr c14
    clear c14
    by_cases c15 : t372.toList = t374.toList
    ·rw [if_pos c15] at H
     have c15b0 : (t372.toList == t374.toList) = true := beq_iff_eq.mpr c15
     have c15b1 : (t372.toList != t374.toList) = false := bne_eq_false_iff_eq.mpr c15
     clear c15
     by_cases c16 : t373 = t375
     ·rw [if_pos c16] at H
      have c16b0 : (t373 == t375) = true := beq_iff_eq.mpr c16
      have c16b1 : (t373 != t375) = false := bne_eq_false_iff_eq.mpr c16
      clear c16
      replace H := Option.bind_eq_some_iff.mp H
      obtain ⟨t376, A170, H⟩ := H
      replace H : ((newsreelref17_Days.f k a2_0 a2_1).bind fun t377 => (if t376 = t377 then ((newsreellaw17_awake.f k).bind fun t378 => (some t378)) else (some false))) = some r := H
      have A17 := mkA A170
      clear A170
      replace H := Option.bind_eq_some_iff.mp H
      obtain ⟨t377, A180, H⟩ := H
      replace H : (if t376 = t377 then ((newsreellaw17_awake.f k).bind fun t378 => (some t378)) else (some false)) = some r := H
      have A18 := mkA A180
      clear A180
      by_cases c19 : t376 = t377
      ·rw [if_pos c19] at H
       have c19b0 : (t376 == t377) = true := beq_iff_eq.mpr c19
       have c19b1 : (t376 != t377) = false := bne_eq_false_iff_eq.mpr c19
       clear c19
       replace H := Option.bind_eq_some_iff.mp H
       obtain ⟨t378, A200, H⟩ := H
       replace H : (some t378) = some r := H
       have A20 := mkA A200
       clear A200
       obtain rfl := Option.some.inj H
       go_enter Tryd.func3, Tryd.ntmps3
       go_wp2_with (first | ((with_reducible refine gate_dst (N := 5) rfl ?_); refine box_event ?hg (N := 5) ?hd (cs := #[.int .i64 a2_0, .int .i64 a2_1]) (t := 22) ?hr ?_; (case hd => rfl); (case hg => rfl); (case hr => first | (go_simp; done) | (go_simp; rfl)); intro gb366 hg w21 hbox hb; have n0_ := mkA (below_step (below_y HB.out) hb); have n1_ := mkA (hbox); have n2_ := mkA ((gz hg HB.out : w.heap.size ≤ gb366)); have n3_ := mkA ((gz hg HB.out : w.heap.size ≤ gb366)); clear HB; have HB := n0_; have BK366 := n1_; have GW366 := n2_; have GE366 := n3_; clear n0_ n1_ n2_ n3_; clear hb hbox hg; have hcz22_0 := bc BK366.out 0 (.int .i64 a2_0) rfl; have hcz22_1 := bc BK366.out 1 (.int .i64 a2_1) rfl; have hfz22_0 := blk_frozen BK366.out 0; have hfz22_1 := blk_frozen BK366.out 1) | (go_at_call 6; (with_reducible refine (stamp_Get.calls (hG := ?sideG) k a0 t368 t369 _ A9.out).mono ?_); (case sideG => exact gG hG (below_y HB.out)); rintro e w23 ⟨rfl, hb⟩; have n0_ := mkA (blk_below (blk_y BK366.out) hb); have n1_ := mkA (below_step (below_y HB.out) hb); clear BK366; clear HB; have BK366 := n0_; have HB := n1_; clear n0_ n1_; (try clear hb); (try clear hb2); (try clear hk); (try clear hi)) | (go_at_call 7; (with_reducible refine (newsreelref17_Get.calls k a0 t370 t371 _ A10.out).mono ?_); rintro e w24 ⟨rfl, hb⟩; have n0_ := mkA (blk_below (blk_y BK366.out) hb); have n1_ := mkA (below_step (below_y HB.out) hb); clear BK366; clear HB; have BK366 := n0_; have HB := n1_; clear n0_ n1_; (try clear hb); (try clear hb2); (try clear hk); (try clear hi)) | (go_at_call 8; (with_reducible refine (stamp_Put.calls k a1 t372 t373 _ A11.out).mono ?_); rintro e w25 ⟨rfl, hb⟩; have n0_ := mkA (blk_below (blk_y BK366.out) hb); have n1_ := mkA (below_step (below_y HB.out) hb); clear BK366; clear HB; have BK366 := n0_; have HB := n1_; clear n0_ n1_; (try clear hb); (try clear hb2); (try clear hk); (try clear hi)) | (go_at_call 9; (with_reducible refine (newsreelref17_Put.calls k a1 t374 t375 _ A12.out).mono ?_); rintro e w26 ⟨rfl, hb⟩; have n0_ := mkA (blk_below (blk_y BK366.out) hb); have n1_ := mkA (below_step (below_y HB.out) hb); clear BK366; clear HB; have BK366 := n0_; have HB := n1_; clear n0_ n1_; (try clear hb); (try clear hb2); (try clear hk); (try clear hi)) | (go_at_call 10; (with_reducible refine (stamp_Days.calls a2_0 a2_1 t376 _ A17.out).mono ?_); rintro e w27 ⟨rfl, hb⟩; have n0_ := mkA (blk_below (blk_y BK366.out) hb); have n1_ := mkA (below_step (below_y HB.out) hb); clear BK366; clear HB; have BK366 := n0_; have HB := n1_; clear n0_ n1_; (try clear hb); (try clear hb2); (try clear hk); (try clear hi)) | (go_at_call 11; (with_reducible refine (newsreelref17_Days.calls k a2_0 a2_1 t377 _ A18.out).mono ?_); rintro e w' ⟨rfl, ⟨nd, rfl⟩⟩; (try first | exact ⟨rfl, _, World.drewN_drewN _ _ _⟩ | exact ⟨rfl, _, Eq.trans (World.drewN_drewN _ _ _) (congrArg (World.drewN _) (Nat.add_assoc _ _ _))⟩)) | (go_at_call 5; (with_reducible refine (newsreellaw17_awake.calls (hG := ?sideG) k  t378 _ A20.out).mono ?_); (case sideG => exact gG hG (below_y HB.out)); rintro e w28 ⟨rfl, hb⟩; have n0_ := mkA (blk_below (blk_y BK366.out) hb); have n1_ := mkA (below_step (below_y HB.out) hb); clear BK366; clear HB; have BK366 := n0_; have HB := n1_; clear n0_ n1_; (try clear hb); (try clear hb2); (try clear hk); (try clear hi)))
       repeat (go_quiet (first | ((with_reducible refine gate_dst (N := 5) rfl ?_); refine box_event ?hg (N := 5) ?hd (cs := #[.int .i64 a2_0, .int .i64 a2_1]) (t := 22) ?hr ?_; (case hd => rfl); (case hg => rfl); (case hr => first | (go_simp; done) | (go_simp; rfl)); intro gb366 hg w21 hbox hb; have n0_ := mkA (below_step (below_y HB.out) hb); have n1_ := mkA (hbox); have n2_ := mkA ((gz hg HB.out : w.heap.size ≤ gb366)); have n3_ := mkA ((gz hg HB.out : w.heap.size ≤ gb366)); clear HB; have HB := n0_; have BK366 := n1_; have GW366 := n2_; have GE366 := n3_; clear n0_ n1_ n2_ n3_; clear hb hbox hg; have hcz22_0 := bc BK366.out 0 (.int .i64 a2_0) rfl; have hcz22_1 := bc BK366.out 1 (.int .i64 a2_1) rfl; have hfz22_0 := blk_frozen BK366.out 0; have hfz22_1 := blk_frozen BK366.out 1) | (go_at_call 6; (with_reducible refine (stamp_Get.calls (hG := ?sideG) k a0 t368 t369 _ A9.out).mono ?_); (case sideG => exact gG hG (below_y HB.out)); rintro e w23 ⟨rfl, hb⟩; have n0_ := mkA (blk_below (blk_y BK366.out) hb); have n1_ := mkA (below_step (below_y HB.out) hb); clear BK366; clear HB; have BK366 := n0_; have HB := n1_; clear n0_ n1_; (try clear hb); (try clear hb2); (try clear hk); (try clear hi)) | (go_at_call 7; (with_reducible refine (newsreelref17_Get.calls k a0 t370 t371 _ A10.out).mono ?_); rintro e w24 ⟨rfl, hb⟩; have n0_ := mkA (blk_below (blk_y BK366.out) hb); have n1_ := mkA (below_step (below_y HB.out) hb); clear BK366; clear HB; have BK366 := n0_; have HB := n1_; clear n0_ n1_; (try clear hb); (try clear hb2); (try clear hk); (try clear hi)) | (go_at_call 8; (with_reducible refine (stamp_Put.calls k a1 t372 t373 _ A11.out).mono ?_); rintro e w25 ⟨rfl, hb⟩; have n0_ := mkA (blk_below (blk_y BK366.out) hb); have n1_ := mkA (below_step (below_y HB.out) hb); clear BK366; clear HB; have BK366 := n0_; have HB := n1_; clear n0_ n1_; (try clear hb); (try clear hb2); (try clear hk); (try clear hi)) | (go_at_call 9; (with_reducible refine (newsreelref17_Put.calls k a1 t374 t375 _ A12.out).mono ?_); rintro e w26 ⟨rfl, hb⟩; have n0_ := mkA (blk_below (blk_y BK366.out) hb); have n1_ := mkA (below_step (below_y HB.out) hb); clear BK366; clear HB; have BK366 := n0_; have HB := n1_; clear n0_ n1_; (try clear hb); (try clear hb2); (try clear hk); (try clear hi)) | (go_at_call 10; (with_reducible refine (stamp_Days.calls a2_0 a2_1 t376 _ A17.out).mono ?_); rintro e w27 ⟨rfl, hb⟩; have n0_ := mkA (blk_below (blk_y BK366.out) hb); have n1_ := mkA (below_step (below_y HB.out) hb); clear BK366; clear HB; have BK366 := n0_; have HB := n1_; clear n0_ n1_; (try clear hb); (try clear hb2); (try clear hk); (try clear hi)) | (go_at_call 11; (with_reducible refine (newsreelref17_Days.calls k a2_0 a2_1 t377 _ A18.out).mono ?_); rintro e w' ⟨rfl, ⟨nd, rfl⟩⟩; (try first | exact ⟨rfl, _, World.drewN_drewN _ _ _⟩ | exact ⟨rfl, _, Eq.trans (World.drewN_drewN _ _ _) (congrArg (World.drewN _) (Nat.add_assoc _ _ _))⟩)) | (go_at_call 5; (with_reducible refine (newsreellaw17_awake.calls (hG := ?sideG) k  t378 _ A20.out).mono ?_); (case sideG => exact gG hG (below_y HB.out)); rintro e w28 ⟨rfl, hb⟩; have n0_ := mkA (blk_below (blk_y BK366.out) hb); have n1_ := mkA (below_step (below_y HB.out) hb); clear BK366; clear HB; have BK366 := n0_; have HB := n1_; clear n0_ n1_; (try clear hb); (try clear hb2); (try clear hk); (try clear hi))); try go_wp2_with (first | ((with_reducible refine gate_dst (N := 5) rfl ?_); refine box_event ?hg (N := 5) ?hd (cs := #[.int .i64 a2_0, .int .i64 a2_1]) (t := 22) ?hr ?_; (case hd => rfl); (case hg => rfl); (case hr => first | (go_simp; done) | (go_simp; rfl)); intro gb366 hg w21 hbox hb; have n0_ := mkA (below_step (below_y HB.out) hb); have n1_ := mkA (hbox); have n2_ := mkA ((gz hg HB.out : w.heap.size ≤ gb366)); have n3_ := mkA ((gz hg HB.out : w.heap.size ≤ gb366)); clear HB; have HB := n0_; have BK366 := n1_; have GW366 := n2_; have GE366 := n3_; clear n0_ n1_ n2_ n3_; clear hb hbox hg; have hcz22_0 := bc BK366.out 0 (.int .i64 a2_0) rfl; have hcz22_1 := bc BK366.out 1 (.int .i64 a2_1) rfl; have hfz22_0 := blk_frozen BK366.out 0; have hfz22_1 := blk_frozen BK366.out 1) | (go_at_call 6; (with_reducible refine (stamp_Get.calls (hG := ?sideG) k a0 t368 t369 _ A9.out).mono ?_); (case sideG => exact gG hG (below_y HB.out)); rintro e w23 ⟨rfl, hb⟩; have n0_ := mkA (blk_below (blk_y BK366.out) hb); have n1_ := mkA (below_step (below_y HB.out) hb); clear BK366; clear HB; have BK366 := n0_; have HB := n1_; clear n0_ n1_; (try clear hb); (try clear hb2); (try clear hk); (try clear hi)) | (go_at_call 7; (with_reducible refine (newsreelref17_Get.calls k a0 t370 t371 _ A10.out).mono ?_); rintro e w24 ⟨rfl, hb⟩; have n0_ := mkA (blk_below (blk_y BK366.out) hb); have n1_ := mkA (below_step (below_y HB.out) hb); clear BK366; clear HB; have BK366 := n0_; have HB := n1_; clear n0_ n1_; (try clear hb); (try clear hb2); (try clear hk); (try clear hi)) | (go_at_call 8; (with_reducible refine (stamp_Put.calls k a1 t372 t373 _ A11.out).mono ?_); rintro e w25 ⟨rfl, hb⟩; have n0_ := mkA (blk_below (blk_y BK366.out) hb); have n1_ := mkA (below_step (below_y HB.out) hb); clear BK366; clear HB; have BK366 := n0_; have HB := n1_; clear n0_ n1_; (try clear hb); (try clear hb2); (try clear hk); (try clear hi)) | (go_at_call 9; (with_reducible refine (newsreelref17_Put.calls k a1 t374 t375 _ A12.out).mono ?_); rintro e w26 ⟨rfl, hb⟩; have n0_ := mkA (blk_below (blk_y BK366.out) hb); have n1_ := mkA (below_step (below_y HB.out) hb); clear BK366; clear HB; have BK366 := n0_; have HB := n1_; clear n0_ n1_; (try clear hb); (try clear hb2); (try clear hk); (try clear hi)) | (go_at_call 10; (with_reducible refine (stamp_Days.calls a2_0 a2_1 t376 _ A17.out).mono ?_); rintro e w27 ⟨rfl, hb⟩; have n0_ := mkA (blk_below (blk_y BK366.out) hb); have n1_ := mkA (below_step (below_y HB.out) hb); clear BK366; clear HB; have BK366 := n0_; have HB := n1_; clear n0_ n1_; (try clear hb); (try clear hb2); (try clear hk); (try clear hi)) | (go_at_call 11; (with_reducible refine (newsreelref17_Days.calls k a2_0 a2_1 t377 _ A18.out).mono ?_); rintro e w' ⟨rfl, ⟨nd, rfl⟩⟩; (try first | exact ⟨rfl, _, World.drewN_drewN _ _ _⟩ | exact ⟨rfl, _, Eq.trans (World.drewN_drewN _ _ _) (congrArg (World.drewN _) (Nat.add_assoc _ _ _))⟩)) | (go_at_call 5; (with_reducible refine (newsreellaw17_awake.calls (hG := ?sideG) k  t378 _ A20.out).mono ?_); (case sideG => exact gG hG (below_y HB.out)); rintro e w28 ⟨rfl, hb⟩; have n0_ := mkA (blk_below (blk_y BK366.out) hb); have n1_ := mkA (below_step (below_y HB.out) hb); clear BK366; clear HB; have BK366 := n0_; have HB := n1_; clear n0_ n1_; (try clear hb); (try clear hb2); (try clear hk); (try clear hi))))
       go_ret
       exact ⟨by first | rfl | (simp [errW_none, errW_some] <;> rfl) | (simp [*, errW_none, errW_some] <;> rfl), by repeat (first | (with_reducible first | exact HB.out | apply below_alloc | apply pw_below_drewN | apply below_drew1 | refine below_set ?_ GE366.out) | exact HB.out)⟩
      ·rw [if_neg c19] at H
       have c19b0 : (t376 == t377) = false := beq_eq_false_iff_ne.mpr c19
       have c19b1 : (t376 != t377) = true := bne_iff_ne.mpr c19
       cases (Option.some.inj H).trans ht_
     ·rw [if_neg c16] at H
      have c16b0 : (t373 == t375) = false := beq_eq_false_iff_ne.mpr c16
      have c16b1 : (t373 != t375) = true := bne_iff_ne.mpr c16
      cases (Option.some.inj H).trans ht_
    ·rw [if_neg c15] at H
     have c15b0 : (t372.toList == t374.toList) = false := beq_eq_false_iff_ne.mpr c15
     have c15b1 : (t372.toList != t374.toList) = true := bne_iff_ne.mpr c15
     cases (Option.some.inj H).trans ht_
   ·rw [if_neg c14] at H
    have c14b0 : (t369 == t371) = false := beq_eq_false_iff_ne.mpr c14
    have c14b1 : (t369 != t371) = true := bne_iff_ne.mpr c14
    cases (Option.some.inj H).trans ht_
  ·rw [if_neg c13] at H
   have c13b0 : (t368 == t370) = false := beq_eq_false_iff_ne.mpr c13
   have c13b1 : (t368 != t370) = true := bne_iff_ne.mpr c13
   cases (Option.some.inj H).trans ht_

end Go.Proofs.YtghdkpcpgpfgcaaDoor.XStb
