-- By a program of this work (xprint.py) over the translation; Lean checks it.
import Derived.Test.YtkkikdjfigffhabXDirx0
import Derived.Test.YtkkikdjfigffhabXDirx8
import Derived.Test.YtkkikdjfigffhabXDirx16
import Derived.Test.YtkkikdjfigffhabXDirx19
import Derived.Test.YtkkikdjfigffhabXDirx20
namespace Go.Proofs.Ytkkikdjfigffhab.XDir
open Go.RowKit Go.Proofs.YtkkikdjfigffhabW.PrintWords Go.Proofs.YtkkikdjfigffhabW.PrintLast Go.Proofs.YtkkikdjfigffhabW.PrintMore
attribute [local go_sem] max2_int min2_int max_two min_two max_three min_three max_four min_four   -- for this text's walks alone
set_option linter.unusedVariables false
set_option linter.unusedSimpArgs false

/-! ### dir_Do: function 42 -/
def dir_Do.f (k : Nat) (l0_0 : List (S77)) (l0_1 : List (S77)) (l0_2 : List (S69)) (a1_0 : Int) (a1_1 : ByteArray) (a1_2 : ByteArray) (a1_3 : Int) : Option ((List (S77)) × (List (S77)) × (List (S69)) × Int) := (dir_Right.f k l0_0 l0_1 l0_2).bind fun t160 => (if t160 = true then ((dir_done.f k l0_0 a1_0 a1_1 a1_2 a1_3).bind fun bt161 => (if bt161.2 = 0 then ((api_Entry_91.f l0_1).bind fun t165 => ((api_DirOp.f l0_2).bind fun t168 => ((some (([(⟨a1_0, a1_1, a1_2, a1_3⟩ : S69)] : List (S69)) : List (S69))).bind fun y171 => (if t168.length + y171.length < 2932031007402 then (some (bt161.1, t165, (t168 ++ y171), 0)) else (none))))) else (some (([] : List (S77)), ([] : List (S77)), ([] : List (S69)), bt161.2)))) else (some (([] : List (S77)), ([] : List (S77)), ([] : List (S69)), 10)))
theorem dir_Do.mono : ∀ a0 a1 a2 a3 a4 a5 a6 k, LeO (dir_Do.f k a0 a1 a2 a3 a4 a5 a6) (dir_Do.f (k + 1) a0 a1 a2 a3 a4 a5 a6) := by
 intro a0 a1 a2 a3 a4 a5 a6 k
 unfold dir_Do.f
 repeat' first
   | (with_reducible exact dir_Right.mono _ _ _ _)
   | (with_reducible exact dir_done.mono _ _ _ _ _ _)
   | (with_reducible exact LeO.refl _)
   | (with_reducible exact LeO.none _)
   | (with_reducible refine LeO.ite ?_ ?_)
   | (with_reducible refine LeO.bind ?_ (fun _ => ?_))
   | exact dir_Right.mono _ _ _ _
   | exact dir_done.mono _ _ _ _ _ _
   | exact LeO.none _
   | refine LeO.ite ?_ ?_
   | refine LeO.bind ?_ (fun _ => ?_)
def dir_Do.T6 : Bool × List (List Nat × List Nat) := (true, [([], []), ([], []), ([1], [1]), ([2], [2]), ([], []), ([4], [4]), ([5, 3], [5]), ([], []), ([7], [7]), ([6, 8, 6], [6, 8]), ([0, 3, 9], [0, 3, 9]), ([10, 9, 0, 1, 2, 3, 4, 5, 6, 7, 8, 9, 10], [10]), ([11, 0, 1, 2, 3, 4, 5, 6, 7, 8, 9, 10, 11], [])])
def dir_Do.B6 : List Nat := [0, 0, 2, 6, 0, 16, 62, 0, 128, 510, 1023, 2047, 4095]
theorem dir_Do.tab6 : rtab .any (opsOf Try.f42 6) = dir_Do.T6 := by kernel_rfl
theorem dir_Do.bits6 : waitsOk dir_Do.T6.2 dir_Do.B6 = true := by kernel_rfl
set_option maxHeartbeats 8000000 in
set_option maxRecDepth 100000 in
theorem dir_Do.calls (k : Nat) (A0_0 : Option Addr) (c0_0 : Nat) (l0_0 : List (S77)) (A0_1 : Option Addr) (c0_1 : Nat) (l0_1 : List (S77)) (A0_2 : Option Addr) (c0_2 : Nat) (l0_2 : List (S69)) (a1_0 : Int) (a1_1 : ByteArray) (a1_2 : ByteArray) (a1_3 : Int) (r1 : List (S77)) (r2 : List (S77)) (r3 : List (S69)) (r4 : Int) (w : World) (hr0_0 : Kd.C k77 w A0_0 l0_0.length l0_0) (hc0_0 : l0_0.length ≤ c0_0) (hr0_1 : Kd.C k77 w A0_1 l0_1.length l0_1) (hc0_1 : l0_1.length ≤ c0_1) (hr0_2 : Kd.C k69 w A0_2 l0_2.length l0_2) (hc0_2 : l0_2.length ≤ c0_2) (h : dir_Do.f k l0_0 l0_1 l0_2 a1_0 a1_1 a1_2 a1_3 = some (r1, r2, r3, r4)) :
  Calls Try.prog 42 #[.agg #[.slice A0_0 l0_0.length c0_0, .slice A0_1 l0_1.length c0_1, .slice A0_2 l0_2.length c0_2], .agg #[.int .i64 a1_0, .string a1_1, .string a1_2, .int .i64 a1_3]] w fun e w' => ∃ v0_ v1_ v2_ : Value, e = .returned (.tuple #[.agg #[v0_, v1_, v2_], .int .i64 r4]) ∧ Kd.R k77 77 w' w.heap.size (fun k_ => some k_ ≠ (v1_ : Value).ownBlock) v0_ r1 ∧ Kd.R k77 77 w' w.heap.size (fun k_ => some k_ ≠ (v0_ : Value).ownBlock) v1_ r2 ∧ Kd.R k69 69 w' w.heap.size (fun _ => True) v2_ r3 ∧ Below w.heap.size w w' := by
 have hu67 := Try.underlying67
 have hu69 := Try.underlying69
 have HR0_0 := mkA hr0_0
 have HC0_0 := mkA hc0_0
 clear hr0_0 hc0_0
 have HR0_1 := mkA hr0_1
 have HC0_1 := mkA hc0_1
 clear hr0_1 hc0_1
 have HR0_2 := mkA hr0_2
 have HC0_2 := mkA hc0_2
 clear hr0_2 hc0_2
 have HB := mkA (Below.refl w.heap.size w)
 have H : ((dir_Right.f k l0_0 l0_1 l0_2).bind fun t160 => (if t160 = true then ((dir_done.f k l0_0 a1_0 a1_1 a1_2 a1_3).bind fun bt161 => (if bt161.2 = 0 then ((api_Entry_91.f l0_1).bind fun t165 => ((api_DirOp.f l0_2).bind fun t168 => ((some (([(⟨a1_0, a1_1, a1_2, a1_3⟩ : S69)] : List (S69)) : List (S69))).bind fun y171 => (if t168.length + y171.length < 2932031007402 then (some (bt161.1, t165, (t168 ++ y171), 0)) else (none))))) else (some (([] : List (S77)), ([] : List (S77)), ([] : List (S69)), bt161.2)))) else (some (([] : List (S77)), ([] : List (S77)), ([] : List (S69)), 10)))) = some (r1, r2, r3, r4) := h
 clear h
 replace H := Option.bind_eq_some_iff.mp H
 obtain ⟨t160, A30, H⟩ := H
 replace H : (if t160 = true then ((dir_done.f k l0_0 a1_0 a1_1 a1_2 a1_3).bind fun bt161 => (if bt161.2 = 0 then ((api_Entry_91.f l0_1).bind fun t165 => ((api_DirOp.f l0_2).bind fun t168 => ((some (([(⟨a1_0, a1_1, a1_2, a1_3⟩ : S69)] : List (S69)) : List (S69))).bind fun y171 => (if t168.length + y171.length < 2932031007402 then (some (bt161.1, t165, (t168 ++ y171), 0)) else (none))))) else (some (([] : List (S77)), ([] : List (S77)), ([] : List (S69)), bt161.2)))) else (some (([] : List (S77)), ([] : List (S77)), ([] : List (S69)), 10))) = some (r1, r2, r3, r4) := H
 have A3 := mkA A30
 clear A30
 by_cases c4 : t160 = true
 rotate_left
 ·replace c4 := Bool.eq_false_iff.mpr c4
  subst c4
  have H1 : (some (([] : List (S77)), ([] : List (S77)), ([] : List (S69)), 10)) = some (r1, r2, r3, r4) := by rw [if_neg (show ¬ (false = true) by decide)] at H; exact H
  clear H
  have H := H1
  clear H1
  as_aux_lemma =>
   simp only [Option.some.injEq, Prod.mk.injEq] at H
   obtain ⟨rfl, rfl, rfl, rfl⟩ := H
   go_enter Try.func42, Try.ntmps42
   go_wp2_with (first | ((with_reducible refine gate_load (t := 69) rfl ?_); refine load_row3 (t := 69) (g := gb158) ?hg BK158.out ?ho ?hb Try.underlying69 rfl ?hs ?_; (case hg => rfl); (case ho => refine ⟨_, rfl, ?_⟩; first | (with_reducible rfl) | (go_simp; done)); (case hb => (with_reducible repeat (first | refine blk_drewN ?_ _ | refine blk_drew ?_ | refine blk_alloc ?_ _)); with_reducible exact BK158.out); (case hs => kernel_rfl)) | ((with_reducible refine gate_dst (N := 2) rfl ?_); refine box_event ?hg (N := 2) ?hd (cs := #[.slice A0_0 l0_0.length c0_0, .slice A0_1 l0_1.length c0_1, .slice A0_2 l0_2.length c0_2]) (t := 67) ?hr ?_; (case hd => rfl); (case hg => rfl); (case hr => first | (go_simp; done) | (go_simp; rfl)); intro gb157 hg w47 hbox hb; have n0_ := mkA (below_step (below_y HB.out) hb); have n1_ := mkA (hbox); have n2_ := mkA ((gz hg HB.out : w.heap.size ≤ gb157)); have n3_ := mkA ((gz hg HB.out : w.heap.size ≤ gb157)); clear HB; have HB := n0_; have BK157 := n1_; have GW157 := n2_; have GE157 := n3_; clear n0_ n1_ n2_ n3_; clear hb hbox hg) | ((with_reducible refine gate_dst (N := 3) rfl ?_); refine box_event ?hg (N := 3) ?hd (cs := #[.int .i64 a1_0, .string a1_1, .string a1_2, .int .i64 a1_3]) (t := 69) ?hr ?_; (case hd => rfl); (case hg => rfl); (case hr => first | (go_simp; done) | (go_simp; rfl)); intro gb158 hg w48 hbox hb; have n0_ := mkA (blk_below (blk_y BK157.out) hb); have n1_ := mkA (below_step (below_y HB.out) hb); have n2_ := mkA (hbox); have n3_ := mkA ((gz hg HB.out : w.heap.size ≤ gb158)); have n4_ := mkA ((gz hg HB.out : w.heap.size ≤ gb158)); have n5_ := mkA ((gn hg BK157.out : gb157 ≠ gb158)); have n6_ := mkA ((gm hg BK157.out : gb158 ≠ gb157)); clear BK157; clear HB; have BK157 := n0_; have HB := n1_; have BK158 := n2_; have GW158 := n3_; have GE158 := n4_; have NB157_158 := n5_; have NB158_157 := n6_; clear n0_ n1_ n2_ n3_ n4_ n5_ n6_; clear hb hbox hg) | ((with_reducible refine gate_dst (N := 4) rfl ?_); refine box_event ?hg (N := 4) ?hd (cs := #[.slice none 0 0, .slice none 0 0, .slice none 0 0]) (t := 67) ?hr ?_; (case hd => rfl); (case hg => rfl); (case hr => first | (go_simp; done) | (go_simp; rfl)); intro gb159 hg w49 hbox hb; have n0_ := mkA (blk_below (blk_y BK157.out) hb); have n1_ := mkA (blk_below (blk_y BK158.out) hb); have n2_ := mkA (below_step (below_y HB.out) hb); have n3_ := mkA (hbox); have n4_ := mkA ((gz hg HB.out : w.heap.size ≤ gb159)); have n5_ := mkA ((gz hg HB.out : w.heap.size ≤ gb159)); have n6_ := mkA ((gn hg BK157.out : gb157 ≠ gb159)); have n7_ := mkA ((gm hg BK157.out : gb159 ≠ gb157)); have n8_ := mkA ((gn hg BK158.out : gb158 ≠ gb159)); have n9_ := mkA ((gm hg BK158.out : gb159 ≠ gb158)); clear BK157; clear BK158; clear HB; have BK157 := n0_; have BK158 := n1_; have HB := n2_; have BK159 := n3_; have GW159 := n4_; have GE159 := n5_; have NB157_159 := n6_; have NB159_157 := n7_; have NB158_159 := n8_; have NB159_158 := n9_; clear n0_ n1_ n2_ n3_ n4_ n5_ n6_ n7_ n8_ n9_; clear hb hbox hg; have hnb50 := NB157_158.out; have hnc50 := NB158_157.out; have hnb51 := NB157_159.out; have hnc51 := NB159_157.out; have hcz52_0 := bc BK157.out 0 (.slice A0_0 l0_0.length c0_0) rfl; have hcz52_1 := bc BK157.out 1 (.slice A0_1 l0_1.length c0_1) rfl; have hcz52_2 := bc BK157.out 2 (.slice A0_2 l0_2.length c0_2) rfl; have hfz52_0 := blk_frozen BK157.out 0; have hfz52_1 := blk_frozen BK157.out 1; have hfz52_2 := blk_frozen BK157.out 2) | ((with_reducible refine gate_callee (f := 48) rfl ?_); refine goesL_ (some 9) rfl rfl Try.func48 (by kernel_rfl) rfl #[.agg #[.slice A0_0 l0_0.length c0_0, .slice A0_1 l0_1.length c0_1, .slice A0_2 l0_2.length c0_2]] rfl ca ?_; (with_reducible refine (dir_Right.calls k _ _ l0_0 _ _ l0_1 _ _ l0_2 false _ ?side1 ?side2 ?side3 ?side4 ?side5 ?side6 A3.out).mono ?_); (case side1 => exact cz HR0_0.out HB.out); (case side2 => exact HC0_0.out); (case side3 => exact cz HR0_1.out HB.out); (case side4 => exact HC0_1.out); (case side5 => exact cz HR0_2.out HB.out); (case side6 => exact HC0_2.out); rintro e w53 ⟨rfl, hb⟩; refine ⟨_, rfl, ?_⟩; have n0_ := mkA (blk_below (blk_y BK157.out) hb); have n1_ := mkA (blk_below (blk_y BK158.out) hb); have n2_ := mkA (blk_below (blk_y BK159.out) hb); have n3_ := mkA (below_step (below_y HB.out) hb); clear BK157; clear BK158; clear BK159; clear HB; have BK157 := n0_; have BK158 := n1_; have BK159 := n2_; have HB := n3_; clear n0_ n1_ n2_ n3_; (try clear hb); (try clear hb2); (try clear hk); (try clear hi); have hnb54 := NB159_158.out; have hnc54 := NB158_159.out; have hcz55_0 := bc BK159.out 0 (.slice none 0 0) rfl; have hcz55_1 := bc BK159.out 1 (.slice none 0 0) rfl; have hcz55_2 := bc BK159.out 2 (.slice none 0 0) rfl; have hfz55_0 := blk_frozen BK159.out 0; have hfz55_1 := blk_frozen BK159.out 1; have hfz55_2 := blk_frozen BK159.out 2))
   refine bodyPost_ret (results_ct rfl _ _ gb159 67 #[.slice none 0 0, .slice none 0 0, .slice none 0 0] (0, 0) _ rfl (by (with_reducible repeat (first | refine blk_drewN ?_ _ | refine blk_drew ?_ | refine blk_alloc ?_ _)); refine blk_put (cs := #[.slice none 0 0, .slice none 0 0, .slice none 0 0]) ?_ 2 _ rfl; (with_reducible repeat (first | refine blk_drewN ?_ _ | refine blk_drew ?_ | refine blk_alloc ?_ _)); refine blk_put (cs := #[.slice none 0 0, .slice none 0 0, .slice none 0 0]) ?_ 1 _ rfl; (with_reducible repeat (first | refine blk_drewN ?_ _ | refine blk_drew ?_ | refine blk_alloc ?_ _)); refine blk_put (cs := #[.slice none 0 0, .slice none 0 0, .slice none 0 0]) ?_ 0 _ rfl; (with_reducible repeat (first | refine blk_drewN ?_ _ | refine blk_drew ?_ | refine blk_alloc ?_ _)); exact BK159.out) Try.underlying67 rfl (by kernel_rfl)) rfl ?_
   exact ⟨_, _, _, by first | rfl | (simp [errW_none, errW_some] <;> rfl) | (simp [*, errW_none, errW_some] <;> rfl), by first | exact Kd.R_nil _ _ _ _ _ | exact Kd.N_nil _ _ _ _ _ | exact Kd.V_nil _ _ _ _ _ | exact Kd.Q_nil _ _ _ _ _ | exact Kd.S_nil _ _ _ _ _, by first | exact Kd.R_nil _ _ _ _ _ | exact Kd.N_nil _ _ _ _ _ | exact Kd.V_nil _ _ _ _ _ | exact Kd.Q_nil _ _ _ _ _ | exact Kd.S_nil _ _ _ _ _, by first | exact Kd.R_nil _ _ _ _ _ | exact Kd.N_nil _ _ _ _ _ | exact Kd.V_nil _ _ _ _ _ | exact Kd.Q_nil _ _ _ _ _ | exact Kd.S_nil _ _ _ _ _, by repeat (first | (with_reducible first | exact HB.out | apply below_alloc | apply pw_below_drewN | apply below_drew1 | refine below_set ?_ GE157.out | refine below_set ?_ GE158.out | refine below_set ?_ GE159.out) | exact HB.out)⟩
 subst c4
 have H1 : ((dir_done.f k l0_0 a1_0 a1_1 a1_2 a1_3).bind fun bt161 => (if bt161.2 = 0 then ((api_Entry_91.f l0_1).bind fun t165 => ((api_DirOp.f l0_2).bind fun t168 => ((some (([(⟨a1_0, a1_1, a1_2, a1_3⟩ : S69)] : List (S69)) : List (S69))).bind fun y171 => (if t168.length + y171.length < 2932031007402 then (some (bt161.1, t165, (t168 ++ y171), 0)) else (none))))) else (some (([] : List (S77)), ([] : List (S77)), ([] : List (S69)), bt161.2)))) = some (r1, r2, r3, r4) := by rw [if_pos rfl] at H; exact H
 clear H
 have H := H1
 clear H1
 replace H := Option.bind_eq_some_iff.mp H
 obtain ⟨⟨t161, t164⟩, A50, H⟩ := H
 replace H : (if t164 = 0 then ((api_Entry_91.f l0_1).bind fun t165 => ((api_DirOp.f l0_2).bind fun t168 => ((some (([(⟨a1_0, a1_1, a1_2, a1_3⟩ : S69)] : List (S69)) : List (S69))).bind fun y171 => (if t168.length + y171.length < 2932031007402 then (some (t161, t165, (t168 ++ y171), 0)) else (none))))) else (some (([] : List (S77)), ([] : List (S77)), ([] : List (S69)), t164))) = some (r1, r2, r3, r4) := H
 have A5 := mkA A50
 clear A50
 by_cases c6 : t164 = 0
 rotate_left
 ·rw [if_neg c6] at H
  have c6b0 : (t164 == 0) = false := beq_eq_false_iff_ne.mpr c6
  have c6b1 : (t164 != 0) = true := bne_iff_ne.mpr c6
  as_aux_lemma =>
   simp only [Option.some.injEq, Prod.mk.injEq] at H
   obtain ⟨rfl, rfl, rfl, rfl⟩ := H
   go_enter Try.func42, Try.ntmps42
   go_wp2_with (first | ((with_reducible refine gate_load (t := 69) rfl ?_); refine load_row3 (t := 69) (g := gb158) ?hg BK158.out ?ho ?hb Try.underlying69 rfl ?hs ?_; (case hg => rfl); (case ho => refine ⟨_, rfl, ?_⟩; first | (with_reducible rfl) | (go_simp; done)); (case hb => (with_reducible repeat (first | refine blk_drewN ?_ _ | refine blk_drew ?_ | refine blk_alloc ?_ _)); with_reducible exact BK158.out); (case hs => kernel_rfl)) | ((with_reducible refine gate_dst (N := 2) rfl ?_); refine box_event ?hg (N := 2) ?hd (cs := #[.slice A0_0 l0_0.length c0_0, .slice A0_1 l0_1.length c0_1, .slice A0_2 l0_2.length c0_2]) (t := 67) ?hr ?_; (case hd => rfl); (case hg => rfl); (case hr => first | (go_simp; done) | (go_simp; rfl)); intro gb157 hg w35 hbox hb; have n0_ := mkA (below_step (below_y HB.out) hb); have n1_ := mkA (hbox); have n2_ := mkA ((gz hg HB.out : w.heap.size ≤ gb157)); have n3_ := mkA ((gz hg HB.out : w.heap.size ≤ gb157)); clear HB; have HB := n0_; have BK157 := n1_; have GW157 := n2_; have GE157 := n3_; clear n0_ n1_ n2_ n3_; clear hb hbox hg) | ((with_reducible refine gate_dst (N := 3) rfl ?_); refine box_event ?hg (N := 3) ?hd (cs := #[.int .i64 a1_0, .string a1_1, .string a1_2, .int .i64 a1_3]) (t := 69) ?hr ?_; (case hd => rfl); (case hg => rfl); (case hr => first | (go_simp; done) | (go_simp; rfl)); intro gb158 hg w36 hbox hb; have n0_ := mkA (blk_below (blk_y BK157.out) hb); have n1_ := mkA (below_step (below_y HB.out) hb); have n2_ := mkA (hbox); have n3_ := mkA ((gz hg HB.out : w.heap.size ≤ gb158)); have n4_ := mkA ((gz hg HB.out : w.heap.size ≤ gb158)); have n5_ := mkA ((gn hg BK157.out : gb157 ≠ gb158)); have n6_ := mkA ((gm hg BK157.out : gb158 ≠ gb157)); clear BK157; clear HB; have BK157 := n0_; have HB := n1_; have BK158 := n2_; have GW158 := n3_; have GE158 := n4_; have NB157_158 := n5_; have NB158_157 := n6_; clear n0_ n1_ n2_ n3_ n4_ n5_ n6_; clear hb hbox hg) | ((with_reducible refine gate_dst (N := 4) rfl ?_); refine box_event ?hg (N := 4) ?hd (cs := #[.slice none 0 0, .slice none 0 0, .slice none 0 0]) (t := 67) ?hr ?_; (case hd => rfl); (case hg => rfl); (case hr => first | (go_simp; done) | (go_simp; rfl)); intro gb159 hg w37 hbox hb; have n0_ := mkA (blk_below (blk_y BK157.out) hb); have n1_ := mkA (blk_below (blk_y BK158.out) hb); have n2_ := mkA (below_step (below_y HB.out) hb); have n3_ := mkA (hbox); have n4_ := mkA ((gz hg HB.out : w.heap.size ≤ gb159)); have n5_ := mkA ((gz hg HB.out : w.heap.size ≤ gb159)); have n6_ := mkA ((gn hg BK157.out : gb157 ≠ gb159)); have n7_ := mkA ((gm hg BK157.out : gb159 ≠ gb157)); have n8_ := mkA ((gn hg BK158.out : gb158 ≠ gb159)); have n9_ := mkA ((gm hg BK158.out : gb159 ≠ gb158)); clear BK157; clear BK158; clear HB; have BK157 := n0_; have BK158 := n1_; have HB := n2_; have BK159 := n3_; have GW159 := n4_; have GE159 := n5_; have NB157_159 := n6_; have NB159_157 := n7_; have NB158_159 := n8_; have NB159_158 := n9_; clear n0_ n1_ n2_ n3_ n4_ n5_ n6_ n7_ n8_ n9_; clear hb hbox hg; have hnb38 := NB157_158.out; have hnc38 := NB158_157.out; have hnb39 := NB157_159.out; have hnc39 := NB159_157.out; have hcz40_0 := bc BK157.out 0 (.slice A0_0 l0_0.length c0_0) rfl; have hcz40_1 := bc BK157.out 1 (.slice A0_1 l0_1.length c0_1) rfl; have hcz40_2 := bc BK157.out 2 (.slice A0_2 l0_2.length c0_2) rfl; have hfz40_0 := blk_frozen BK157.out 0; have hfz40_1 := blk_frozen BK157.out 1; have hfz40_2 := blk_frozen BK157.out 2) | ((with_reducible refine gate_callee (f := 48) rfl ?_); refine goesL_ (some 9) rfl rfl Try.func48 (by kernel_rfl) rfl #[.agg #[.slice A0_0 l0_0.length c0_0, .slice A0_1 l0_1.length c0_1, .slice A0_2 l0_2.length c0_2]] rfl ca ?_; (with_reducible refine (dir_Right.calls k _ _ l0_0 _ _ l0_1 _ _ l0_2 true _ ?side1 ?side2 ?side3 ?side4 ?side5 ?side6 A3.out).mono ?_); (case side1 => exact cz HR0_0.out HB.out); (case side2 => exact HC0_0.out); (case side3 => exact cz HR0_1.out HB.out); (case side4 => exact HC0_1.out); (case side5 => exact cz HR0_2.out HB.out); (case side6 => exact HC0_2.out); rintro e w41 ⟨rfl, hb⟩; refine ⟨_, rfl, ?_⟩; have n0_ := mkA (blk_below (blk_y BK157.out) hb); have n1_ := mkA (blk_below (blk_y BK158.out) hb); have n2_ := mkA (blk_below (blk_y BK159.out) hb); have n3_ := mkA (below_step (below_y HB.out) hb); clear BK157; clear BK158; clear BK159; clear HB; have BK157 := n0_; have BK158 := n1_; have BK159 := n2_; have HB := n3_; clear n0_ n1_ n2_ n3_; (try clear hb); (try clear hb2); (try clear hk); (try clear hi); have hcz42_0 := bc BK157.out 0 (.slice A0_0 l0_0.length c0_0) rfl; have hcz42_1 := bc BK157.out 1 (.slice A0_1 l0_1.length c0_1) rfl; have hcz42_2 := bc BK157.out 2 (.slice A0_2 l0_2.length c0_2) rfl; have hfz42_0 := blk_frozen BK157.out 0; have hfz42_1 := blk_frozen BK157.out 1; have hfz42_2 := blk_frozen BK157.out 2; have hnb43 := NB158_159.out; have hnc43 := NB159_158.out; have hcz44_0 := bc BK158.out 0 (.int .i64 a1_0) rfl; have hcz44_1 := bc BK158.out 1 (.string a1_1) rfl; have hcz44_2 := bc BK158.out 2 (.string a1_2) rfl; have hcz44_3 := bc BK158.out 3 (.int .i64 a1_3) rfl; have hfz44_0 := blk_frozen BK158.out 0; have hfz44_1 := blk_frozen BK158.out 1; have hfz44_2 := blk_frozen BK158.out 2; have hfz44_3 := blk_frozen BK158.out 3) | ((with_reducible refine gate_callee (f := 90) rfl ?_); refine goesL_ (some 16) rfl rfl Try.func90 (by kernel_rfl) rfl #[.slice A0_0 l0_0.length c0_0, .agg #[.int .i64 a1_0, .string a1_1, .string a1_2, .int .i64 a1_3]] rfl ca ?_; (with_reducible refine (dir_done.calls k _ _ l0_0 a1_0 a1_1 a1_2 a1_3 t161 t164 _ ?side1 ?side2 A5.out).mono ?_); (case side1 => exact cz HR0_0.out HB.out); (case side2 => exact HC0_0.out); rintro e w45 ⟨v162, rfl, ho0, hb⟩; refine ⟨_, rfl, ?_⟩; have n0_ := mkA (Kd.R_lower ho0 (below_size (below_y HB.out))); have n1_ := mkA (blk_below (blk_y BK157.out) hb); have n2_ := mkA (blk_below (blk_y BK158.out) hb); have n3_ := mkA (blk_below (blk_y BK159.out) hb); have n4_ := mkA (below_step (below_y HB.out) hb); clear BK157; clear BK158; clear BK159; clear HB; have HO163 := n0_; have BK157 := n1_; have BK158 := n2_; have BK159 := n3_; have HB := n4_; clear n0_ n1_ n2_ n3_ n4_; (try clear hb); (try clear hb2); (try clear hk); (try clear hi); (try clear ho0); have hcz46_0 := bc BK159.out 0 (.slice none 0 0) rfl; have hcz46_1 := bc BK159.out 1 (.slice none 0 0) rfl; have hcz46_2 := bc BK159.out 2 (.slice none 0 0) rfl; have hfz46_0 := blk_frozen BK159.out 0; have hfz46_1 := blk_frozen BK159.out 1; have hfz46_2 := blk_frozen BK159.out 2))
   refine bodyPost_ret (results_ct rfl _ _ gb159 67 #[.slice none 0 0, .slice none 0 0, .slice none 0 0] (0, 0) _ rfl (by (with_reducible repeat (first | refine blk_drewN ?_ _ | refine blk_drew ?_ | refine blk_alloc ?_ _)); refine blk_put (cs := #[.slice none 0 0, .slice none 0 0, .slice none 0 0]) ?_ 2 _ rfl; (with_reducible repeat (first | refine blk_drewN ?_ _ | refine blk_drew ?_ | refine blk_alloc ?_ _)); refine blk_put (cs := #[.slice none 0 0, .slice none 0 0, .slice none 0 0]) ?_ 1 _ rfl; (with_reducible repeat (first | refine blk_drewN ?_ _ | refine blk_drew ?_ | refine blk_alloc ?_ _)); refine blk_put (cs := #[.slice none 0 0, .slice none 0 0, .slice none 0 0]) ?_ 0 _ rfl; (with_reducible repeat (first | refine blk_drewN ?_ _ | refine blk_drew ?_ | refine blk_alloc ?_ _)); exact BK159.out) Try.underlying67 rfl (by kernel_rfl)) rfl ?_
   exact ⟨_, _, _, by first | rfl | (simp [errW_none, errW_some] <;> rfl) | (simp [*, errW_none, errW_some] <;> rfl), by first | exact Kd.R_nil _ _ _ _ _ | exact Kd.N_nil _ _ _ _ _ | exact Kd.V_nil _ _ _ _ _ | exact Kd.Q_nil _ _ _ _ _ | exact Kd.S_nil _ _ _ _ _, by first | exact Kd.R_nil _ _ _ _ _ | exact Kd.N_nil _ _ _ _ _ | exact Kd.V_nil _ _ _ _ _ | exact Kd.Q_nil _ _ _ _ _ | exact Kd.S_nil _ _ _ _ _, by first | exact Kd.R_nil _ _ _ _ _ | exact Kd.N_nil _ _ _ _ _ | exact Kd.V_nil _ _ _ _ _ | exact Kd.Q_nil _ _ _ _ _ | exact Kd.S_nil _ _ _ _ _, by repeat (first | (with_reducible first | exact HB.out | apply below_alloc | apply pw_below_drewN | apply below_drew1 | refine below_set ?_ GE157.out | refine below_set ?_ GE158.out | refine below_set ?_ GE159.out) | exact HB.out)⟩
 rw [if_pos c6] at H
 have c6b0 : (t164 == 0) = true := beq_iff_eq.mpr c6
 have c6b1 : (t164 != 0) = false := bne_eq_false_iff_eq.mpr c6
 clear c6
 replace H := Option.bind_eq_some_iff.mp H
 obtain ⟨t165, A70, H⟩ := H
 replace H : ((api_DirOp.f l0_2).bind fun t168 => ((some (([(⟨a1_0, a1_1, a1_2, a1_3⟩ : S69)] : List (S69)) : List (S69))).bind fun y171 => (if t168.length + y171.length < 2932031007402 then (some (t161, t165, (t168 ++ y171), 0)) else (none)))) = some (r1, r2, r3, r4) := H
 have A7 := mkA A70
 clear A70
 replace H := Option.bind_eq_some_iff.mp H
 obtain ⟨t168, A80, H⟩ := H
 replace H : ((some (([(⟨a1_0, a1_1, a1_2, a1_3⟩ : S69)] : List (S69)) : List (S69))).bind fun y171 => (if t168.length + y171.length < 2932031007402 then (some (t161, t165, (t168 ++ y171), 0)) else (none))) = some (r1, r2, r3, r4) := H
 have A8 := mkA A80
 clear A80
 obtain ⟨y171, hy171⟩ : ∃ y_ : List (S69), y_ = (([(⟨a1_0, a1_1, a1_2, a1_3⟩ : S69)] : List (S69))) := ⟨_, rfl⟩
 replace H : (if t168.length + y171.length < 2932031007402 then (some (t161, t165, (t168 ++ y171), 0)) else (none)) = some (r1, r2, r3, r4) := by first | (rw [hy171]; with_reducible exact H) | (have H2_ := (Option.bind_some _ _).symm.trans H; rw [hy171]; with_reducible exact H2_) | (have H2_ := (Option.bind_some _ _).symm.trans H; with_reducible exact H2_) | with_reducible exact H | (rw [hy171]; exact H) | exact H
 have Ny171 := mkA hy171
 clear hy171
 by_cases c9 : t168.length + y171.length < 2932031007402
 rotate_left
 ·rw [if_neg c9] at H
  exact absurd H (by simp)
 rw [if_pos c9] at H
 have LMc9 := mkA c9
 clear c9
 obtain ⟨y174, hy174⟩ : ∃ y_ : List (S69), y_ = (t168 ++ y171) := ⟨_, rfl⟩
 replace H : (some (t161, t165, y174, 0)) = some (r1, r2, r3, r4) := by first | (rw [hy174]; with_reducible exact H) | (have H2_ := (Option.bind_some _ _).symm.trans H; rw [hy174]; with_reducible exact H2_) | (have H2_ := (Option.bind_some _ _).symm.trans H; with_reducible exact H2_) | with_reducible exact H | (rw [hy174]; exact H) | exact H
 have Ny174 := mkA hy174
 clear hy174
 as_aux_lemma =>
  simp only [Option.some.injEq, Prod.mk.injEq] at H
  obtain ⟨rfl, rfl, rfl, rfl⟩ := H
  go_enter Try.func42, Try.ntmps42
  try go_wp2_with (first | ((with_reducible refine gate_load (t := 69) rfl ?_); refine load_row3 (t := 69) (g := gb158) ?hg BK158.out ?ho ?hb Try.underlying69 rfl ?hs ?_; (case hg => rfl); (case ho => refine ⟨_, rfl, ?_⟩; first | (with_reducible rfl) | (go_simp; done)); (case hb => (with_reducible repeat (first | refine blk_drewN ?_ _ | refine blk_drew ?_ | refine blk_alloc ?_ _)); with_reducible exact BK158.out); (case hs => kernel_rfl)) | ((with_reducible refine gate_dst (N := 2) rfl ?_); refine box_event ?hg (N := 2) ?hd (cs := #[.slice A0_0 l0_0.length c0_0, .slice A0_1 l0_1.length c0_1, .slice A0_2 l0_2.length c0_2]) (t := 67) ?hr ?_; (case hd => rfl); (case hg => rfl); (case hr => first | (go_simp; done) | (go_simp; rfl)); intro gb157 hg w10 hbox hb; have n0_ := mkA (below_step (below_y HB.out) hb); have n1_ := mkA (hbox); have n2_ := mkA ((gz hg HB.out : w.heap.size ≤ gb157)); have n3_ := mkA ((gz hg HB.out : w.heap.size ≤ gb157)); clear HB; have HB := n0_; have BK157 := n1_; have GW157 := n2_; have GE157 := n3_; clear n0_ n1_ n2_ n3_; clear hb hbox hg) | ((with_reducible refine gate_dst (N := 3) rfl ?_); refine box_event ?hg (N := 3) ?hd (cs := #[.int .i64 a1_0, .string a1_1, .string a1_2, .int .i64 a1_3]) (t := 69) ?hr ?_; (case hd => rfl); (case hg => rfl); (case hr => first | (go_simp; done) | (go_simp; rfl)); intro gb158 hg w11 hbox hb; have n0_ := mkA (blk_below (blk_y BK157.out) hb); have n1_ := mkA (below_step (below_y HB.out) hb); have n2_ := mkA (hbox); have n3_ := mkA ((gz hg HB.out : w.heap.size ≤ gb158)); have n4_ := mkA ((gz hg HB.out : w.heap.size ≤ gb158)); have n5_ := mkA ((gn hg BK157.out : gb157 ≠ gb158)); have n6_ := mkA ((gm hg BK157.out : gb158 ≠ gb157)); clear BK157; clear HB; have BK157 := n0_; have HB := n1_; have BK158 := n2_; have GW158 := n3_; have GE158 := n4_; have NB157_158 := n5_; have NB158_157 := n6_; clear n0_ n1_ n2_ n3_ n4_ n5_ n6_; clear hb hbox hg) | ((with_reducible refine gate_dst (N := 4) rfl ?_); refine box_event ?hg (N := 4) ?hd (cs := #[.slice none 0 0, .slice none 0 0, .slice none 0 0]) (t := 67) ?hr ?_; (case hd => rfl); (case hg => rfl); (case hr => first | (go_simp; done) | (go_simp; rfl)); intro gb159 hg w12 hbox hb; have n0_ := mkA (blk_below (blk_y BK157.out) hb); have n1_ := mkA (blk_below (blk_y BK158.out) hb); have n2_ := mkA (below_step (below_y HB.out) hb); have n3_ := mkA (hbox); have n4_ := mkA ((gz hg HB.out : w.heap.size ≤ gb159)); have n5_ := mkA ((gz hg HB.out : w.heap.size ≤ gb159)); have n6_ := mkA ((gn hg BK157.out : gb157 ≠ gb159)); have n7_ := mkA ((gm hg BK157.out : gb159 ≠ gb157)); have n8_ := mkA ((gn hg BK158.out : gb158 ≠ gb159)); have n9_ := mkA ((gm hg BK158.out : gb159 ≠ gb158)); clear BK157; clear BK158; clear HB; have BK157 := n0_; have BK158 := n1_; have HB := n2_; have BK159 := n3_; have GW159 := n4_; have GE159 := n5_; have NB157_159 := n6_; have NB159_157 := n7_; have NB158_159 := n8_; have NB159_158 := n9_; clear n0_ n1_ n2_ n3_ n4_ n5_ n6_ n7_ n8_ n9_; clear hb hbox hg; have hnb13 := NB157_158.out; have hnc13 := NB158_157.out; have hnb14 := NB157_159.out; have hnc14 := NB159_157.out; have hcz15_0 := bc BK157.out 0 (.slice A0_0 l0_0.length c0_0) rfl; have hcz15_1 := bc BK157.out 1 (.slice A0_1 l0_1.length c0_1) rfl; have hcz15_2 := bc BK157.out 2 (.slice A0_2 l0_2.length c0_2) rfl; have hfz15_0 := blk_frozen BK157.out 0; have hfz15_1 := blk_frozen BK157.out 1; have hfz15_2 := blk_frozen BK157.out 2) | ((with_reducible refine gate_callee (f := 48) rfl ?_); refine goesL_ (some 9) rfl rfl Try.func48 (by kernel_rfl) rfl #[.agg #[.slice A0_0 l0_0.length c0_0, .slice A0_1 l0_1.length c0_1, .slice A0_2 l0_2.length c0_2]] rfl ca ?_; (with_reducible refine (dir_Right.calls k _ _ l0_0 _ _ l0_1 _ _ l0_2 true _ ?side1 ?side2 ?side3 ?side4 ?side5 ?side6 A3.out).mono ?_); (case side1 => exact cz HR0_0.out HB.out); (case side2 => exact HC0_0.out); (case side3 => exact cz HR0_1.out HB.out); (case side4 => exact HC0_1.out); (case side5 => exact cz HR0_2.out HB.out); (case side6 => exact HC0_2.out); rintro e w16 ⟨rfl, hb⟩; refine ⟨_, rfl, ?_⟩; have n0_ := mkA (blk_below (blk_y BK157.out) hb); have n1_ := mkA (blk_below (blk_y BK158.out) hb); have n2_ := mkA (blk_below (blk_y BK159.out) hb); have n3_ := mkA (below_step (below_y HB.out) hb); clear BK157; clear BK158; clear BK159; clear HB; have BK157 := n0_; have BK158 := n1_; have BK159 := n2_; have HB := n3_; clear n0_ n1_ n2_ n3_; (try clear hb); (try clear hb2); (try clear hk); (try clear hi); have hcz17_0 := bc BK157.out 0 (.slice A0_0 l0_0.length c0_0) rfl; have hcz17_1 := bc BK157.out 1 (.slice A0_1 l0_1.length c0_1) rfl; have hcz17_2 := bc BK157.out 2 (.slice A0_2 l0_2.length c0_2) rfl; have hfz17_0 := blk_frozen BK157.out 0; have hfz17_1 := blk_frozen BK157.out 1; have hfz17_2 := blk_frozen BK157.out 2; have hnb18 := NB158_159.out; have hnc18 := NB159_158.out; have hcz19_0 := bc BK158.out 0 (.int .i64 a1_0) rfl; have hcz19_1 := bc BK158.out 1 (.string a1_1) rfl; have hcz19_2 := bc BK158.out 2 (.string a1_2) rfl; have hcz19_3 := bc BK158.out 3 (.int .i64 a1_3) rfl; have hfz19_0 := blk_frozen BK158.out 0; have hfz19_1 := blk_frozen BK158.out 1; have hfz19_2 := blk_frozen BK158.out 2; have hfz19_3 := blk_frozen BK158.out 3) | ((with_reducible refine gate_callee (f := 90) rfl ?_); refine goesL_ (some 16) rfl rfl Try.func90 (by kernel_rfl) rfl #[.slice A0_0 l0_0.length c0_0, .agg #[.int .i64 a1_0, .string a1_1, .string a1_2, .int .i64 a1_3]] rfl ca ?_; (with_reducible refine (dir_done.calls k _ _ l0_0 a1_0 a1_1 a1_2 a1_3 t161 t164 _ ?side1 ?side2 A5.out).mono ?_); (case side1 => exact cz HR0_0.out HB.out); (case side2 => exact HC0_0.out); rintro e w20 ⟨v162, rfl, ho0, hb⟩; refine ⟨_, rfl, ?_⟩; have n0_ := mkA (Kd.R_lower ho0 (below_size (below_y HB.out))); have n1_ := mkA (blk_below (blk_y BK157.out) hb); have n2_ := mkA (blk_below (blk_y BK158.out) hb); have n3_ := mkA (blk_below (blk_y BK159.out) hb); have n4_ := mkA (below_step (below_y HB.out) hb); clear BK157; clear BK158; clear BK159; clear HB; have HO163 := n0_; have BK157 := n1_; have BK158 := n2_; have BK159 := n3_; have HB := n4_; clear n0_ n1_ n2_ n3_ n4_; (try clear hb); (try clear hb2); (try clear hk); (try clear hi); (try clear ho0)))
  have n0_ := mkA (Kd.R_drew HO163.out)
  have n1_ := mkA (blk_drew BK157.out)
  have n2_ := mkA (blk_drew BK158.out)
  have n3_ := mkA (blk_drew BK159.out)
  have n4_ := mkA (below_drew1 HB.out)
  clear HO163 BK157 BK158 BK159 HB
  have HO163 := n0_
  have BK157 := n1_
  have BK158 := n2_
  have BK159 := n3_
  have HB := n4_
  clear n0_ n1_ n2_ n3_ n4_
  refine start_ (n := 13) (S := fun w' => w'.cell? ⟨gb157, 0, none⟩ = some (.slice A0_0 l0_0.length c0_0) ∧ w'.cell? ⟨gb157, 1, none⟩ = some (.slice A0_1 l0_1.length c0_1) ∧ w'.cell? ⟨gb157, 2, none⟩ = some (.slice A0_2 l0_2.length c0_2) ∧ w'.cell? ⟨gb158, 0, none⟩ = some (.int .i64 a1_0) ∧ w'.cell? ⟨gb158, 1, none⟩ = some (.string a1_1) ∧ w'.cell? ⟨gb158, 2, none⟩ = some (.string a1_2) ∧ w'.cell? ⟨gb158, 3, none⟩ = some (.int .i64 a1_3)) (ds := []) #[false, false, false, false, false, false, false, false, false, false, false, false, false] (by kernel_rfl) rfl rfl ⟨(blk_cell BK157.out 0).trans rfl, (blk_cell BK157.out 1).trans rfl, (blk_cell BK157.out 2).trans rfl, (blk_cell BK158.out 0).trans rfl, (blk_cell BK158.out 1).trans rfl, (blk_cell BK158.out 2).trans rfl, (blk_cell BK158.out 3).trans rfl⟩ (fun hHeld => ?_); refine with_tabW dir_Do.tab6 dir_Do.bits6 (fun HT_ HW_ => ?_)
  generalize w20.drew = w21 at HO163 BK157 BK158 BK159 HB hHeld ⊢
  refine pure_ (i := 0) (N := some 23) (v := ?_) (a' := ?_) #[true, false, false, false, false, false, false, false, false, false, false, false, false] rfl rfl (any_of HT_.out (by kernel_rfl)) (fun _ _ _ h => h) (Or.inl ⟨by rfl, ?_⟩) ?_ ?_
  rotate_left
  ·intro w'
   go_simp
   with_reducible rfl
  rotate_left
  ·simp only [Act.put, sA, s0, sS, i64_w, i32_w]
   rfl
  refine pure_ (i := 1) (N := some 24) (v := ?_) (a' := ?_) #[true, true, false, false, false, false, false, false, false, false, false, false, false] rfl rfl (any_of HT_.out (by kernel_rfl)) (fun _ _ _ h => h) (Or.inl ⟨by rfl, ?_⟩) ?_ ?_
  rotate_left
  ·intro w'
   go_simp
   with_reducible rfl
  rotate_left
  ·simp only [Act.put, sA, s0, sS, i64_w, i32_w]
   rfl
  refine pure_ (i := 4) (N := some 27) (v := ?_) (a' := ?_) #[true, true, false, false, true, false, false, false, false, false, false, false, false] rfl rfl (any_of HT_.out (by kernel_rfl)) (fun _ _ _ h => h) (Or.inl ⟨by rfl, ?_⟩) ?_ ?_
  rotate_left
  ·intro w'
   go_simp
   with_reducible rfl
  rotate_left
  ·simp only [Act.put, sA, s0, sS, i64_w, i32_w]
   rfl
  refine take_ (i := 2) (N := some 25) (v := ?_) (a' := ?_) #[true, true, true, false, true, false, false, false, false, false, false, false, false] rfl rfl (take_ofW HT_.out HW_.out (by kernel_rfl)) (fun _ _ _ h => h) (Or.inl ⟨by rfl, ?_⟩) hHeld ?_ ?_
  rotate_left
  ·rintro w' ⟨s0, s1, s2, s3, s4, s5, s6⟩
   go_simp
   with_reducible rfl
  rotate_left
  ·simp only [Act.put, sA, s0, sS, i64_w, i32_w]
   rfl
  refine take_ (i := 5) (N := some 28) (v := ?_) (a' := ?_) #[true, true, true, false, true, true, false, false, false, false, false, false, false] rfl rfl (take_ofW HT_.out HW_.out (by kernel_rfl)) (fun _ _ _ h => h) (Or.inl ⟨by rfl, ?_⟩) hHeld ?_ ?_
  rotate_left
  ·rintro w' ⟨s0, s1, s2, s3, s4, s5, s6⟩
   go_simp
   with_reducible rfl
  rotate_left
  ·simp only [Act.put, sA, s0, sS, i64_w, i32_w]
   rfl
  refine take_ (i := 7) (N := some 30) (v := ?_) (a' := ?_) #[true, true, true, false, true, true, false, true, false, false, false, false, false] rfl rfl (take_ofW HT_.out HW_.out (by kernel_rfl)) (fun _ _ _ h => h) (Or.inl ⟨by rfl, ?_⟩) hHeld ?_ ?_
  rotate_left
  ·rintro w' ⟨s0, s1, s2, s3, s4, s5, s6⟩
   first | (have hz_ := fun (a : Act) (o : Oper) (x : Operand) (ho : o.op = .load 69 x) (hx : a.eval x = _) => exec_load_at (P := Try.prog) (W := w') (cs := [_, _, _]) ho hx Try.underlying69 rfl (by kernel_rfl) s3 ⟨s4, s5, s6, trivial⟩; refine (hz_ _ _ (.tmp 3) ?_ ?_).trans ?_; (focus rfl); (focus (first | (with_reducible rfl) | (go_simp; done))); with_reducible rfl) | (go_simp; with_reducible rfl)
  rotate_left
  ·simp only [Act.put, sA, s0, sS, i64_w, i32_w]
   rfl
  refine join_ (σ := Value × Value × Value) 4 #[true, true, true, true, true, true, true, true, true, false, false, false, false] (fun s_ => [(26, s_.1), (29, s_.2.1), (31, s_.2.2)]) (fun s_ w' => (w'.cell? ⟨gb157, 0, none⟩ = some (.slice A0_0 l0_0.length c0_0) ∧ w'.cell? ⟨gb157, 1, none⟩ = some (.slice A0_1 l0_1.length c0_1) ∧ w'.cell? ⟨gb157, 2, none⟩ = some (.slice A0_2 l0_2.length c0_2) ∧ w'.cell? ⟨gb158, 0, none⟩ = some (.int .i64 a1_0) ∧ w'.cell? ⟨gb158, 1, none⟩ = some (.string a1_1) ∧ w'.cell? ⟨gb158, 2, none⟩ = some (.string a1_2) ∧ w'.cell? ⟨gb158, 3, none⟩ = some (.int .i64 a1_3)) ∧ (Kd.R k77 77 w' w.heap.size (fun k_ => some k_ ≠ (s_.1 : Value).ownBlock) v162 t161) ∧ (Kd.R k77 77 w' w.heap.size (fun k_ => some k_ ≠ (v162 : Value).ownBlock) s_.1 t165) ∧ (Kd.R k69 69 w' w.heap.size (fun k_ => some k_ ≠ (s_.2.2 : Value).ownBlock ∧ k_ ≠ gb158) s_.2.1 t168) ∧ (Kd.R k69 69 w' w.heap.size (fun k_ => some k_ ≠ (s_.2.1 : Value).ownBlock ∧ k_ ≠ gb158) s_.2.2 y171) ∧ (w'.heap[gb157]? = some (.cells #[.slice A0_0 l0_0.length c0_0, .slice A0_1 l0_1.length c0_1, .slice A0_2 l0_2.length c0_2] 67 (0, 0))) ∧ (w'.heap[gb158]? = some (.cells #[.int .i64 a1_0, .string a1_1, .string a1_2, .int .i64 a1_3] 69 (0, 0))) ∧ (w'.heap[gb159]? = some (.cells #[.slice none 0 0, .slice none 0 0, .slice none 0 0] 67 (0, 0))) ∧ (Below w.heap.size w w')) ?_ ?_
  rotate_left
  ·intro hCont
   refine two_ (i := 3) (j := 8) (Ni := some 26) (Nj := some 31) #[true, true, true, true, true, true, false, true, false, false, false, false, false] #[true, true, true, false, true, true, false, true, true, false, false, false, false] rfl rfl rfl rfl (two_of HT_.out (by kernel_rfl)) (by decide) (by decide) (fun K hK => ?_) (fun K hK => ?_)
   ·skip
    refine goes_ Try.func91 (by kernel_rfl) rfl #[.slice A0_1 l0_1.length c0_1] (by rfl) rfl rfl ca ?_
    with_reducible refine (api_Entry_91.calls _ _ l0_1 t165 _ ?side1 ?side2 A7.out).mono ?_
    (case side1 => exact cz HR0_1.out HB.out)
    (case side2 => exact HC0_1.out)
    rintro e w22 ⟨v166, rfl, ho0, hb⟩
    refine ⟨_, rfl, ?_⟩
    have n0_ := mkA (Kd.R_elder' (Kd.R_y HO163.out) (Kd.R_base ho0) hb)
    have n1_ := mkA (Kd.R_lower (Kd.R_new' ho0 (Kd.R_lt (Kd.R_y HO163.out))) (below_size (below_y HB.out)))
    have n2_ := mkA (blk_below (blk_y BK157.out) hb)
    have n3_ := mkA (blk_below (blk_y BK158.out) hb)
    have n4_ := mkA (blk_below (blk_y BK159.out) hb)
    have n5_ := mkA (below_step (below_y HB.out) hb)
    clear HO163 BK157 BK158 BK159 HB
    have HO163 := n0_
    have HO167 := n1_
    have BK157 := n2_
    have BK158 := n3_
    have BK159 := n4_
    have HB := n5_
    clear n0_ n1_ n2_ n3_ n4_ n5_
    (try clear hb)
    (try clear hb2)
    (try clear hk)
    (try clear hi)
    (try clear ho0)
    refine hK.out _ _ ⟨(blk_cell BK157.out 0).trans rfl, (blk_cell BK157.out 1).trans rfl, (blk_cell BK157.out 2).trans rfl, (blk_cell BK158.out 0).trans rfl, (blk_cell BK158.out 1).trans rfl, (blk_cell BK158.out 2).trans rfl, (blk_cell BK158.out 3).trans rfl⟩ (fun hHeld => ?_)
    clear hK K
    refine norm_ (a' := ?_) ?_ ?_
    rotate_left
    ·show Act.put _ (some 26) _ = _
     simp only [Act.put, sA, s0, sS, i64_w, i32_w]
     rfl
    refine two_ (i := 6) (j := 8) (Ni := some 29) (Nj := some 31) #[true, true, true, true, true, true, true, true, false, false, false, false, false] #[true, true, true, true, true, true, false, true, true, false, false, false, false] rfl rfl rfl rfl (two_of HT_.out (by kernel_rfl)) (by decide) (by decide) (fun K hK => ?_) (fun K hK => ?_)
    ·skip
     refine goes_ Try.func92 (by kernel_rfl) rfl #[.slice A0_2 l0_2.length c0_2] (by rfl) rfl rfl ca ?_
     with_reducible refine (api_DirOp.calls _ _ l0_2 t168 _ ?side1 ?side2 A8.out).mono ?_
     (case side1 => exact cz HR0_2.out HB.out)
     (case side2 => exact HC0_2.out)
     rintro e w23 ⟨v169, rfl, ho0, hb⟩
     refine ⟨_, rfl, ?_⟩
     have n0_ := mkA (Kd.R_below (Kd.R_y HO163.out) hb)
     have n1_ := mkA (Kd.R_below (Kd.R_y HO167.out) hb)
     have n2_ := mkA (Kd.R_lower (Kd.R_newB ho0 (blk_y BK158.out)) (below_size (below_y HB.out)))
     have n3_ := mkA (blk_below (blk_y BK157.out) hb)
     have n4_ := mkA (blk_below (blk_y BK158.out) hb)
     have n5_ := mkA (blk_below (blk_y BK159.out) hb)
     have n6_ := mkA (below_step (below_y HB.out) hb)
     clear HO163 HO167 BK157 BK158 BK159 HB
     have HO163 := n0_
     have HO167 := n1_
     have HO170 := n2_
     have BK157 := n3_
     have BK158 := n4_
     have BK159 := n5_
     have HB := n6_
     clear n0_ n1_ n2_ n3_ n4_ n5_ n6_
     (try clear hb)
     (try clear hb2)
     (try clear hk)
     (try clear hi)
     (try clear ho0)
     refine hK.out _ _ ⟨(blk_cell BK157.out 0).trans rfl, (blk_cell BK157.out 1).trans rfl, (blk_cell BK157.out 2).trans rfl, (blk_cell BK158.out 0).trans rfl, (blk_cell BK158.out 1).trans rfl, (blk_cell BK158.out 2).trans rfl, (blk_cell BK158.out 3).trans rfl⟩ (fun hHeld => ?_)
     clear hK K
     refine norm_ (a' := ?_) ?_ ?_
     rotate_left
     ·show Act.put _ (some 29) _ = _
      simp only [Act.put, sA, s0, sS, i64_w, i32_w]
      rfl
     refine one_ (i := 8) (N := some 31) #[true, true, true, true, true, true, true, true, true, false, false, false, false] rfl rfl (one_of HT_.out (by kernel_rfl)) (by decide) (fun K hK => ?_)
     refine Kd.R_lit_step k69 _ 69 ?hg (N := 31) ?hd (xs := ([(⟨a1_0, a1_1, a1_2, a1_3⟩ : S69)] : List (S69))) (inner := [.int .i64 a1_0, .string a1_1, .string a1_2, .int .i64 a1_3]) (ok := fun _ => True) (okp := fun _ => True) ?hr ?hp (fun _ hk => hk) trivial (Below.refl _ _) (Nat.le_refl _) (by simp) ?_; (case hd => rfl); (case hg => rfl); (case hr => first | (go_simp; done) | (go_simp; rfl)); (case hp => exact (Reps.c4 (show Kd.M k69 _ _ _ (⟨a1_0, a1_1, a1_2, a1_3⟩ : S69) [.int .i64 a1_0, .string a1_1, .string a1_2, .int .i64 a1_3] from (k69_mkM _ _ _ (⟨a1_0, a1_1, a1_2, a1_3⟩ : S69) )) (Reps.none _ _)))
     intro v172 w24 ho25 hb hg_ hnew_
     clear hg_ hnew_
     (first | rw [← Ny171.out] at ho25 | (simp only [Int.reduceToNat] at ho25; rw [← Ny171.out] at ho25))
     have n0_ := mkA (Kd.R_below (Kd.R_y HO163.out) hb)
     have n1_ := mkA (Kd.R_below (Kd.R_y HO167.out) hb)
     have n2_ := mkA (Kd.R_elder' (Kd.R_y HO170.out) (Kd.R_base ho25) hb)
     have n3_ := mkA (Kd.R_lower (Kd.R_newB (Kd.R_new' ho25 (Kd.R_lt (Kd.R_y HO170.out))) (blk_y BK158.out)) (below_size (below_y HB.out)))
     have n4_ := mkA (blk_below (blk_y BK157.out) hb)
     have n5_ := mkA (blk_below (blk_y BK158.out) hb)
     have n6_ := mkA (blk_below (blk_y BK159.out) hb)
     have n7_ := mkA (below_step (below_y HB.out) hb)
     clear HO163 HO167 HO170 BK157 BK158 BK159 HB
     have HO163 := n0_
     have HO167 := n1_
     have HO170 := n2_
     have HO173 := n3_
     have BK157 := n4_
     have BK158 := n5_
     have BK159 := n6_
     have HB := n7_
     clear n0_ n1_ n2_ n3_ n4_ n5_ n6_ n7_ hb ho25
     refine hK.out _ _ ⟨(blk_cell BK157.out 0).trans rfl, (blk_cell BK157.out 1).trans rfl, (blk_cell BK157.out 2).trans rfl, (blk_cell BK158.out 0).trans rfl, (blk_cell BK158.out 1).trans rfl, (blk_cell BK158.out 2).trans rfl, (blk_cell BK158.out 3).trans rfl⟩ (fun hHeld => ?_)
     clear hK K
     refine norm_ (a' := ?_) ?_ ?_
     rotate_left
     ·show Act.put _ (some 31) _ = _
      simp only [Act.put, sA, s0, sS, i64_w, i32_w]
      rfl
     exact norm_ (by simp only [putAll, Act.put, sA, s0, sS]) (hCont (v166, v169, v172) _ ⟨hHeld, (by (with_reducible repeat (first | apply Kd.R_alloc | apply Kd.R_drewN | apply Kd.R_drew)); exact Kd.R_mono HO163.out (fun _ hk => hk.2)), (by (with_reducible repeat (first | apply Kd.R_alloc | apply Kd.R_drewN | apply Kd.R_drew)); exact Kd.R_mono HO167.out (fun _ hk => hk.2)), (by (with_reducible repeat (first | apply Kd.R_alloc | apply Kd.R_drewN | apply Kd.R_drew)); exact Kd.R_mono HO170.out (fun _ hk => ⟨hk.2, hk.1.2⟩)), (by (with_reducible repeat (first | apply Kd.R_alloc | apply Kd.R_drewN | apply Kd.R_drew)); exact Kd.R_mono HO173.out (fun _ hk => ⟨hk.1.2, hk.2⟩)), (blk_y BK157.out), (blk_y BK158.out), (blk_y BK159.out), (below_y HB.out)⟩)
    ·skip
     refine Kd.R_lit_step k69 _ 69 ?hg (N := 31) ?hd (xs := ([(⟨a1_0, a1_1, a1_2, a1_3⟩ : S69)] : List (S69))) (inner := [.int .i64 a1_0, .string a1_1, .string a1_2, .int .i64 a1_3]) (ok := fun _ => True) (okp := fun _ => True) ?hr ?hp (fun _ hk => hk) trivial (Below.refl _ _) (Nat.le_refl _) (by simp) ?_; (case hd => rfl); (case hg => rfl); (case hr => first | (go_simp; done) | (go_simp; rfl)); (case hp => exact (Reps.c4 (show Kd.M k69 _ _ _ (⟨a1_0, a1_1, a1_2, a1_3⟩ : S69) [.int .i64 a1_0, .string a1_1, .string a1_2, .int .i64 a1_3] from (k69_mkM _ _ _ (⟨a1_0, a1_1, a1_2, a1_3⟩ : S69) )) (Reps.none _ _)))
     intro v172 w23 ho24 hb hg_ hnew_
     clear hg_ hnew_
     (first | rw [← Ny171.out] at ho24 | (simp only [Int.reduceToNat] at ho24; rw [← Ny171.out] at ho24))
     have n0_ := mkA (Kd.R_below (Kd.R_y HO163.out) hb)
     have n1_ := mkA (Kd.R_below (Kd.R_y HO167.out) hb)
     have n2_ := mkA (Kd.R_lower (Kd.R_newB ho24 (blk_y BK158.out)) (below_size (below_y HB.out)))
     have n3_ := mkA (blk_below (blk_y BK157.out) hb)
     have n4_ := mkA (blk_below (blk_y BK158.out) hb)
     have n5_ := mkA (blk_below (blk_y BK159.out) hb)
     have n6_ := mkA (below_step (below_y HB.out) hb)
     clear HO163 HO167 BK157 BK158 BK159 HB
     have HO163 := n0_
     have HO167 := n1_
     have HO173 := n2_
     have BK157 := n3_
     have BK158 := n4_
     have BK159 := n5_
     have HB := n6_
     clear n0_ n1_ n2_ n3_ n4_ n5_ n6_ hb ho24
     refine hK.out _ _ ⟨(blk_cell BK157.out 0).trans rfl, (blk_cell BK157.out 1).trans rfl, (blk_cell BK157.out 2).trans rfl, (blk_cell BK158.out 0).trans rfl, (blk_cell BK158.out 1).trans rfl, (blk_cell BK158.out 2).trans rfl, (blk_cell BK158.out 3).trans rfl⟩ (fun hHeld => ?_)
     clear hK K
     refine norm_ (a' := ?_) ?_ ?_
     rotate_left
     ·show Act.put _ (some 31) _ = _
      simp only [Act.put, sA, s0, sS, i64_w, i32_w]
      rfl
     refine one_ (i := 6) (N := some 29) #[true, true, true, true, true, true, true, true, true, false, false, false, false] rfl rfl (one_of HT_.out (by kernel_rfl)) (by decide) (fun K hK => ?_)
     refine goes_ Try.func92 (by kernel_rfl) rfl #[.slice A0_2 l0_2.length c0_2] (by rfl) rfl rfl ca ?_
     with_reducible refine (api_DirOp.calls _ _ l0_2 t168 _ ?side1 ?side2 A8.out).mono ?_
     (case side1 => exact cz HR0_2.out HB.out)
     (case side2 => exact HC0_2.out)
     rintro e w25 ⟨v169, rfl, ho0, hb⟩
     refine ⟨_, rfl, ?_⟩
     have n0_ := mkA (Kd.R_below (Kd.R_y HO163.out) hb)
     have n1_ := mkA (Kd.R_below (Kd.R_y HO167.out) hb)
     have n2_ := mkA (Kd.R_elder' (Kd.R_y HO173.out) (Kd.R_base ho0) hb)
     have n3_ := mkA (Kd.R_lower (Kd.R_newB (Kd.R_new' ho0 (Kd.R_lt (Kd.R_y HO173.out))) (blk_y BK158.out)) (below_size (below_y HB.out)))
     have n4_ := mkA (blk_below (blk_y BK157.out) hb)
     have n5_ := mkA (blk_below (blk_y BK158.out) hb)
     have n6_ := mkA (blk_below (blk_y BK159.out) hb)
     have n7_ := mkA (below_step (below_y HB.out) hb)
     clear HO163 HO167 HO173 BK157 BK158 BK159 HB
     have HO163 := n0_
     have HO167 := n1_
     have HO173 := n2_
     have HO170 := n3_
     have BK157 := n4_
     have BK158 := n5_
     have BK159 := n6_
     have HB := n7_
     clear n0_ n1_ n2_ n3_ n4_ n5_ n6_ n7_
     (try clear hb)
     (try clear hb2)
     (try clear hk)
     (try clear hi)
     (try clear ho0)
     refine hK.out _ _ ⟨(blk_cell BK157.out 0).trans rfl, (blk_cell BK157.out 1).trans rfl, (blk_cell BK157.out 2).trans rfl, (blk_cell BK158.out 0).trans rfl, (blk_cell BK158.out 1).trans rfl, (blk_cell BK158.out 2).trans rfl, (blk_cell BK158.out 3).trans rfl⟩ (fun hHeld => ?_)
     clear hK K
     refine norm_ (a' := ?_) ?_ ?_
     rotate_left
     ·show Act.put _ (some 29) _ = _
      simp only [Act.put, sA, s0, sS, i64_w, i32_w]
      rfl
     exact norm_ (by simp only [putAll, Act.put, sA, s0, sS]) (hCont (v166, v169, v172) _ ⟨hHeld, (by (with_reducible repeat (first | apply Kd.R_alloc | apply Kd.R_drewN | apply Kd.R_drew)); exact Kd.R_mono HO163.out (fun _ hk => hk.2)), (by (with_reducible repeat (first | apply Kd.R_alloc | apply Kd.R_drewN | apply Kd.R_drew)); exact Kd.R_mono HO167.out (fun _ hk => hk.2)), (by (with_reducible repeat (first | apply Kd.R_alloc | apply Kd.R_drewN | apply Kd.R_drew)); exact Kd.R_mono HO170.out (fun _ hk => ⟨hk.1.2, hk.2⟩)), (by (with_reducible repeat (first | apply Kd.R_alloc | apply Kd.R_drewN | apply Kd.R_drew)); exact Kd.R_mono HO173.out (fun _ hk => ⟨hk.2, hk.1.2⟩)), (blk_y BK157.out), (blk_y BK158.out), (blk_y BK159.out), (below_y HB.out)⟩)
   ·skip
    refine Kd.R_lit_step k69 _ 69 ?hg (N := 31) ?hd (xs := ([(⟨a1_0, a1_1, a1_2, a1_3⟩ : S69)] : List (S69))) (inner := [.int .i64 a1_0, .string a1_1, .string a1_2, .int .i64 a1_3]) (ok := fun _ => True) (okp := fun _ => True) ?hr ?hp (fun _ hk => hk) trivial (Below.refl _ _) (Nat.le_refl _) (by simp) ?_; (case hd => rfl); (case hg => rfl); (case hr => first | (go_simp; done) | (go_simp; rfl)); (case hp => exact (Reps.c4 (show Kd.M k69 _ _ _ (⟨a1_0, a1_1, a1_2, a1_3⟩ : S69) [.int .i64 a1_0, .string a1_1, .string a1_2, .int .i64 a1_3] from (k69_mkM _ _ _ (⟨a1_0, a1_1, a1_2, a1_3⟩ : S69) )) (Reps.none _ _)))
    intro v172 w22 ho23 hb hg_ hnew_
    clear hg_ hnew_
    (first | rw [← Ny171.out] at ho23 | (simp only [Int.reduceToNat] at ho23; rw [← Ny171.out] at ho23))
    have n0_ := mkA (Kd.R_below (Kd.R_y HO163.out) hb)
    have n1_ := mkA (Kd.R_lower (Kd.R_newB ho23 (blk_y BK158.out)) (below_size (below_y HB.out)))
    have n2_ := mkA (blk_below (blk_y BK157.out) hb)
    have n3_ := mkA (blk_below (blk_y BK158.out) hb)
    have n4_ := mkA (blk_below (blk_y BK159.out) hb)
    have n5_ := mkA (below_step (below_y HB.out) hb)
    clear HO163 BK157 BK158 BK159 HB
    have HO163 := n0_
    have HO173 := n1_
    have BK157 := n2_
    have BK158 := n3_
    have BK159 := n4_
    have HB := n5_
    clear n0_ n1_ n2_ n3_ n4_ n5_ hb ho23
    refine hK.out _ _ ⟨(blk_cell BK157.out 0).trans rfl, (blk_cell BK157.out 1).trans rfl, (blk_cell BK157.out 2).trans rfl, (blk_cell BK158.out 0).trans rfl, (blk_cell BK158.out 1).trans rfl, (blk_cell BK158.out 2).trans rfl, (blk_cell BK158.out 3).trans rfl⟩ (fun hHeld => ?_)
    clear hK K
    refine norm_ (a' := ?_) ?_ ?_
    rotate_left
    ·show Act.put _ (some 31) _ = _
     simp only [Act.put, sA, s0, sS, i64_w, i32_w]
     rfl
    refine one_ (i := 3) (N := some 26) #[true, true, true, true, true, true, false, true, true, false, false, false, false] rfl rfl (one_of HT_.out (by kernel_rfl)) (by decide) (fun K hK => ?_)
    refine goes_ Try.func91 (by kernel_rfl) rfl #[.slice A0_1 l0_1.length c0_1] (by rfl) rfl rfl ca ?_
    with_reducible refine (api_Entry_91.calls _ _ l0_1 t165 _ ?side1 ?side2 A7.out).mono ?_
    (case side1 => exact cz HR0_1.out HB.out)
    (case side2 => exact HC0_1.out)
    rintro e w24 ⟨v166, rfl, ho0, hb⟩
    refine ⟨_, rfl, ?_⟩
    have n0_ := mkA (Kd.R_elder' (Kd.R_y HO163.out) (Kd.R_base ho0) hb)
    have n1_ := mkA (Kd.R_below (Kd.R_y HO173.out) hb)
    have n2_ := mkA (Kd.R_lower (Kd.R_new' ho0 (Kd.R_lt (Kd.R_y HO163.out))) (below_size (below_y HB.out)))
    have n3_ := mkA (blk_below (blk_y BK157.out) hb)
    have n4_ := mkA (blk_below (blk_y BK158.out) hb)
    have n5_ := mkA (blk_below (blk_y BK159.out) hb)
    have n6_ := mkA (below_step (below_y HB.out) hb)
    clear HO163 HO173 BK157 BK158 BK159 HB
    have HO163 := n0_
    have HO173 := n1_
    have HO167 := n2_
    have BK157 := n3_
    have BK158 := n4_
    have BK159 := n5_
    have HB := n6_
    clear n0_ n1_ n2_ n3_ n4_ n5_ n6_
    (try clear hb)
    (try clear hb2)
    (try clear hk)
    (try clear hi)
    (try clear ho0)
    refine hK.out _ _ ⟨(blk_cell BK157.out 0).trans rfl, (blk_cell BK157.out 1).trans rfl, (blk_cell BK157.out 2).trans rfl, (blk_cell BK158.out 0).trans rfl, (blk_cell BK158.out 1).trans rfl, (blk_cell BK158.out 2).trans rfl, (blk_cell BK158.out 3).trans rfl⟩ (fun hHeld => ?_)
    clear hK K
    refine norm_ (a' := ?_) ?_ ?_
    rotate_left
    ·show Act.put _ (some 26) _ = _
     simp only [Act.put, sA, s0, sS, i64_w, i32_w]
     rfl
    refine one_ (i := 6) (N := some 29) #[true, true, true, true, true, true, true, true, true, false, false, false, false] rfl rfl (one_of HT_.out (by kernel_rfl)) (by decide) (fun K hK => ?_)
    refine goes_ Try.func92 (by kernel_rfl) rfl #[.slice A0_2 l0_2.length c0_2] (by rfl) rfl rfl ca ?_
    with_reducible refine (api_DirOp.calls _ _ l0_2 t168 _ ?side1 ?side2 A8.out).mono ?_
    (case side1 => exact cz HR0_2.out HB.out)
    (case side2 => exact HC0_2.out)
    rintro e w25 ⟨v169, rfl, ho0, hb⟩
    refine ⟨_, rfl, ?_⟩
    have n0_ := mkA (Kd.R_below (Kd.R_y HO163.out) hb)
    have n1_ := mkA (Kd.R_elder' (Kd.R_y HO173.out) (Kd.R_base ho0) hb)
    have n2_ := mkA (Kd.R_below (Kd.R_y HO167.out) hb)
    have n3_ := mkA (Kd.R_lower (Kd.R_newB (Kd.R_new' ho0 (Kd.R_lt (Kd.R_y HO173.out))) (blk_y BK158.out)) (below_size (below_y HB.out)))
    have n4_ := mkA (blk_below (blk_y BK157.out) hb)
    have n5_ := mkA (blk_below (blk_y BK158.out) hb)
    have n6_ := mkA (blk_below (blk_y BK159.out) hb)
    have n7_ := mkA (below_step (below_y HB.out) hb)
    clear HO163 HO173 HO167 BK157 BK158 BK159 HB
    have HO163 := n0_
    have HO173 := n1_
    have HO167 := n2_
    have HO170 := n3_
    have BK157 := n4_
    have BK158 := n5_
    have BK159 := n6_
    have HB := n7_
    clear n0_ n1_ n2_ n3_ n4_ n5_ n6_ n7_
    (try clear hb)
    (try clear hb2)
    (try clear hk)
    (try clear hi)
    (try clear ho0)
    refine hK.out _ _ ⟨(blk_cell BK157.out 0).trans rfl, (blk_cell BK157.out 1).trans rfl, (blk_cell BK157.out 2).trans rfl, (blk_cell BK158.out 0).trans rfl, (blk_cell BK158.out 1).trans rfl, (blk_cell BK158.out 2).trans rfl, (blk_cell BK158.out 3).trans rfl⟩ (fun hHeld => ?_)
    clear hK K
    refine norm_ (a' := ?_) ?_ ?_
    rotate_left
    ·show Act.put _ (some 29) _ = _
     simp only [Act.put, sA, s0, sS, i64_w, i32_w]
     rfl
    exact norm_ (by simp only [putAll, Act.put, sA, s0, sS]) (hCont (v166, v169, v172) _ ⟨hHeld, (by (with_reducible repeat (first | apply Kd.R_alloc | apply Kd.R_drewN | apply Kd.R_drew)); exact Kd.R_mono HO163.out (fun _ hk => hk.2)), (by (with_reducible repeat (first | apply Kd.R_alloc | apply Kd.R_drewN | apply Kd.R_drew)); exact Kd.R_mono HO167.out (fun _ hk => hk.2)), (by (with_reducible repeat (first | apply Kd.R_alloc | apply Kd.R_drewN | apply Kd.R_drew)); exact Kd.R_mono HO170.out (fun _ hk => ⟨hk.1.2, hk.2⟩)), (by (with_reducible repeat (first | apply Kd.R_alloc | apply Kd.R_drewN | apply Kd.R_drew)); exact Kd.R_mono HO173.out (fun _ hk => ⟨hk.2, hk.1.2⟩)), (blk_y BK157.out), (blk_y BK158.out), (blk_y BK159.out), (below_y HB.out)⟩)
  rintro ⟨v166, v169, v172⟩ w26 ⟨hS_, h0_, h1_, h2_, h3_, h4_, h5_, h6_, h7_⟩
  have n0_ : Aside0 (Kd.R k77 77 w26 w.heap.size (fun k_ => some k_ ≠ (v166 : Value).ownBlock) v162 t161) := ⟨h0_⟩
  have n1_ : Aside0 (Kd.R k77 77 w26 w.heap.size (fun k_ => some k_ ≠ (v162 : Value).ownBlock) v166 t165) := ⟨h1_⟩
  have n2_ : Aside0 (Kd.R k69 69 w26 w.heap.size (fun k_ => some k_ ≠ (v172 : Value).ownBlock ∧ k_ ≠ gb158) v169 t168) := ⟨h2_⟩
  have n3_ : Aside0 (Kd.R k69 69 w26 w.heap.size (fun k_ => some k_ ≠ (v169 : Value).ownBlock ∧ k_ ≠ gb158) v172 y171) := ⟨h3_⟩
  have n4_ : Aside0 (w26.heap[gb157]? = some (.cells #[.slice A0_0 l0_0.length c0_0, .slice A0_1 l0_1.length c0_1, .slice A0_2 l0_2.length c0_2] 67 (0, 0))) := ⟨h4_⟩
  have n5_ : Aside0 (w26.heap[gb158]? = some (.cells #[.int .i64 a1_0, .string a1_1, .string a1_2, .int .i64 a1_3] 69 (0, 0))) := ⟨h5_⟩
  have n6_ : Aside0 (w26.heap[gb159]? = some (.cells #[.slice none 0 0, .slice none 0 0, .slice none 0 0] 67 (0, 0))) := ⟨h6_⟩
  have n7_ : Aside0 (Below w.heap.size w w26) := ⟨h7_⟩
  clear HO163 BK157 BK158 BK159 HB h0_ h1_ h2_ h3_ h4_ h5_ h6_ h7_
  have HO163 := n0_
  have HO167 := n1_
  have HO170 := n2_
  have HO173 := n3_
  have BK157 := n4_
  have BK158 := n5_
  have BK159 := n6_
  have HB := n7_
  clear n0_ n1_ n2_ n3_ n4_ n5_ n6_ n7_
  have hHeld : w26.cell? ⟨gb157, 0, none⟩ = some (.slice A0_0 l0_0.length c0_0) ∧ w26.cell? ⟨gb157, 1, none⟩ = some (.slice A0_1 l0_1.length c0_1) ∧ w26.cell? ⟨gb157, 2, none⟩ = some (.slice A0_2 l0_2.length c0_2) ∧ w26.cell? ⟨gb158, 0, none⟩ = some (.int .i64 a1_0) ∧ w26.cell? ⟨gb158, 1, none⟩ = some (.string a1_1) ∧ w26.cell? ⟨gb158, 2, none⟩ = some (.string a1_2) ∧ w26.cell? ⟨gb158, 3, none⟩ = some (.int .i64 a1_3) := hS_
  obtain ⟨Ao28, co28, eo28⟩ := Kd.R_slice HO173.out
  (first | subst eo28 | (injection eo28 with f1_ f2_ f3_; have f4_ := f1_.symm; have f5_ := f3_.symm; clear f1_ f2_ f3_; subst f4_; subst f5_))
  refine norm_ (a' := ?_) ?_ ?_
  rotate_left
  ·simp only [putAll, Act.put, sA, s0, sS]
   rfl
  refine one_ (i := 9) (N := some 32) #[true, true, true, true, true, true, true, true, true, true, false, false, false] rfl rfl (one_of HT_.out (by kernel_rfl)) (by decide) (fun K hK => ?_)
  refine Kd.R_append_rows_step k69 (w0 := w) w.heap.size (by rfl) (.tmp 29) (.tmp 31) 65 69 (.agg #[(.int .i64 0), (.string ⟨#[]⟩), (.string ⟨#[]⟩), (.int .i64 0)]) 48 rfl Try.underlying65 info69 rfl (by decide) (by omega) v169 t168 y171 _ _ _ (fun k_ => some k_ ≠ (.slice Ao28 y171.length co28 : Value).ownBlock ∧ k_ ≠ gb158) (fun _ => False) rfl rfl ?aO ?aR (fun _ _ h => h) (fun _ h => h.elim) ?aF ?aB ?aS ?aL ?_
  (case aR => exact Kd.C_y (Kd.R_reads' HO173.out).2.2)
  (case aB => exact (below_y HB.out))
  (case aF => exact (fun k_ hk => ⟨Kd.fresh' (Kd.R_lt (Kd.R_y HO173.out)) k_ hk, Kd.freshB (blk_y BK158.out) k_ hk⟩))
  (case aO => exact (Kd.R_y HO170.out))
  (case aS => exact (below_size (below_y HB.out)))
  (case aL => have := LMc9.out; omega)
  intro v175 w27 ho hb hg hat
  rw [← Ny174.out] at ho
  have n0_ := mkA (blk_grown (blk_y BK157.out) hg (Kd.R_ne HO170.out BK157.out (by decide)))
  have n1_ := mkA (blk_grown (blk_y BK158.out) hg (Kd.R_away HO170.out (fun _ hk => hk.2)))
  have n2_ := mkA (blk_grown (blk_y BK159.out) hg (Kd.R_ne HO170.out BK159.out (by decide)))
  have n3_ := mkA (Kd.R_over' (Kd.R_y HO163.out) (Kd.R_typed (Kd.R_y HO170.out)) (by decide) hg)
  have n4_ := mkA (Kd.R_over' (Kd.R_y HO167.out) (Kd.R_typed (Kd.R_y HO170.out)) (by decide) hg)
  have n5_ := mkA (Kd.R_after (ok := (fun k_ => k_ ≠ gb158)) (by (with_reducible repeat (first | apply Kd.R_alloc | apply Kd.R_drewN | apply Kd.R_drew)); exact Kd.R_mono HO173.out (fun _ hk => ⟨hk.2, hk.1⟩)) hg hat)
  have n6_ := mkA (hb)
  have n7_ := mkA (ho)
  clear BK157 BK158 BK159 HO163 HO167 HO173 HB HO170
  have BK157 := n0_
  have BK158 := n1_
  have BK159 := n2_
  have HO163 := n3_
  have HO167 := n4_
  have HO173 := n5_
  have HB := n6_
  have HO176 := n7_
  clear n0_ n1_ n2_ n3_ n4_ n5_ n6_ n7_ ho hb hg hat
  obtain ⟨Ao29, co29, eo29⟩ := Kd.R_slice HO176.out
  (first | subst eo29 | (injection eo29 with f1_ f2_ f3_; have f4_ := f1_.symm; have f5_ := f3_.symm; clear f1_ f2_ f3_; subst f4_; subst f5_))
  obtain ⟨Ao30, co30, eo30⟩ := Kd.R_slice HO167.out
  (first | subst eo30 | (injection eo30 with f1_ f2_ f3_; have f4_ := f1_.symm; have f5_ := f3_.symm; clear f1_ f2_ f3_; subst f4_; subst f5_))
  obtain ⟨Ao31, co31, eo31⟩ := Kd.R_slice HO163.out
  (first | subst eo31 | (injection eo31 with f1_ f2_ f3_; have f4_ := f1_.symm; have f5_ := f3_.symm; clear f1_ f2_ f3_; subst f4_; subst f5_))
  refine hK.out _ _ ⟨(blk_cell BK157.out 0).trans rfl, (blk_cell BK157.out 1).trans rfl, (blk_cell BK157.out 2).trans rfl, (blk_cell BK158.out 0).trans rfl, (blk_cell BK158.out 1).trans rfl, (blk_cell BK158.out 2).trans rfl, (blk_cell BK158.out 3).trans rfl⟩ (fun hHeld => ?_)
  clear hK K
  refine norm_ (a' := ?_) ?_ ?_
  rotate_left
  ·show Act.put _ (some 32) _ = _
   simp only [Act.put, sA, s0, sS, i64_w, i32_w]
   rfl
  refine pure_ (i := 10) (N := some 33) (v := ?_) (a' := ?_) #[true, true, true, true, true, true, true, true, true, true, true, false, false] rfl rfl (any_of HT_.out (by kernel_rfl)) (fun _ _ _ h => h) (Or.inl ⟨by rfl, ?_⟩) ?_ ?_
  rotate_left
  ·intro w'
   go_simp
   with_reducible rfl
  rotate_left
  ·simp only [Act.put, sA, s0, sS, i64_w, i32_w]
   rfl
  refine one_ (i := 11) (N := none) #[true, true, true, true, true, true, true, true, true, true, true, true, false] rfl rfl (one_of HT_.out (by kernel_rfl)) (by decide) (fun K hK => ?_)
  have hs32 : w27.cell? ⟨gb159, 0, none⟩ = some (.slice none 0 0) := (blk_cell BK159.out 0).trans rfl
  have hfs32 := blk_frozen BK159.out 0
  have hns32_0 := NB157_159.out
  have hns32_1 := NB158_159.out
  have hms32_0 := NB159_157.out
  have hms32_1 := NB159_158.out
  have hs33 : w27.cell? ⟨gb159, 1, none⟩ = some (.slice none 0 0) := (blk_cell BK159.out 1).trans rfl
  have hfs33 := blk_frozen BK159.out 1
  have hns33_0 := NB157_159.out
  have hns33_1 := NB158_159.out
  have hms33_0 := NB159_157.out
  have hms33_1 := NB159_158.out
  have hs34 : w27.cell? ⟨gb159, 2, none⟩ = some (.slice none 0 0) := (blk_cell BK159.out 2).trans rfl
  have hfs34 := blk_frozen BK159.out 2
  have hns34_0 := NB157_159.out
  have hns34_1 := NB158_159.out
  have hms34_0 := NB159_157.out
  have hms34_1 := NB159_158.out
  refine skip_ (w1 := ?_) (by rfl) rfl ?_ ?_
  rotate_left
  ·go_simp
   rfl
  refine hK.out _ _ ⟨((cell_far (p := ⟨gb159, _, none⟩) NB157_159.out _).trans (((cell_far (p := ⟨gb159, _, none⟩) NB157_159.out _).trans (((cell_far (p := ⟨gb159, _, none⟩) NB157_159.out _).trans (hHeld.1)))))), ((cell_far (p := ⟨gb159, _, none⟩) NB157_159.out _).trans (((cell_far (p := ⟨gb159, _, none⟩) NB157_159.out _).trans (((cell_far (p := ⟨gb159, _, none⟩) NB157_159.out _).trans (hHeld.2.1)))))), ((cell_far (p := ⟨gb159, _, none⟩) NB157_159.out _).trans (((cell_far (p := ⟨gb159, _, none⟩) NB157_159.out _).trans (((cell_far (p := ⟨gb159, _, none⟩) NB157_159.out _).trans (hHeld.2.2.1)))))), ((cell_far (p := ⟨gb159, _, none⟩) NB158_159.out _).trans (((cell_far (p := ⟨gb159, _, none⟩) NB158_159.out _).trans (((cell_far (p := ⟨gb159, _, none⟩) NB158_159.out _).trans (hHeld.2.2.2.1)))))), ((cell_far (p := ⟨gb159, _, none⟩) NB158_159.out _).trans (((cell_far (p := ⟨gb159, _, none⟩) NB158_159.out _).trans (((cell_far (p := ⟨gb159, _, none⟩) NB158_159.out _).trans (hHeld.2.2.2.2.1)))))), ((cell_far (p := ⟨gb159, _, none⟩) NB158_159.out _).trans (((cell_far (p := ⟨gb159, _, none⟩) NB158_159.out _).trans (((cell_far (p := ⟨gb159, _, none⟩) NB158_159.out _).trans (hHeld.2.2.2.2.2.1)))))), ((cell_far (p := ⟨gb159, _, none⟩) NB158_159.out _).trans (((cell_far (p := ⟨gb159, _, none⟩) NB158_159.out _).trans (((cell_far (p := ⟨gb159, _, none⟩) NB158_159.out _).trans (hHeld.2.2.2.2.2.2))))))⟩ (fun hHeld => ?_)
  clear hK K
  refine pure_ (i := 12) (N := some 5) (v := ?_) (a' := ?_) #[true, true, true, true, true, true, true, true, true, true, true, true, true] rfl rfl (any_of HT_.out (by kernel_rfl)) (fun _ _ _ h => h) (Or.inl ⟨by rfl, ?_⟩) ?_ ?_
  rotate_left
  ·intro w'
   go_simp
   with_reducible rfl
  rotate_left
  ·simp only [Act.put, sA, s0, sS, i64_w, i32_w]
   rfl
  refine done_ (done_of HT_.out (by kernel_rfl)) ?_
  try go_wp2_with (first | ((with_reducible refine gate_load (t := 69) rfl ?_); refine load_row3 (t := 69) (g := gb158) ?hg BK158.out ?ho ?hb Try.underlying69 rfl ?hs ?_; (case hg => rfl); (case ho => refine ⟨_, rfl, ?_⟩; first | (with_reducible rfl) | (go_simp; done)); (case hb => (with_reducible repeat (first | refine blk_drewN ?_ _ | refine blk_drew ?_ | refine blk_alloc ?_ _)); with_reducible exact BK158.out); (case hs => kernel_rfl)))
  refine bodyPost_ret (results_ct rfl _ _ gb159 67 #[.slice Ao31 t161.length co31, .slice Ao30 t165.length co30, .slice Ao29 y174.length co29] (0, 0) _ rfl (by (with_reducible repeat (first | refine blk_drewN ?_ _ | refine blk_drew ?_ | refine blk_alloc ?_ _)); refine blk_put (cs := #[.slice Ao31 t161.length co31, .slice Ao30 t165.length co30, .slice none 0 0]) ?_ 2 _ rfl; (with_reducible repeat (first | refine blk_drewN ?_ _ | refine blk_drew ?_ | refine blk_alloc ?_ _)); refine blk_put (cs := #[.slice Ao31 t161.length co31, .slice none 0 0, .slice none 0 0]) ?_ 1 _ rfl; (with_reducible repeat (first | refine blk_drewN ?_ _ | refine blk_drew ?_ | refine blk_alloc ?_ _)); refine blk_put (cs := #[.slice none 0 0, .slice none 0 0, .slice none 0 0]) ?_ 0 _ rfl; (with_reducible repeat (first | refine blk_drewN ?_ _ | refine blk_drew ?_ | refine blk_alloc ?_ _)); exact BK159.out) Try.underlying67 rfl (by kernel_rfl)) rfl ?_
  exact ⟨_, _, _, by first | rfl | (simp [errW_none, errW_some] <;> rfl) | (simp [*, errW_none, errW_some] <;> rfl), by (with_reducible repeat (first | apply Kd.R_alloc | apply Kd.R_drewN | apply Kd.R_drew)); exact Kd.R_mono (Kd.R_far (p := ⟨gb159, 2, none⟩) (Kd.R_far (p := ⟨gb159, 1, none⟩) (Kd.R_far (p := ⟨gb159, 0, none⟩) (Kd.R_types HO163.out BK159.out (by decide)) (fun _ hk => hk.2) (.slice Ao31 t161.length co31)) (fun _ hk => hk.2) (.slice Ao30 t165.length co30)) (fun _ hk => hk.2) (.slice Ao29 y174.length co29)) (fun _ hk => hk.1), by (with_reducible repeat (first | apply Kd.R_alloc | apply Kd.R_drewN | apply Kd.R_drew)); exact Kd.R_mono (Kd.R_far (p := ⟨gb159, 2, none⟩) (Kd.R_far (p := ⟨gb159, 1, none⟩) (Kd.R_far (p := ⟨gb159, 0, none⟩) (Kd.R_types HO167.out BK159.out (by decide)) (fun _ hk => hk.2) (.slice Ao31 t161.length co31)) (fun _ hk => hk.2) (.slice Ao30 t165.length co30)) (fun _ hk => hk.2) (.slice Ao29 y174.length co29)) (fun _ hk => hk.1), by (with_reducible repeat (first | apply Kd.R_alloc | apply Kd.R_drewN | apply Kd.R_drew)); exact Kd.R_mono (Kd.R_far (p := ⟨gb159, 2, none⟩) (Kd.R_far (p := ⟨gb159, 1, none⟩) (Kd.R_far (p := ⟨gb159, 0, none⟩) (Kd.R_types HO176.out BK159.out (by decide)) (fun _ hk => hk.2) (.slice Ao31 t161.length co31)) (fun _ hk => hk.2) (.slice Ao30 t165.length co30)) (fun _ hk => hk.2) (.slice Ao29 y174.length co29)) (fun _ hk => trivial), by repeat (first | (with_reducible first | exact HB.out | apply below_alloc | apply pw_below_drewN | apply below_drew1 | refine below_set ?_ GE157.out | refine below_set ?_ GE158.out | refine below_set ?_ GE159.out) | exact HB.out)⟩

end Go.Proofs.Ytkkikdjfigffhab.XDir
