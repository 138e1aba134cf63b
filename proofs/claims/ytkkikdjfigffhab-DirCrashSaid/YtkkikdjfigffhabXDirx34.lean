-- By a program of this work (xprint.py) over the translation; Lean checks it.
import Derived.Test.YtkkikdjfigffhabXDirx0
import Derived.Test.YtkkikdjfigffhabXDirx31
import Derived.Test.YtkkikdjfigffhabXDirx33
namespace Go.Proofs.Ytkkikdjfigffhab.XDir
open Go.RowKit Go.Proofs.YtkkikdjfigffhabW.PrintWords Go.Proofs.YtkkikdjfigffhabW.PrintLast Go.Proofs.YtkkikdjfigffhabW.PrintMore
attribute [local go_sem] max2_int min2_int max_two min_two max_three min_three max_four min_four   -- for this text's walks alone
set_option linter.unusedVariables false
set_option linter.unusedSimpArgs false

/-! ### newsreelref10_Do: function 43 -/
def newsreelref10_Do.f (k : Nat) (l0_0 : List (S77)) (l0_1 : List (S77)) (l0_2 : List (S69)) (a1_0 : Int) (a1_1 : ByteArray) (a1_2 : ByteArray) (a1_3 : Int) : Option ((List (S77)) × (List (S77)) × (List (S69)) × Int) := (newsreelref10_Right.f k l0_0 l0_1 l0_2).bind fun t327 => (if t327 = true then ((newsreelref10_Done.f k l0_0 a1_0 a1_1 a1_2 a1_3).bind fun bt328 => (if bt328.2 = 0 then ((some (([] : List (S69)) : List (S69))).bind fun y332 => (if y332.length + l0_2.length < 2932031007402 then ((some (y332 ++ l0_2 : List (S69))).bind fun y335 => ((some (([(⟨a1_0, a1_1, a1_2, a1_3⟩ : S69)] : List (S69)) : List (S69))).bind fun y338 => (if y335.length + y338.length < 2932031007402 then (some (bt328.1, l0_1, (y335 ++ y338), 0)) else (none)))) else (none))) else (some (([] : List (S77)), ([] : List (S77)), ([] : List (S69)), bt328.2)))) else (some (([] : List (S77)), ([] : List (S77)), ([] : List (S69)), 10)))
theorem newsreelref10_Do.mono : ∀ a0 a1 a2 a3 a4 a5 a6 k, LeO (newsreelref10_Do.f k a0 a1 a2 a3 a4 a5 a6) (newsreelref10_Do.f (k + 1) a0 a1 a2 a3 a4 a5 a6) := by
 intro a0 a1 a2 a3 a4 a5 a6 k
 unfold newsreelref10_Do.f
 repeat' first
   | (with_reducible exact newsreelref10_Done.mono _ _ _ _ _ _)
   | (with_reducible exact newsreelref10_Right.mono _ _ _ _)
   | (with_reducible exact LeO.refl _)
   | (with_reducible exact LeO.none _)
   | (with_reducible refine LeO.ite ?_ ?_)
   | (with_reducible refine LeO.bind ?_ (fun _ => ?_))
   | exact newsreelref10_Done.mono _ _ _ _ _ _
   | exact newsreelref10_Right.mono _ _ _ _
   | exact LeO.none _
   | refine LeO.ite ?_ ?_
   | refine LeO.bind ?_ (fun _ => ?_)
def newsreelref10_Do.T6 : Bool × List (List Nat × List Nat) := (true, [([], []), ([], []), ([1], [1]), ([], []), ([], []), ([4], [4]), ([3, 5], [3, 5]), ([], []), ([7], [7]), ([6, 8, 6], [6, 8]), ([0, 2, 9], [0, 2, 9]), ([10, 9, 0, 1, 2, 3, 4, 5, 6, 7, 8, 9, 10], [10]), ([11, 0, 1, 2, 3, 4, 5, 6, 7, 8, 9, 10, 11], [])])
def newsreelref10_Do.B6 : List Nat := [0, 0, 2, 0, 0, 16, 56, 0, 128, 504, 1023, 2047, 4095]
theorem newsreelref10_Do.tab6 : rtab .any (opsOf Try.f43 6) = newsreelref10_Do.T6 := by kernel_rfl
theorem newsreelref10_Do.bits6 : waitsOk newsreelref10_Do.T6.2 newsreelref10_Do.B6 = true := by kernel_rfl
set_option maxHeartbeats 8000000 in
set_option maxRecDepth 100000 in
theorem newsreelref10_Do.calls (k : Nat) (A0_0 : Option Addr) (c0_0 : Nat) (l0_0 : List (S77)) (P0_1_ : Nat → Prop) (A0_1 : Option Addr) (c0_1 : Nat) (l0_1 : List (S77)) (A0_2 : Option Addr) (c0_2 : Nat) (l0_2 : List (S69)) (a1_0 : Int) (a1_1 : ByteArray) (a1_2 : ByteArray) (a1_3 : Int) (r1 : List (S77)) (r2 : List (S77)) (r3 : List (S69)) (r4 : Int) (w : World) (hr0_0 : Kd.C k77 w A0_0 l0_0.length l0_0) (hc0_0 : l0_0.length ≤ c0_0) (hs0_1 : Kd.V k77 77 w w.heap.size (fun k_ => P0_1_ k_) (.slice A0_1 l0_1.length c0_1) l0_1) (hr0_2 : Kd.C k69 w A0_2 l0_2.length l0_2) (hc0_2 : l0_2.length ≤ c0_2) (h : newsreelref10_Do.f k l0_0 l0_1 l0_2 a1_0 a1_1 a1_2 a1_3 = some (r1, r2, r3, r4)) :
  Calls Try.prog 43 #[.agg #[.slice A0_0 l0_0.length c0_0, .slice A0_1 l0_1.length c0_1, .slice A0_2 l0_2.length c0_2], .agg #[.int .i64 a1_0, .string a1_1, .string a1_2, .int .i64 a1_3]] w fun e w' => ∃ v0_ v1_ v2_ : Value, e = .returned (.tuple #[.agg #[v0_, v1_, v2_], .int .i64 r4]) ∧ Kd.R k77 77 w' w.heap.size (fun k_ => (w.heap.size ≤ k_)) v0_ r1 ∧ Kd.V k77 77 w' w.heap.size (fun k_ => (P0_1_ k_ ∨ w.heap.size ≤ k_) ∧ some k_ ≠ (v0_ : Value).ownBlock ∧ some k_ ≠ (v2_ : Value).ownBlock) v1_ r2 ∧ Kd.R k69 69 w' w.heap.size (fun k_ => (w.heap.size ≤ k_)) v2_ r3 ∧ Below w.heap.size w w' := by
 have hu67 := Try.underlying67
 have hu69 := Try.underlying69
 have HR0_0 := mkA hr0_0
 have HC0_0 := mkA hc0_0
 clear hr0_0 hc0_0
 have HO0_1 := mkA (show Kd.V k77 77 w w.heap.size (fun k_ => (P0_1_ k_ ∨ w.heap.size ≤ k_)) (.slice A0_1 l0_1.length c0_1) l0_1 from Kd.V_mono hs0_1 (fun k_ hk => .inl hk))
 have HR0_2 := mkA hr0_2
 have HC0_2 := mkA hc0_2
 clear hr0_2 hc0_2
 have HB := mkA (Below.refl w.heap.size w)
 have H : ((newsreelref10_Right.f k l0_0 l0_1 l0_2).bind fun t327 => (if t327 = true then ((newsreelref10_Done.f k l0_0 a1_0 a1_1 a1_2 a1_3).bind fun bt328 => (if bt328.2 = 0 then ((some (([] : List (S69)) : List (S69))).bind fun y332 => (if y332.length + l0_2.length < 2932031007402 then ((some (y332 ++ l0_2 : List (S69))).bind fun y335 => ((some (([(⟨a1_0, a1_1, a1_2, a1_3⟩ : S69)] : List (S69)) : List (S69))).bind fun y338 => (if y335.length + y338.length < 2932031007402 then (some (bt328.1, l0_1, (y335 ++ y338), 0)) else (none)))) else (none))) else (some (([] : List (S77)), ([] : List (S77)), ([] : List (S69)), bt328.2)))) else (some (([] : List (S77)), ([] : List (S77)), ([] : List (S69)), 10)))) = some (r1, r2, r3, r4) := h
 clear h
 replace H := Option.bind_eq_some_iff.mp H
 obtain ⟨t327, A30, H⟩ := H
 replace H : (if t327 = true then ((newsreelref10_Done.f k l0_0 a1_0 a1_1 a1_2 a1_3).bind fun bt328 => (if bt328.2 = 0 then ((some (([] : List (S69)) : List (S69))).bind fun y332 => (if y332.length + l0_2.length < 2932031007402 then ((some (y332 ++ l0_2 : List (S69))).bind fun y335 => ((some (([(⟨a1_0, a1_1, a1_2, a1_3⟩ : S69)] : List (S69)) : List (S69))).bind fun y338 => (if y335.length + y338.length < 2932031007402 then (some (bt328.1, l0_1, (y335 ++ y338), 0)) else (none)))) else (none))) else (some (([] : List (S77)), ([] : List (S77)), ([] : List (S69)), bt328.2)))) else (some (([] : List (S77)), ([] : List (S77)), ([] : List (S69)), 10))) = some (r1, r2, r3, r4) := H
 have A3 := mkA A30
 clear A30
 by_cases c4 : t327 = true
 rotate_left
 ·replace c4 := Bool.eq_false_iff.mpr c4
  subst c4
  have H1 : (some (([] : List (S77)), ([] : List (S77)), ([] : List (S69)), 10)) = some (r1, r2, r3, r4) := by rw [if_neg (show ¬ (false = true) by decide)] at H; exact H
  clear H
  have H := H1
  clear H1
  as_aux_lemma =>
   simp only [Option.some.injEq, Prod.mk.injEq] at H
   obtain ⟨rfl, rfl, rfl, rfl⟩ := H
   go_enter Try.func43, Try.ntmps43
   go_wp2_with (first | ((with_reducible refine gate_load (t := 69) rfl ?_); refine load_row3 (t := 69) (g := gb325) ?hg BK325.out ?ho ?hb Try.underlying69 rfl ?hs ?_; (case hg => rfl); (case ho => refine ⟨_, rfl, ?_⟩; first | (with_reducible rfl) | (go_simp; done)); (case hb => (with_reducible repeat (first | refine blk_drewN ?_ _ | refine blk_drew ?_ | refine blk_alloc ?_ _)); with_reducible exact BK325.out); (case hs => kernel_rfl)) | ((with_reducible refine gate_dst (N := 2) rfl ?_); refine box_event ?hg (N := 2) ?hd (cs := #[.slice A0_0 l0_0.length c0_0, .slice A0_1 l0_1.length c0_1, .slice A0_2 l0_2.length c0_2]) (t := 67) ?hr ?_; (case hd => rfl); (case hg => rfl); (case hr => first | (go_simp; done) | (go_simp; rfl)); intro gb324 hg w46 hbox hb; have n0_ := mkA (Kd.V_below (Kd.V_elderB (Kd.V_y HO0_1.out) gb324 (Nat.le_of_eq hg.symm)) hb); have n1_ := mkA (below_step (below_y HB.out) hb); have n2_ := mkA (hbox); have n3_ := mkA ((gz hg HB.out : w.heap.size ≤ gb324)); have n4_ := mkA ((gz hg HB.out : w.heap.size ≤ gb324)); clear HO0_1; clear HB; have HO0_1 := n0_; have HB := n1_; have BK324 := n2_; have GW324 := n3_; have GE324 := n4_; clear n0_ n1_ n2_ n3_ n4_; clear hb hbox hg) | ((with_reducible refine gate_dst (N := 3) rfl ?_); refine box_event ?hg (N := 3) ?hd (cs := #[.int .i64 a1_0, .string a1_1, .string a1_2, .int .i64 a1_3]) (t := 69) ?hr ?_; (case hd => rfl); (case hg => rfl); (case hr => first | (go_simp; done) | (go_simp; rfl)); intro gb325 hg w47 hbox hb; have n0_ := mkA (Kd.V_below (Kd.V_elderB (Kd.V_y HO0_1.out) gb325 (Nat.le_of_eq hg.symm)) hb); have n1_ := mkA (blk_below (blk_y BK324.out) hb); have n2_ := mkA (below_step (below_y HB.out) hb); have n3_ := mkA (hbox); have n4_ := mkA ((gz hg HB.out : w.heap.size ≤ gb325)); have n5_ := mkA ((gz hg HB.out : w.heap.size ≤ gb325)); have n6_ := mkA ((gn hg BK324.out : gb324 ≠ gb325)); have n7_ := mkA ((gm hg BK324.out : gb325 ≠ gb324)); clear HO0_1; clear BK324; clear HB; have HO0_1 := n0_; have BK324 := n1_; have HB := n2_; have BK325 := n3_; have GW325 := n4_; have GE325 := n5_; have NB324_325 := n6_; have NB325_324 := n7_; clear n0_ n1_ n2_ n3_ n4_ n5_ n6_ n7_; clear hb hbox hg) | ((with_reducible refine gate_dst (N := 4) rfl ?_); refine box_event ?hg (N := 4) ?hd (cs := #[.slice none 0 0, .slice none 0 0, .slice none 0 0]) (t := 67) ?hr ?_; (case hd => rfl); (case hg => rfl); (case hr => first | (go_simp; done) | (go_simp; rfl)); intro gb326 hg w48 hbox hb; have n0_ := mkA (Kd.V_below (Kd.V_elderB (Kd.V_y HO0_1.out) gb326 (Nat.le_of_eq hg.symm)) hb); have n1_ := mkA (blk_below (blk_y BK324.out) hb); have n2_ := mkA (blk_below (blk_y BK325.out) hb); have n3_ := mkA (below_step (below_y HB.out) hb); have n4_ := mkA (hbox); have n5_ := mkA ((gz hg HB.out : w.heap.size ≤ gb326)); have n6_ := mkA ((gz hg HB.out : w.heap.size ≤ gb326)); have n7_ := mkA ((gn hg BK324.out : gb324 ≠ gb326)); have n8_ := mkA ((gm hg BK324.out : gb326 ≠ gb324)); have n9_ := mkA ((gn hg BK325.out : gb325 ≠ gb326)); have n10_ := mkA ((gm hg BK325.out : gb326 ≠ gb325)); clear HO0_1; clear BK324; clear BK325; clear HB; have HO0_1 := n0_; have BK324 := n1_; have BK325 := n2_; have HB := n3_; have BK326 := n4_; have GW326 := n5_; have GE326 := n6_; have NB324_326 := n7_; have NB326_324 := n8_; have NB325_326 := n9_; have NB326_325 := n10_; clear n0_ n1_ n2_ n3_ n4_ n5_ n6_ n7_ n8_ n9_ n10_; clear hb hbox hg; have hnb49 := NB324_325.out; have hnc49 := NB325_324.out; have hnb50 := NB324_326.out; have hnc50 := NB326_324.out; have hcz51_0 := bc BK324.out 0 (.slice A0_0 l0_0.length c0_0) rfl; have hcz51_1 := bc BK324.out 1 (.slice A0_1 l0_1.length c0_1) rfl; have hcz51_2 := bc BK324.out 2 (.slice A0_2 l0_2.length c0_2) rfl; have hfz51_0 := blk_frozen BK324.out 0; have hfz51_1 := blk_frozen BK324.out 1; have hfz51_2 := blk_frozen BK324.out 2) | ((with_reducible refine gate_callee (f := 49) rfl ?_); refine goesL_ (some 9) rfl rfl Try.func49 (by kernel_rfl) rfl #[.agg #[.slice A0_0 l0_0.length c0_0, .slice A0_1 l0_1.length c0_1, .slice A0_2 l0_2.length c0_2]] rfl ca ?_; (with_reducible refine (newsreelref10_Right.calls k _ _ l0_0 _ _ l0_1 _ _ l0_2 false _ ?side1 ?side2 ?side3 ?side4 ?side5 ?side6 A3.out).mono ?_); (case side1 => exact cz HR0_0.out HB.out); (case side2 => exact HC0_0.out); (case side3 => exact Kd.C_y (Kd.V_reads' HO0_1.out).2.2); (case side4 => exact (Kd.V_reads' HO0_1.out).2.1); (case side5 => exact cz HR0_2.out HB.out); (case side6 => exact HC0_2.out); rintro e w52 ⟨rfl, hb⟩; refine ⟨_, rfl, ?_⟩; have n0_ := mkA (Kd.V_below (Kd.V_y HO0_1.out) hb); have n1_ := mkA (blk_below (blk_y BK324.out) hb); have n2_ := mkA (blk_below (blk_y BK325.out) hb); have n3_ := mkA (blk_below (blk_y BK326.out) hb); have n4_ := mkA (below_step (below_y HB.out) hb); clear HO0_1; clear BK324; clear BK325; clear BK326; clear HB; have HO0_1 := n0_; have BK324 := n1_; have BK325 := n2_; have BK326 := n3_; have HB := n4_; clear n0_ n1_ n2_ n3_ n4_; (try clear hb); (try clear hb2); (try clear hk); (try clear hi); have hnb53 := NB326_325.out; have hnc53 := NB325_326.out; have hcz54_0 := bc BK326.out 0 (.slice none 0 0) rfl; have hcz54_1 := bc BK326.out 1 (.slice none 0 0) rfl; have hcz54_2 := bc BK326.out 2 (.slice none 0 0) rfl; have hfz54_0 := blk_frozen BK326.out 0; have hfz54_1 := blk_frozen BK326.out 1; have hfz54_2 := blk_frozen BK326.out 2))
   refine bodyPost_ret (results_ct rfl _ _ gb326 67 #[.slice none 0 0, .slice none 0 0, .slice none 0 0] (0, 0) _ rfl (by (with_reducible repeat (first | refine blk_drewN ?_ _ | refine blk_drew ?_ | refine blk_alloc ?_ _)); refine blk_put (cs := #[.slice none 0 0, .slice none 0 0, .slice none 0 0]) ?_ 2 _ rfl; (with_reducible repeat (first | refine blk_drewN ?_ _ | refine blk_drew ?_ | refine blk_alloc ?_ _)); refine blk_put (cs := #[.slice none 0 0, .slice none 0 0, .slice none 0 0]) ?_ 1 _ rfl; (with_reducible repeat (first | refine blk_drewN ?_ _ | refine blk_drew ?_ | refine blk_alloc ?_ _)); refine blk_put (cs := #[.slice none 0 0, .slice none 0 0, .slice none 0 0]) ?_ 0 _ rfl; (with_reducible repeat (first | refine blk_drewN ?_ _ | refine blk_drew ?_ | refine blk_alloc ?_ _)); exact BK326.out) Try.underlying67 rfl (by kernel_rfl)) rfl ?_
   exact ⟨_, _, _, by first | rfl | (simp [errW_none, errW_some] <;> rfl) | (simp [*, errW_none, errW_some] <;> rfl), by first | exact Kd.R_nil _ _ _ _ _ | exact Kd.N_nil _ _ _ _ _ | exact Kd.V_nil _ _ _ _ _ | exact Kd.Q_nil _ _ _ _ _ | exact Kd.S_nil _ _ _ _ _, (by first | exact Kd.V_nil _ _ _ _ _ | exact Kd.V_mono (Kd.R_V (by first | exact Kd.R_nil _ _ _ _ _ | exact Kd.N_nil _ _ _ _ _ | exact Kd.V_nil _ _ _ _ _ | exact Kd.Q_nil _ _ _ _ _ | exact Kd.S_nil _ _ _ _ _)) (fun k_ hk => by first | exact ⟨(.inr (hk.1)), hk.2⟩ | exact (.inr (hk)))), by first | exact Kd.R_nil _ _ _ _ _ | exact Kd.N_nil _ _ _ _ _ | exact Kd.V_nil _ _ _ _ _ | exact Kd.Q_nil _ _ _ _ _ | exact Kd.S_nil _ _ _ _ _, by repeat (first | (with_reducible first | exact HB.out | apply below_alloc | apply pw_below_drewN | apply below_drew1 | refine below_set ?_ GE324.out | refine below_set ?_ GE325.out | refine below_set ?_ GE326.out) | exact HB.out)⟩
 subst c4
 have H1 : ((newsreelref10_Done.f k l0_0 a1_0 a1_1 a1_2 a1_3).bind fun bt328 => (if bt328.2 = 0 then ((some (([] : List (S69)) : List (S69))).bind fun y332 => (if y332.length + l0_2.length < 2932031007402 then ((some (y332 ++ l0_2 : List (S69))).bind fun y335 => ((some (([(⟨a1_0, a1_1, a1_2, a1_3⟩ : S69)] : List (S69)) : List (S69))).bind fun y338 => (if y335.length + y338.length < 2932031007402 then (some (bt328.1, l0_1, (y335 ++ y338), 0)) else (none)))) else (none))) else (some (([] : List (S77)), ([] : List (S77)), ([] : List (S69)), bt328.2)))) = some (r1, r2, r3, r4) := by rw [if_pos rfl] at H; exact H
 clear H
 have H := H1
 clear H1
 replace H := Option.bind_eq_some_iff.mp H
 obtain ⟨⟨t328, t331⟩, A50, H⟩ := H
 replace H : (if t331 = 0 then ((some (([] : List (S69)) : List (S69))).bind fun y332 => (if y332.length + l0_2.length < 2932031007402 then ((some (y332 ++ l0_2 : List (S69))).bind fun y335 => ((some (([(⟨a1_0, a1_1, a1_2, a1_3⟩ : S69)] : List (S69)) : List (S69))).bind fun y338 => (if y335.length + y338.length < 2932031007402 then (some (t328, l0_1, (y335 ++ y338), 0)) else (none)))) else (none))) else (some (([] : List (S77)), ([] : List (S77)), ([] : List (S69)), t331))) = some (r1, r2, r3, r4) := H
 have A5 := mkA A50
 clear A50
 by_cases c6 : t331 = 0
 rotate_left
 ·rw [if_neg c6] at H
  have c6b0 : (t331 == 0) = false := beq_eq_false_iff_ne.mpr c6
  have c6b1 : (t331 != 0) = true := bne_iff_ne.mpr c6
  as_aux_lemma =>
   simp only [Option.some.injEq, Prod.mk.injEq] at H
   obtain ⟨rfl, rfl, rfl, rfl⟩ := H
   go_enter Try.func43, Try.ntmps43
   go_wp2_with (first | ((with_reducible refine gate_load (t := 69) rfl ?_); refine load_row3 (t := 69) (g := gb325) ?hg BK325.out ?ho ?hb Try.underlying69 rfl ?hs ?_; (case hg => rfl); (case ho => refine ⟨_, rfl, ?_⟩; first | (with_reducible rfl) | (go_simp; done)); (case hb => (with_reducible repeat (first | refine blk_drewN ?_ _ | refine blk_drew ?_ | refine blk_alloc ?_ _)); with_reducible exact BK325.out); (case hs => kernel_rfl)) | ((with_reducible refine gate_dst (N := 2) rfl ?_); refine box_event ?hg (N := 2) ?hd (cs := #[.slice A0_0 l0_0.length c0_0, .slice A0_1 l0_1.length c0_1, .slice A0_2 l0_2.length c0_2]) (t := 67) ?hr ?_; (case hd => rfl); (case hg => rfl); (case hr => first | (go_simp; done) | (go_simp; rfl)); intro gb324 hg w34 hbox hb; have n0_ := mkA (Kd.V_below (Kd.V_elderB (Kd.V_y HO0_1.out) gb324 (Nat.le_of_eq hg.symm)) hb); have n1_ := mkA (below_step (below_y HB.out) hb); have n2_ := mkA (hbox); have n3_ := mkA ((gz hg HB.out : w.heap.size ≤ gb324)); have n4_ := mkA ((gz hg HB.out : w.heap.size ≤ gb324)); clear HO0_1; clear HB; have HO0_1 := n0_; have HB := n1_; have BK324 := n2_; have GW324 := n3_; have GE324 := n4_; clear n0_ n1_ n2_ n3_ n4_; clear hb hbox hg) | ((with_reducible refine gate_dst (N := 3) rfl ?_); refine box_event ?hg (N := 3) ?hd (cs := #[.int .i64 a1_0, .string a1_1, .string a1_2, .int .i64 a1_3]) (t := 69) ?hr ?_; (case hd => rfl); (case hg => rfl); (case hr => first | (go_simp; done) | (go_simp; rfl)); intro gb325 hg w35 hbox hb; have n0_ := mkA (Kd.V_below (Kd.V_elderB (Kd.V_y HO0_1.out) gb325 (Nat.le_of_eq hg.symm)) hb); have n1_ := mkA (blk_below (blk_y BK324.out) hb); have n2_ := mkA (below_step (below_y HB.out) hb); have n3_ := mkA (hbox); have n4_ := mkA ((gz hg HB.out : w.heap.size ≤ gb325)); have n5_ := mkA ((gz hg HB.out : w.heap.size ≤ gb325)); have n6_ := mkA ((gn hg BK324.out : gb324 ≠ gb325)); have n7_ := mkA ((gm hg BK324.out : gb325 ≠ gb324)); clear HO0_1; clear BK324; clear HB; have HO0_1 := n0_; have BK324 := n1_; have HB := n2_; have BK325 := n3_; have GW325 := n4_; have GE325 := n5_; have NB324_325 := n6_; have NB325_324 := n7_; clear n0_ n1_ n2_ n3_ n4_ n5_ n6_ n7_; clear hb hbox hg) | ((with_reducible refine gate_dst (N := 4) rfl ?_); refine box_event ?hg (N := 4) ?hd (cs := #[.slice none 0 0, .slice none 0 0, .slice none 0 0]) (t := 67) ?hr ?_; (case hd => rfl); (case hg => rfl); (case hr => first | (go_simp; done) | (go_simp; rfl)); intro gb326 hg w36 hbox hb; have n0_ := mkA (Kd.V_below (Kd.V_elderB (Kd.V_y HO0_1.out) gb326 (Nat.le_of_eq hg.symm)) hb); have n1_ := mkA (blk_below (blk_y BK324.out) hb); have n2_ := mkA (blk_below (blk_y BK325.out) hb); have n3_ := mkA (below_step (below_y HB.out) hb); have n4_ := mkA (hbox); have n5_ := mkA ((gz hg HB.out : w.heap.size ≤ gb326)); have n6_ := mkA ((gz hg HB.out : w.heap.size ≤ gb326)); have n7_ := mkA ((gn hg BK324.out : gb324 ≠ gb326)); have n8_ := mkA ((gm hg BK324.out : gb326 ≠ gb324)); have n9_ := mkA ((gn hg BK325.out : gb325 ≠ gb326)); have n10_ := mkA ((gm hg BK325.out : gb326 ≠ gb325)); clear HO0_1; clear BK324; clear BK325; clear HB; have HO0_1 := n0_; have BK324 := n1_; have BK325 := n2_; have HB := n3_; have BK326 := n4_; have GW326 := n5_; have GE326 := n6_; have NB324_326 := n7_; have NB326_324 := n8_; have NB325_326 := n9_; have NB326_325 := n10_; clear n0_ n1_ n2_ n3_ n4_ n5_ n6_ n7_ n8_ n9_ n10_; clear hb hbox hg; have hnb37 := NB324_325.out; have hnc37 := NB325_324.out; have hnb38 := NB324_326.out; have hnc38 := NB326_324.out; have hcz39_0 := bc BK324.out 0 (.slice A0_0 l0_0.length c0_0) rfl; have hcz39_1 := bc BK324.out 1 (.slice A0_1 l0_1.length c0_1) rfl; have hcz39_2 := bc BK324.out 2 (.slice A0_2 l0_2.length c0_2) rfl; have hfz39_0 := blk_frozen BK324.out 0; have hfz39_1 := blk_frozen BK324.out 1; have hfz39_2 := blk_frozen BK324.out 2) | ((with_reducible refine gate_callee (f := 49) rfl ?_); refine goesL_ (some 9) rfl rfl Try.func49 (by kernel_rfl) rfl #[.agg #[.slice A0_0 l0_0.length c0_0, .slice A0_1 l0_1.length c0_1, .slice A0_2 l0_2.length c0_2]] rfl ca ?_; (with_reducible refine (newsreelref10_Right.calls k _ _ l0_0 _ _ l0_1 _ _ l0_2 true _ ?side1 ?side2 ?side3 ?side4 ?side5 ?side6 A3.out).mono ?_); (case side1 => exact cz HR0_0.out HB.out); (case side2 => exact HC0_0.out); (case side3 => exact Kd.C_y (Kd.V_reads' HO0_1.out).2.2); (case side4 => exact (Kd.V_reads' HO0_1.out).2.1); (case side5 => exact cz HR0_2.out HB.out); (case side6 => exact HC0_2.out); rintro e w40 ⟨rfl, hb⟩; refine ⟨_, rfl, ?_⟩; have n0_ := mkA (Kd.V_below (Kd.V_y HO0_1.out) hb); have n1_ := mkA (blk_below (blk_y BK324.out) hb); have n2_ := mkA (blk_below (blk_y BK325.out) hb); have n3_ := mkA (blk_below (blk_y BK326.out) hb); have n4_ := mkA (below_step (below_y HB.out) hb); clear HO0_1; clear BK324; clear BK325; clear BK326; clear HB; have HO0_1 := n0_; have BK324 := n1_; have BK325 := n2_; have BK326 := n3_; have HB := n4_; clear n0_ n1_ n2_ n3_ n4_; (try clear hb); (try clear hb2); (try clear hk); (try clear hi); have hcz41_0 := bc BK324.out 0 (.slice A0_0 l0_0.length c0_0) rfl; have hcz41_1 := bc BK324.out 1 (.slice A0_1 l0_1.length c0_1) rfl; have hcz41_2 := bc BK324.out 2 (.slice A0_2 l0_2.length c0_2) rfl; have hfz41_0 := blk_frozen BK324.out 0; have hfz41_1 := blk_frozen BK324.out 1; have hfz41_2 := blk_frozen BK324.out 2; have hnb42 := NB325_326.out; have hnc42 := NB326_325.out; have hcz43_0 := bc BK325.out 0 (.int .i64 a1_0) rfl; have hcz43_1 := bc BK325.out 1 (.string a1_1) rfl; have hcz43_2 := bc BK325.out 2 (.string a1_2) rfl; have hcz43_3 := bc BK325.out 3 (.int .i64 a1_3) rfl; have hfz43_0 := blk_frozen BK325.out 0; have hfz43_1 := blk_frozen BK325.out 1; have hfz43_2 := blk_frozen BK325.out 2; have hfz43_3 := blk_frozen BK325.out 3) | ((with_reducible refine gate_callee (f := 93) rfl ?_); refine goesL_ (some 16) rfl rfl Try.func93 (by kernel_rfl) rfl #[.slice A0_0 l0_0.length c0_0, .agg #[.int .i64 a1_0, .string a1_1, .string a1_2, .int .i64 a1_3]] rfl ca ?_; (with_reducible refine (newsreelref10_Done.calls k _ _ l0_0 a1_0 a1_1 a1_2 a1_3 t328 t331 _ ?side1 ?side2 A5.out).mono ?_); (case side1 => exact cz HR0_0.out HB.out); (case side2 => exact HC0_0.out); rintro e w44 ⟨v329, rfl, ho0, hb⟩; refine ⟨_, rfl, ?_⟩; have n0_ := mkA (Kd.V_elder' (Kd.V_y HO0_1.out) (Kd.R_base ho0) hb); have n1_ := mkA (Kd.R_lower (Kd.R_newM (M := fun k_ => (w.heap.size ≤ k_)) ho0 (below_size (below_y HB.out)) (fun k_ h_ => h_)) (below_size (below_y HB.out))); have n2_ := mkA (blk_below (blk_y BK324.out) hb); have n3_ := mkA (blk_below (blk_y BK325.out) hb); have n4_ := mkA (blk_below (blk_y BK326.out) hb); have n5_ := mkA (below_step (below_y HB.out) hb); clear HO0_1; clear BK324; clear BK325; clear BK326; clear HB; have HO0_1 := n0_; have HO330 := n1_; have BK324 := n2_; have BK325 := n3_; have BK326 := n4_; have HB := n5_; clear n0_ n1_ n2_ n3_ n4_ n5_; (try clear hb); (try clear hb2); (try clear hk); (try clear hi); (try clear ho0); have hcz45_0 := bc BK326.out 0 (.slice none 0 0) rfl; have hcz45_1 := bc BK326.out 1 (.slice none 0 0) rfl; have hcz45_2 := bc BK326.out 2 (.slice none 0 0) rfl; have hfz45_0 := blk_frozen BK326.out 0; have hfz45_1 := blk_frozen BK326.out 1; have hfz45_2 := blk_frozen BK326.out 2))
   refine bodyPost_ret (results_ct rfl _ _ gb326 67 #[.slice none 0 0, .slice none 0 0, .slice none 0 0] (0, 0) _ rfl (by (with_reducible repeat (first | refine blk_drewN ?_ _ | refine blk_drew ?_ | refine blk_alloc ?_ _)); refine blk_put (cs := #[.slice none 0 0, .slice none 0 0, .slice none 0 0]) ?_ 2 _ rfl; (with_reducible repeat (first | refine blk_drewN ?_ _ | refine blk_drew ?_ | refine blk_alloc ?_ _)); refine blk_put (cs := #[.slice none 0 0, .slice none 0 0, .slice none 0 0]) ?_ 1 _ rfl; (with_reducible repeat (first | refine blk_drewN ?_ _ | refine blk_drew ?_ | refine blk_alloc ?_ _)); refine blk_put (cs := #[.slice none 0 0, .slice none 0 0, .slice none 0 0]) ?_ 0 _ rfl; (with_reducible repeat (first | refine blk_drewN ?_ _ | refine blk_drew ?_ | refine blk_alloc ?_ _)); exact BK326.out) Try.underlying67 rfl (by kernel_rfl)) rfl ?_
   exact ⟨_, _, _, by first | rfl | (simp [errW_none, errW_some] <;> rfl) | (simp [*, errW_none, errW_some] <;> rfl), by first | exact Kd.R_nil _ _ _ _ _ | exact Kd.N_nil _ _ _ _ _ | exact Kd.V_nil _ _ _ _ _ | exact Kd.Q_nil _ _ _ _ _ | exact Kd.S_nil _ _ _ _ _, (by first | exact Kd.V_nil _ _ _ _ _ | exact Kd.V_mono (Kd.R_V (by first | exact Kd.R_nil _ _ _ _ _ | exact Kd.N_nil _ _ _ _ _ | exact Kd.V_nil _ _ _ _ _ | exact Kd.Q_nil _ _ _ _ _ | exact Kd.S_nil _ _ _ _ _)) (fun k_ hk => by first | exact ⟨(.inr (hk.1)), hk.2⟩ | exact (.inr (hk)))), by first | exact Kd.R_nil _ _ _ _ _ | exact Kd.N_nil _ _ _ _ _ | exact Kd.V_nil _ _ _ _ _ | exact Kd.Q_nil _ _ _ _ _ | exact Kd.S_nil _ _ _ _ _, by repeat (first | (with_reducible first | exact HB.out | apply below_alloc | apply pw_below_drewN | apply below_drew1 | refine below_set ?_ GE324.out | refine below_set ?_ GE325.out | refine below_set ?_ GE326.out) | exact HB.out)⟩
 rw [if_pos c6] at H
 have c6b0 : (t331 == 0) = true := beq_iff_eq.mpr c6
 have c6b1 : (t331 != 0) = false := bne_eq_false_iff_eq.mpr c6
 clear c6
 obtain ⟨y332, hy332⟩ : ∃ y_ : List (S69), y_ = (([] : List (S69))) := ⟨_, rfl⟩
 replace H : (if y332.length + l0_2.length < 2932031007402 then ((some (y332 ++ l0_2 : List (S69))).bind fun y335 => ((some (([(⟨a1_0, a1_1, a1_2, a1_3⟩ : S69)] : List (S69)) : List (S69))).bind fun y338 => (if y335.length + y338.length < 2932031007402 then (some (t328, l0_1, (y335 ++ y338), 0)) else (none)))) else (none)) = some (r1, r2, r3, r4) := by first | (rw [hy332]; with_reducible exact H) | (have H2_ := (Option.bind_some _ _).symm.trans H; rw [hy332]; with_reducible exact H2_) | (have H2_ := (Option.bind_some _ _).symm.trans H; with_reducible exact H2_) | with_reducible exact H | (rw [hy332]; exact H) | exact H
 have Ny332 := mkA hy332
 clear hy332
 by_cases c7 : y332.length + l0_2.length < 2932031007402
 rotate_left
 ·rw [if_neg c7] at H
  exact absurd H (by simp)
 rw [if_pos c7] at H
 have LMc7 := mkA c7
 clear c7
 obtain ⟨y335, hy335⟩ : ∃ y_ : List (S69), y_ = (y332 ++ l0_2) := ⟨_, rfl⟩
 replace H : ((some (([(⟨a1_0, a1_1, a1_2, a1_3⟩ : S69)] : List (S69)) : List (S69))).bind fun y338 => (if y335.length + y338.length < 2932031007402 then (some (t328, l0_1, (y335 ++ y338), 0)) else (none))) = some (r1, r2, r3, r4) := by first | (rw [hy335]; with_reducible exact H) | (have H2_ := (Option.bind_some _ _).symm.trans H; rw [hy335]; with_reducible exact H2_) | (have H2_ := (Option.bind_some _ _).symm.trans H; with_reducible exact H2_) | with_reducible exact H | (rw [hy335]; exact H) | exact H
 have Ny335 := mkA hy335
 clear hy335
 obtain ⟨y338, hy338⟩ : ∃ y_ : List (S69), y_ = (([(⟨a1_0, a1_1, a1_2, a1_3⟩ : S69)] : List (S69))) := ⟨_, rfl⟩
 replace H : (if y335.length + y338.length < 2932031007402 then (some (t328, l0_1, (y335 ++ y338), 0)) else (none)) = some (r1, r2, r3, r4) := by first | (rw [hy338]; with_reducible exact H) | (have H2_ := (Option.bind_some _ _).symm.trans H; rw [hy338]; with_reducible exact H2_) | (have H2_ := (Option.bind_some _ _).symm.trans H; with_reducible exact H2_) | with_reducible exact H | (rw [hy338]; exact H) | exact H
 have Ny338 := mkA hy338
 clear hy338
 by_cases c8 : y335.length + y338.length < 2932031007402
 rotate_left
 ·rw [if_neg c8] at H
  exact absurd H (by simp)
 rw [if_pos c8] at H
 have LMc8 := mkA c8
 clear c8
 obtain ⟨y341, hy341⟩ : ∃ y_ : List (S69), y_ = (y335 ++ y338) := ⟨_, rfl⟩
 replace H : (some (t328, l0_1, y341, 0)) = some (r1, r2, r3, r4) := by first | (rw [hy341]; with_reducible exact H) | (have H2_ := (Option.bind_some _ _).symm.trans H; rw [hy341]; with_reducible exact H2_) | (have H2_ := (Option.bind_some _ _).symm.trans H; with_reducible exact H2_) | with_reducible exact H | (rw [hy341]; exact H) | exact H
 have Ny341 := mkA hy341
 clear hy341
 as_aux_lemma =>
  simp only [Option.some.injEq, Prod.mk.injEq] at H
  obtain ⟨rfl, rfl, rfl, rfl⟩ := H
  go_enter Try.func43, Try.ntmps43
  try go_wp2_with (first | ((with_reducible refine gate_load (t := 69) rfl ?_); refine load_row3 (t := 69) (g := gb325) ?hg BK325.out ?ho ?hb Try.underlying69 rfl ?hs ?_; (case hg => rfl); (case ho => refine ⟨_, rfl, ?_⟩; first | (with_reducible rfl) | (go_simp; done)); (case hb => (with_reducible repeat (first | refine blk_drewN ?_ _ | refine blk_drew ?_ | refine blk_alloc ?_ _)); with_reducible exact BK325.out); (case hs => kernel_rfl)) | ((with_reducible refine gate_dst (N := 2) rfl ?_); refine box_event ?hg (N := 2) ?hd (cs := #[.slice A0_0 l0_0.length c0_0, .slice A0_1 l0_1.length c0_1, .slice A0_2 l0_2.length c0_2]) (t := 67) ?hr ?_; (case hd => rfl); (case hg => rfl); (case hr => first | (go_simp; done) | (go_simp; rfl)); intro gb324 hg w9 hbox hb; have n0_ := mkA (Kd.V_below (Kd.V_elderB (Kd.V_y HO0_1.out) gb324 (Nat.le_of_eq hg.symm)) hb); have n1_ := mkA (below_step (below_y HB.out) hb); have n2_ := mkA (hbox); have n3_ := mkA ((gz hg HB.out : w.heap.size ≤ gb324)); have n4_ := mkA ((gz hg HB.out : w.heap.size ≤ gb324)); clear HO0_1; clear HB; have HO0_1 := n0_; have HB := n1_; have BK324 := n2_; have GW324 := n3_; have GE324 := n4_; clear n0_ n1_ n2_ n3_ n4_; clear hb hbox hg) | ((with_reducible refine gate_dst (N := 3) rfl ?_); refine box_event ?hg (N := 3) ?hd (cs := #[.int .i64 a1_0, .string a1_1, .string a1_2, .int .i64 a1_3]) (t := 69) ?hr ?_; (case hd => rfl); (case hg => rfl); (case hr => first | (go_simp; done) | (go_simp; rfl)); intro gb325 hg w10 hbox hb; have n0_ := mkA (Kd.V_below (Kd.V_elderB (Kd.V_y HO0_1.out) gb325 (Nat.le_of_eq hg.symm)) hb); have n1_ := mkA (blk_below (blk_y BK324.out) hb); have n2_ := mkA (below_step (below_y HB.out) hb); have n3_ := mkA (hbox); have n4_ := mkA ((gz hg HB.out : w.heap.size ≤ gb325)); have n5_ := mkA ((gz hg HB.out : w.heap.size ≤ gb325)); have n6_ := mkA ((gn hg BK324.out : gb324 ≠ gb325)); have n7_ := mkA ((gm hg BK324.out : gb325 ≠ gb324)); clear HO0_1; clear BK324; clear HB; have HO0_1 := n0_; have BK324 := n1_; have HB := n2_; have BK325 := n3_; have GW325 := n4_; have GE325 := n5_; have NB324_325 := n6_; have NB325_324 := n7_; clear n0_ n1_ n2_ n3_ n4_ n5_ n6_ n7_; clear hb hbox hg) | ((with_reducible refine gate_dst (N := 4) rfl ?_); refine box_event ?hg (N := 4) ?hd (cs := #[.slice none 0 0, .slice none 0 0, .slice none 0 0]) (t := 67) ?hr ?_; (case hd => rfl); (case hg => rfl); (case hr => first | (go_simp; done) | (go_simp; rfl)); intro gb326 hg w11 hbox hb; have n0_ := mkA (Kd.V_below (Kd.V_elderB (Kd.V_y HO0_1.out) gb326 (Nat.le_of_eq hg.symm)) hb); have n1_ := mkA (blk_below (blk_y BK324.out) hb); have n2_ := mkA (blk_below (blk_y BK325.out) hb); have n3_ := mkA (below_step (below_y HB.out) hb); have n4_ := mkA (hbox); have n5_ := mkA ((gz hg HB.out : w.heap.size ≤ gb326)); have n6_ := mkA ((gz hg HB.out : w.heap.size ≤ gb326)); have n7_ := mkA ((gn hg BK324.out : gb324 ≠ gb326)); have n8_ := mkA ((gm hg BK324.out : gb326 ≠ gb324)); have n9_ := mkA ((gn hg BK325.out : gb325 ≠ gb326)); have n10_ := mkA ((gm hg BK325.out : gb326 ≠ gb325)); clear HO0_1; clear BK324; clear BK325; clear HB; have HO0_1 := n0_; have BK324 := n1_; have BK325 := n2_; have HB := n3_; have BK326 := n4_; have GW326 := n5_; have GE326 := n6_; have NB324_326 := n7_; have NB326_324 := n8_; have NB325_326 := n9_; have NB326_325 := n10_; clear n0_ n1_ n2_ n3_ n4_ n5_ n6_ n7_ n8_ n9_ n10_; clear hb hbox hg; have hnb12 := NB324_325.out; have hnc12 := NB325_324.out; have hnb13 := NB324_326.out; have hnc13 := NB326_324.out; have hcz14_0 := bc BK324.out 0 (.slice A0_0 l0_0.length c0_0) rfl; have hcz14_1 := bc BK324.out 1 (.slice A0_1 l0_1.length c0_1) rfl; have hcz14_2 := bc BK324.out 2 (.slice A0_2 l0_2.length c0_2) rfl; have hfz14_0 := blk_frozen BK324.out 0; have hfz14_1 := blk_frozen BK324.out 1; have hfz14_2 := blk_frozen BK324.out 2) | ((with_reducible refine gate_callee (f := 49) rfl ?_); refine goesL_ (some 9) rfl rfl Try.func49 (by kernel_rfl) rfl #[.agg #[.slice A0_0 l0_0.length c0_0, .slice A0_1 l0_1.length c0_1, .slice A0_2 l0_2.length c0_2]] rfl ca ?_; (with_reducible refine (newsreelref10_Right.calls k _ _ l0_0 _ _ l0_1 _ _ l0_2 true _ ?side1 ?side2 ?side3 ?side4 ?side5 ?side6 A3.out).mono ?_); (case side1 => exact cz HR0_0.out HB.out); (case side2 => exact HC0_0.out); (case side3 => exact Kd.C_y (Kd.V_reads' HO0_1.out).2.2); (case side4 => exact (Kd.V_reads' HO0_1.out).2.1); (case side5 => exact cz HR0_2.out HB.out); (case side6 => exact HC0_2.out); rintro e w15 ⟨rfl, hb⟩; refine ⟨_, rfl, ?_⟩; have n0_ := mkA (Kd.V_below (Kd.V_y HO0_1.out) hb); have n1_ := mkA (blk_below (blk_y BK324.out) hb); have n2_ := mkA (blk_below (blk_y BK325.out) hb); have n3_ := mkA (blk_below (blk_y BK326.out) hb); have n4_ := mkA (below_step (below_y HB.out) hb); clear HO0_1; clear BK324; clear BK325; clear BK326; clear HB; have HO0_1 := n0_; have BK324 := n1_; have BK325 := n2_; have BK326 := n3_; have HB := n4_; clear n0_ n1_ n2_ n3_ n4_; (try clear hb); (try clear hb2); (try clear hk); (try clear hi); have hcz16_0 := bc BK324.out 0 (.slice A0_0 l0_0.length c0_0) rfl; have hcz16_1 := bc BK324.out 1 (.slice A0_1 l0_1.length c0_1) rfl; have hcz16_2 := bc BK324.out 2 (.slice A0_2 l0_2.length c0_2) rfl; have hfz16_0 := blk_frozen BK324.out 0; have hfz16_1 := blk_frozen BK324.out 1; have hfz16_2 := blk_frozen BK324.out 2; have hnb17 := NB325_326.out; have hnc17 := NB326_325.out; have hcz18_0 := bc BK325.out 0 (.int .i64 a1_0) rfl; have hcz18_1 := bc BK325.out 1 (.string a1_1) rfl; have hcz18_2 := bc BK325.out 2 (.string a1_2) rfl; have hcz18_3 := bc BK325.out 3 (.int .i64 a1_3) rfl; have hfz18_0 := blk_frozen BK325.out 0; have hfz18_1 := blk_frozen BK325.out 1; have hfz18_2 := blk_frozen BK325.out 2; have hfz18_3 := blk_frozen BK325.out 3) | ((with_reducible refine gate_callee (f := 93) rfl ?_); refine goesL_ (some 16) rfl rfl Try.func93 (by kernel_rfl) rfl #[.slice A0_0 l0_0.length c0_0, .agg #[.int .i64 a1_0, .string a1_1, .string a1_2, .int .i64 a1_3]] rfl ca ?_; (with_reducible refine (newsreelref10_Done.calls k _ _ l0_0 a1_0 a1_1 a1_2 a1_3 t328 t331 _ ?side1 ?side2 A5.out).mono ?_); (case side1 => exact cz HR0_0.out HB.out); (case side2 => exact HC0_0.out); rintro e w19 ⟨v329, rfl, ho0, hb⟩; refine ⟨_, rfl, ?_⟩; have n0_ := mkA (Kd.V_elder' (Kd.V_y HO0_1.out) (Kd.R_base ho0) hb); have n1_ := mkA (Kd.R_lower (Kd.R_newM (M := fun k_ => (w.heap.size ≤ k_)) ho0 (below_size (below_y HB.out)) (fun k_ h_ => h_)) (below_size (below_y HB.out))); have n2_ := mkA (blk_below (blk_y BK324.out) hb); have n3_ := mkA (blk_below (blk_y BK325.out) hb); have n4_ := mkA (blk_below (blk_y BK326.out) hb); have n5_ := mkA (below_step (below_y HB.out) hb); clear HO0_1; clear BK324; clear BK325; clear BK326; clear HB; have HO0_1 := n0_; have HO330 := n1_; have BK324 := n2_; have BK325 := n3_; have BK326 := n4_; have HB := n5_; clear n0_ n1_ n2_ n3_ n4_ n5_; (try clear hb); (try clear hb2); (try clear hk); (try clear hi); (try clear ho0)))
  have n0_ := mkA (Kd.V_drew HO0_1.out)
  have n1_ := mkA (Kd.R_drew HO330.out)
  have n2_ := mkA (blk_drew BK324.out)
  have n3_ := mkA (blk_drew BK325.out)
  have n4_ := mkA (blk_drew BK326.out)
  have n5_ := mkA (below_drew1 HB.out)
  clear HO0_1 HO330 BK324 BK325 BK326 HB
  have HO0_1 := n0_
  have HO330 := n1_
  have BK324 := n2_
  have BK325 := n3_
  have BK326 := n4_
  have HB := n5_
  clear n0_ n1_ n2_ n3_ n4_ n5_
  refine start_ (n := 13) (S := fun w' => w'.cell? ⟨gb324, 0, none⟩ = some (.slice A0_0 l0_0.length c0_0) ∧ w'.cell? ⟨gb324, 1, none⟩ = some (.slice A0_1 l0_1.length c0_1) ∧ w'.cell? ⟨gb324, 2, none⟩ = some (.slice A0_2 l0_2.length c0_2) ∧ w'.cell? ⟨gb325, 0, none⟩ = some (.int .i64 a1_0) ∧ w'.cell? ⟨gb325, 1, none⟩ = some (.string a1_1) ∧ w'.cell? ⟨gb325, 2, none⟩ = some (.string a1_2) ∧ w'.cell? ⟨gb325, 3, none⟩ = some (.int .i64 a1_3)) (ds := []) #[false, false, false, false, false, false, false, false, false, false, false, false, false] (by kernel_rfl) rfl rfl ⟨(blk_cell BK324.out 0).trans rfl, (blk_cell BK324.out 1).trans rfl, (blk_cell BK324.out 2).trans rfl, (blk_cell BK325.out 0).trans rfl, (blk_cell BK325.out 1).trans rfl, (blk_cell BK325.out 2).trans rfl, (blk_cell BK325.out 3).trans rfl⟩ (fun hHeld => ?_); refine with_tabW newsreelref10_Do.tab6 newsreelref10_Do.bits6 (fun HT_ HW_ => ?_)
  generalize w19.drew = w20 at HO0_1 HO330 BK324 BK325 BK326 HB hHeld ⊢
  refine pure_ (i := 0) (N := some 23) (v := ?_) (a' := ?_) #[true, false, false, false, false, false, false, false, false, false, false, false, false] rfl rfl (any_of HT_.out (by kernel_rfl)) (fun _ _ _ h => h) (Or.inl ⟨by rfl, ?_⟩) ?_ ?_
  rotate_left
  ·intro w'
   go_simp
   with_reducible rfl
  rotate_left
  ·simp only [Act.put, sA, s0, sS, i64_w, i32_w]
   rfl
  refine pure_ (i := 1) (N := some 24) (v := ?_) (a' := ?_) #[true, true, false, false, false, false, false, false, false, false, false, false, false] rfl rfl (any_of HT_.out (by kernel_rfl)) (fun _ _ _ h => h) (Or.inl ⟨by rfl, ?_⟩) ?_ ?_
  rotate_left
  ·intro w'
   go_simp
   with_reducible rfl
  rotate_left
  ·simp only [Act.put, sA, s0, sS, i64_w, i32_w]
   rfl
  refine pure_ (i := 4) (N := some 27) (v := ?_) (a' := ?_) #[true, true, false, false, true, false, false, false, false, false, false, false, false] rfl rfl (any_of HT_.out (by kernel_rfl)) (fun _ _ _ h => h) (Or.inl ⟨by rfl, ?_⟩) ?_ ?_
  rotate_left
  ·intro w'
   go_simp
   with_reducible rfl
  rotate_left
  ·simp only [Act.put, sA, s0, sS, i64_w, i32_w]
   rfl
  refine take_ (i := 2) (N := some 25) (v := ?_) (a' := ?_) #[true, true, true, false, true, false, false, false, false, false, false, false, false] rfl rfl (take_ofW HT_.out HW_.out (by kernel_rfl)) (fun _ _ _ h => h) (Or.inl ⟨by rfl, ?_⟩) hHeld ?_ ?_
  rotate_left
  ·rintro w' ⟨s0, s1, s2, s3, s4, s5, s6⟩
   go_simp
   with_reducible rfl
  rotate_left
  ·simp only [Act.put, sA, s0, sS, i64_w, i32_w]
   rfl
  refine take_ (i := 5) (N := some 28) (v := ?_) (a' := ?_) #[true, true, true, false, true, true, false, false, false, false, false, false, false] rfl rfl (take_ofW HT_.out HW_.out (by kernel_rfl)) (fun _ _ _ h => h) (Or.inl ⟨by rfl, ?_⟩) hHeld ?_ ?_
  rotate_left
  ·rintro w' ⟨s0, s1, s2, s3, s4, s5, s6⟩
   go_simp
   with_reducible rfl
  rotate_left
  ·simp only [Act.put, sA, s0, sS, i64_w, i32_w]
   rfl
  refine take_ (i := 7) (N := some 30) (v := ?_) (a' := ?_) #[true, true, true, false, true, true, false, true, false, false, false, false, false] rfl rfl (take_ofW HT_.out HW_.out (by kernel_rfl)) (fun _ _ _ h => h) (Or.inl ⟨by rfl, ?_⟩) hHeld ?_ ?_
  rotate_left
  ·rintro w' ⟨s0, s1, s2, s3, s4, s5, s6⟩
   first | (have hz_ := fun (a : Act) (o : Oper) (x : Operand) (ho : o.op = .load 69 x) (hx : a.eval x = _) => exec_load_at (P := Try.prog) (W := w') (cs := [_, _, _]) ho hx Try.underlying69 rfl (by kernel_rfl) s3 ⟨s4, s5, s6, trivial⟩; refine (hz_ _ _ (.tmp 3) ?_ ?_).trans ?_; (focus rfl); (focus (first | (with_reducible rfl) | (go_simp; done))); with_reducible rfl) | (go_simp; with_reducible rfl)
  rotate_left
  ·simp only [Act.put, sA, s0, sS, i64_w, i32_w]
   rfl
  refine join_ (σ := Value × Value × Value) 4 #[true, true, true, true, true, true, true, true, true, false, false, false, false] (fun s_ => [(26, s_.1), (29, s_.2.1), (31, s_.2.2)]) (fun s_ w' => (w'.cell? ⟨gb324, 0, none⟩ = some (.slice A0_0 l0_0.length c0_0) ∧ w'.cell? ⟨gb324, 1, none⟩ = some (.slice A0_1 l0_1.length c0_1) ∧ w'.cell? ⟨gb324, 2, none⟩ = some (.slice A0_2 l0_2.length c0_2) ∧ w'.cell? ⟨gb325, 0, none⟩ = some (.int .i64 a1_0) ∧ w'.cell? ⟨gb325, 1, none⟩ = some (.string a1_1) ∧ w'.cell? ⟨gb325, 2, none⟩ = some (.string a1_2) ∧ w'.cell? ⟨gb325, 3, none⟩ = some (.int .i64 a1_3)) ∧ (Kd.V k77 77 w' w.heap.size (fun k_ => (P0_1_ k_ ∨ w.heap.size ≤ k_) ∧ some k_ ≠ (v329 : Value).ownBlock ∧ some k_ ≠ (s_.2.1 : Value).ownBlock ∧ some k_ ≠ (s_.2.2 : Value).ownBlock ∧ k_ ≠ gb324 ∧ k_ ≠ gb325 ∧ k_ ≠ gb326) (.slice A0_1 l0_1.length c0_1) l0_1) ∧ (Kd.R k77 77 w' w.heap.size (fun k_ => (w.heap.size ≤ k_)) v329 t328) ∧ (Kd.R k69 69 w' w.heap.size (fun k_ => (w.heap.size ≤ k_) ∧ some k_ ≠ (s_.2.2 : Value).ownBlock ∧ k_ ≠ gb325) s_.2.1 y335) ∧ (Kd.R k69 69 w' w.heap.size (fun k_ => (w.heap.size ≤ k_) ∧ some k_ ≠ (s_.2.1 : Value).ownBlock ∧ k_ ≠ gb325) s_.2.2 y338) ∧ (w'.heap[gb324]? = some (.cells #[.slice A0_0 l0_0.length c0_0, .slice A0_1 l0_1.length c0_1, .slice A0_2 l0_2.length c0_2] 67 (0, 0))) ∧ (w'.heap[gb325]? = some (.cells #[.int .i64 a1_0, .string a1_1, .string a1_2, .int .i64 a1_3] 69 (0, 0))) ∧ (w'.heap[gb326]? = some (.cells #[.slice none 0 0, .slice none 0 0, .slice none 0 0] 67 (0, 0))) ∧ (Below w.heap.size w w')) ?_ ?_
  rotate_left
  ·intro hCont
   refine two_ (i := 3) (j := 8) (Ni := some 26) (Nj := some 31) #[true, true, true, true, true, true, false, true, false, false, false, false, false] #[true, true, true, false, true, true, false, true, true, false, false, false, false] rfl rfl rfl rfl (two_of HT_.out (by kernel_rfl)) (by decide) (by decide) (fun K hK => ?_) (fun K hK => ?_)
   ·skip
    refine Kd.R_lit_step k69 _ 69 ?hg (N := 26) ?hd (xs := ([] : List (S69))) (inner := []) (ok := fun _ => True) (okp := fun _ => True) ?hr ?hp (fun _ hk => hk) trivial (Below.refl _ _) (Nat.le_refl _) (by simp) ?_; (case hd => rfl); (case hg => rfl); (case hr => first | (go_simp; done) | (go_simp; rfl)); (case hp => exact (Reps.none _ _))
    intro v333 w21 ho22 hb hg_ hnew_
    clear hg_ hnew_
    (first | rw [← Ny332.out] at ho22 | (simp only [Int.reduceToNat] at ho22; rw [← Ny332.out] at ho22))
    have n0_ := mkA (Kd.V_elder' (Kd.V_y HO0_1.out) (Kd.R_base ho22) hb)
    have n1_ := mkA (Kd.R_below (Kd.R_y HO330.out) hb)
    have n2_ := mkA (Kd.R_lower (Kd.R_newB (Kd.R_newM (M := fun k_ => (w.heap.size ≤ k_)) ho22 (below_size (below_y HB.out)) (fun k_ h_ => h_)) (blk_y BK325.out)) (below_size (below_y HB.out)))
    have n3_ := mkA (blk_below (blk_y BK324.out) hb)
    have n4_ := mkA (blk_below (blk_y BK325.out) hb)
    have n5_ := mkA (blk_below (blk_y BK326.out) hb)
    have n6_ := mkA (below_step (below_y HB.out) hb)
    clear HO0_1 HO330 BK324 BK325 BK326 HB
    have HO0_1 := n0_
    have HO330 := n1_
    have HO334 := n2_
    have BK324 := n3_
    have BK325 := n4_
    have BK326 := n5_
    have HB := n6_
    clear n0_ n1_ n2_ n3_ n4_ n5_ n6_ hb ho22
    refine hK.out _ _ ⟨(blk_cell BK324.out 0).trans rfl, (blk_cell BK324.out 1).trans rfl, (blk_cell BK324.out 2).trans rfl, (blk_cell BK325.out 0).trans rfl, (blk_cell BK325.out 1).trans rfl, (blk_cell BK325.out 2).trans rfl, (blk_cell BK325.out 3).trans rfl⟩ (fun hHeld => ?_)
    clear hK K
    refine norm_ (a' := ?_) ?_ ?_
    rotate_left
    ·show Act.put _ (some 26) _ = _
     simp only [Act.put, sA, s0, sS, i64_w, i32_w]
     rfl
    refine two_ (i := 6) (j := 8) (Ni := some 29) (Nj := some 31) #[true, true, true, true, true, true, true, true, false, false, false, false, false] #[true, true, true, true, true, true, false, true, true, false, false, false, false] rfl rfl rfl rfl (two_of HT_.out (by kernel_rfl)) (by decide) (by decide) (fun K hK => ?_) (fun K hK => ?_)
    ·skip
     refine Kd.R_append_rows_step k69 (w0 := w) w.heap.size (by rfl) (.tmp 26) (.tmp 28) 65 69 (.agg #[(.int .i64 0), (.string ⟨#[]⟩), (.string ⟨#[]⟩), (.int .i64 0)]) 48 rfl Try.underlying65 info69 rfl (by decide) (by omega) v333 y332 l0_2 _ _ _ (fun k_ => (w.heap.size ≤ k_) ∧ k_ ≠ gb325) (fun _ => False) rfl rfl ?aO ?aR (fun _ _ h => h) (fun _ h => h.elim) ?aF ?aB ?aS ?aL ?_
     (case aR => repeat (first | exact (Kd.C_below HR0_2.out HB.out) | exact HR0_2.out | (with_reducible refine Kd.C_alloc ?_ _) | (with_reducible refine Kd.C_drewN ?_ _) | (with_reducible refine Kd.C_drew ?_)))
     (case aB => exact (below_y HB.out))
     (case aF => exact (fun k_ hk => ⟨(Nat.le_trans (below_size (below_y HB.out)) hk), Kd.freshB (blk_y BK325.out) k_ hk⟩))
     (case aO => exact (by (with_reducible repeat (first | apply Kd.R_alloc | apply Kd.R_drewN | apply Kd.R_drew)); exact Kd.R_mono HO334.out (fun _ hk => ⟨hk.1.1, hk.2⟩)))
     (case aS => exact (below_size (below_y HB.out)))
     (case aL => have := LMc7.out; omega)
     intro v336 w23 ho hb hg hat
     rw [← Ny335.out] at ho
     (first | have n0_ := mkA (Kd.V_afterv (ok := (fun k_ => (P0_1_ k_ ∨ w.heap.size ≤ k_) ∧ some k_ ≠ (v329 : Value).ownBlock ∧ k_ ≠ gb324 ∧ k_ ≠ gb325 ∧ k_ ≠ gb326)) (by (with_reducible repeat (first | apply Kd.V_alloc | apply Kd.V_drewN | apply Kd.V_drew)); exact Kd.V_mono HO0_1.out (fun _ hk => ⟨⟨hk.1.1.1.1.1, ⟨hk.1.2, ⟨hk.1.1.1.1.2, ⟨hk.1.1.1.2, hk.1.1.2⟩⟩⟩⟩, hk.2⟩)) hg hat) | have n0_ := mkA True.intro)
     have n1_ := mkA (blk_grown (blk_y BK324.out) hg (Kd.R_ne HO334.out BK324.out (by decide)))
     have n2_ := mkA (blk_grown (blk_y BK325.out) hg (Kd.R_away HO334.out (fun _ hk => hk.2)))
     have n3_ := mkA (blk_grown (blk_y BK326.out) hg (Kd.R_ne HO334.out BK326.out (by decide)))
     have n4_ := mkA (Kd.R_over' (Kd.R_y HO330.out) (Kd.R_typed (Kd.R_y HO334.out)) (by decide) hg)
     have n5_ := mkA (hb)
     have n6_ := mkA (ho)
     clear HO0_1 BK324 BK325 BK326 HO330 HB HO334
     have HO0_1 := n0_
     have BK324 := n1_
     have BK325 := n2_
     have BK326 := n3_
     have HO330 := n4_
     have HB := n5_
     have HO337 := n6_
     clear n0_ n1_ n2_ n3_ n4_ n5_ n6_ ho hb hg hat
     refine hK.out _ _ ⟨(blk_cell BK324.out 0).trans rfl, (blk_cell BK324.out 1).trans rfl, (blk_cell BK324.out 2).trans rfl, (blk_cell BK325.out 0).trans rfl, (blk_cell BK325.out 1).trans rfl, (blk_cell BK325.out 2).trans rfl, (blk_cell BK325.out 3).trans rfl⟩ (fun hHeld => ?_)
     clear hK K
     refine norm_ (a' := ?_) ?_ ?_
     rotate_left
     ·show Act.put _ (some 29) _ = _
      simp only [Act.put, sA, s0, sS, i64_w, i32_w]
      rfl
     refine one_ (i := 8) (N := some 31) #[true, true, true, true, true, true, true, true, true, false, false, false, false] rfl rfl (one_of HT_.out (by kernel_rfl)) (by decide) (fun K hK => ?_)
     refine Kd.R_lit_step k69 _ 69 ?hg (N := 31) ?hd (xs := ([(⟨a1_0, a1_1, a1_2, a1_3⟩ : S69)] : List (S69))) (inner := [.int .i64 a1_0, .string a1_1, .string a1_2, .int .i64 a1_3]) (ok := fun _ => True) (okp := fun _ => True) ?hr ?hp (fun _ hk => hk) trivial (Below.refl _ _) (Nat.le_refl _) (by simp) ?_; (case hd => rfl); (case hg => rfl); (case hr => first | (go_simp; done) | (go_simp; rfl)); (case hp => exact (Reps.c4 (show Kd.M k69 _ _ _ (⟨a1_0, a1_1, a1_2, a1_3⟩ : S69) [.int .i64 a1_0, .string a1_1, .string a1_2, .int .i64 a1_3] from (k69_mkM _ _ _ (⟨a1_0, a1_1, a1_2, a1_3⟩ : S69) )) (Reps.none _ _)))
     intro v339 w24 ho25 hb hg_ hnew_
     clear hg_ hnew_
     (first | rw [← Ny338.out] at ho25 | (simp only [Int.reduceToNat] at ho25; rw [← Ny338.out] at ho25))
     have n0_ := mkA (Kd.V_elder' (Kd.V_y HO0_1.out) (Kd.R_base ho25) hb)
     have n1_ := mkA (Kd.R_below (Kd.R_y HO330.out) hb)
     have n2_ := mkA (Kd.R_elder' (Kd.R_y HO337.out) (Kd.R_base ho25) hb)
     have n3_ := mkA (Kd.R_lower (Kd.R_newB (Kd.R_new' (Kd.R_newM (M := fun k_ => (w.heap.size ≤ k_)) ho25 (below_size (below_y HB.out)) (fun k_ h_ => h_)) (Kd.R_lt (Kd.R_y HO337.out))) (blk_y BK325.out)) (below_size (below_y HB.out)))
     have n4_ := mkA (blk_below (blk_y BK324.out) hb)
     have n5_ := mkA (blk_below (blk_y BK325.out) hb)
     have n6_ := mkA (blk_below (blk_y BK326.out) hb)
     have n7_ := mkA (below_step (below_y HB.out) hb)
     clear HO0_1 HO330 HO337 BK324 BK325 BK326 HB
     have HO0_1 := n0_
     have HO330 := n1_
     have HO337 := n2_
     have HO340 := n3_
     have BK324 := n4_
     have BK325 := n5_
     have BK326 := n6_
     have HB := n7_
     clear n0_ n1_ n2_ n3_ n4_ n5_ n6_ n7_ hb ho25
     refine hK.out _ _ ⟨(blk_cell BK324.out 0).trans rfl, (blk_cell BK324.out 1).trans rfl, (blk_cell BK324.out 2).trans rfl, (blk_cell BK325.out 0).trans rfl, (blk_cell BK325.out 1).trans rfl, (blk_cell BK325.out 2).trans rfl, (blk_cell BK325.out 3).trans rfl⟩ (fun hHeld => ?_)
     clear hK K
     refine norm_ (a' := ?_) ?_ ?_
     rotate_left
     ·show Act.put _ (some 31) _ = _
      simp only [Act.put, sA, s0, sS, i64_w, i32_w]
      rfl
     exact norm_ (by simp only [putAll, Act.put, sA, s0, sS]) (hCont (v333, v336, v339) _ ⟨hHeld, (by (with_reducible repeat (first | apply Kd.V_alloc | apply Kd.V_drewN | apply Kd.V_drew)); exact Kd.V_mono HO0_1.out (fun _ hk => ⟨hk.1.1.1, ⟨hk.1.1.2.1, ⟨hk.1.2, ⟨hk.2, ⟨hk.1.1.2.2.1, ⟨hk.1.1.2.2.2.1, hk.1.1.2.2.2.2⟩⟩⟩⟩⟩⟩)), (by (with_reducible repeat (first | apply Kd.R_alloc | apply Kd.R_drewN | apply Kd.R_drew)); exact Kd.R_mono HO330.out (fun _ hk => hk.1)), (by (with_reducible repeat (first | apply Kd.R_alloc | apply Kd.R_drewN | apply Kd.R_drew)); exact Kd.R_mono HO337.out (fun _ hk => ⟨hk.1.1, ⟨hk.2, hk.1.2⟩⟩)), (by (with_reducible repeat (first | apply Kd.R_alloc | apply Kd.R_drewN | apply Kd.R_drew)); exact Kd.R_mono HO340.out (fun _ hk => ⟨hk.1.1.1, ⟨hk.1.2, hk.2⟩⟩)), (blk_y BK324.out), (blk_y BK325.out), (blk_y BK326.out), (below_y HB.out)⟩)
    ·skip
     refine Kd.R_lit_step k69 _ 69 ?hg (N := 31) ?hd (xs := ([(⟨a1_0, a1_1, a1_2, a1_3⟩ : S69)] : List (S69))) (inner := [.int .i64 a1_0, .string a1_1, .string a1_2, .int .i64 a1_3]) (ok := fun _ => True) (okp := fun _ => True) ?hr ?hp (fun _ hk => hk) trivial (Below.refl _ _) (Nat.le_refl _) (by simp) ?_; (case hd => rfl); (case hg => rfl); (case hr => first | (go_simp; done) | (go_simp; rfl)); (case hp => exact (Reps.c4 (show Kd.M k69 _ _ _ (⟨a1_0, a1_1, a1_2, a1_3⟩ : S69) [.int .i64 a1_0, .string a1_1, .string a1_2, .int .i64 a1_3] from (k69_mkM _ _ _ (⟨a1_0, a1_1, a1_2, a1_3⟩ : S69) )) (Reps.none _ _)))
     intro v339 w23 ho24 hb hg_ hnew_
     clear hg_ hnew_
     (first | rw [← Ny338.out] at ho24 | (simp only [Int.reduceToNat] at ho24; rw [← Ny338.out] at ho24))
     have n0_ := mkA (Kd.V_elder' (Kd.V_y HO0_1.out) (Kd.R_base ho24) hb)
     have n1_ := mkA (Kd.R_below (Kd.R_y HO330.out) hb)
     have n2_ := mkA (Kd.R_elder' (Kd.R_y HO334.out) (Kd.R_base ho24) hb)
     have n3_ := mkA (Kd.R_lower (Kd.R_newB (Kd.R_new' (Kd.R_newM (M := fun k_ => (w.heap.size ≤ k_)) ho24 (below_size (below_y HB.out)) (fun k_ h_ => h_)) (Kd.R_lt (Kd.R_y HO334.out))) (blk_y BK325.out)) (below_size (below_y HB.out)))
     have n4_ := mkA (blk_below (blk_y BK324.out) hb)
     have n5_ := mkA (blk_below (blk_y BK325.out) hb)
     have n6_ := mkA (blk_below (blk_y BK326.out) hb)
     have n7_ := mkA (below_step (below_y HB.out) hb)
     clear HO0_1 HO330 HO334 BK324 BK325 BK326 HB
     have HO0_1 := n0_
     have HO330 := n1_
     have HO334 := n2_
     have HO340 := n3_
     have BK324 := n4_
     have BK325 := n5_
     have BK326 := n6_
     have HB := n7_
     clear n0_ n1_ n2_ n3_ n4_ n5_ n6_ n7_ hb ho24
     refine hK.out _ _ ⟨(blk_cell BK324.out 0).trans rfl, (blk_cell BK324.out 1).trans rfl, (blk_cell BK324.out 2).trans rfl, (blk_cell BK325.out 0).trans rfl, (blk_cell BK325.out 1).trans rfl, (blk_cell BK325.out 2).trans rfl, (blk_cell BK325.out 3).trans rfl⟩ (fun hHeld => ?_)
     clear hK K
     refine norm_ (a' := ?_) ?_ ?_
     rotate_left
     ·show Act.put _ (some 31) _ = _
      simp only [Act.put, sA, s0, sS, i64_w, i32_w]
      rfl
     refine one_ (i := 6) (N := some 29) #[true, true, true, true, true, true, true, true, true, false, false, false, false] rfl rfl (one_of HT_.out (by kernel_rfl)) (by decide) (fun K hK => ?_)
     refine Kd.R_append_rows_step k69 (w0 := w) w.heap.size (by rfl) (.tmp 26) (.tmp 28) 65 69 (.agg #[(.int .i64 0), (.string ⟨#[]⟩), (.string ⟨#[]⟩), (.int .i64 0)]) 48 rfl Try.underlying65 info69 rfl (by decide) (by omega) v333 y332 l0_2 _ _ _ (fun k_ => (w.heap.size ≤ k_) ∧ some k_ ≠ (v339 : Value).ownBlock ∧ k_ ≠ gb325) (fun _ => False) rfl rfl ?aO ?aR (fun _ _ h => h) (fun _ h => h.elim) ?aF ?aB ?aS ?aL ?_
     (case aR => repeat (first | exact (Kd.C_below HR0_2.out HB.out) | exact HR0_2.out | (with_reducible refine Kd.C_alloc ?_ _) | (with_reducible refine Kd.C_drewN ?_ _) | (with_reducible refine Kd.C_drew ?_)))
     (case aB => exact (below_y HB.out))
     (case aF => exact (fun k_ hk => ⟨(Nat.le_trans (below_size (below_y HB.out)) hk), Kd.fresh' (Kd.R_lt (Kd.R_y HO340.out)) k_ hk, Kd.freshB (blk_y BK325.out) k_ hk⟩))
     (case aO => exact (by (with_reducible repeat (first | apply Kd.R_alloc | apply Kd.R_drewN | apply Kd.R_drew)); exact Kd.R_mono HO334.out (fun _ hk => ⟨hk.1.1.1, ⟨hk.2, hk.1.2⟩⟩)))
     (case aS => exact (below_size (below_y HB.out)))
     (case aL => have := LMc7.out; omega)
     intro v336 w25 ho hb hg hat
     rw [← Ny335.out] at ho
     (first | have n0_ := mkA (Kd.V_afterv (ok := (fun k_ => (P0_1_ k_ ∨ w.heap.size ≤ k_) ∧ some k_ ≠ (v329 : Value).ownBlock ∧ some k_ ≠ (v339 : Value).ownBlock ∧ k_ ≠ gb324 ∧ k_ ≠ gb325 ∧ k_ ≠ gb326)) (by (with_reducible repeat (first | apply Kd.V_alloc | apply Kd.V_drewN | apply Kd.V_drew)); exact Kd.V_mono HO0_1.out (fun _ hk => ⟨⟨hk.1.1.1.1.1.1, ⟨hk.1.1.2, ⟨hk.2, ⟨hk.1.1.1.1.1.2, ⟨hk.1.1.1.1.2, hk.1.1.1.2⟩⟩⟩⟩⟩, hk.1.2⟩)) hg hat) | have n0_ := mkA True.intro)
     have n1_ := mkA (blk_grown (blk_y BK324.out) hg (Kd.R_ne HO334.out BK324.out (by decide)))
     have n2_ := mkA (blk_grown (blk_y BK325.out) hg (Kd.R_away HO334.out (fun _ hk => hk.1.2)))
     have n3_ := mkA (blk_grown (blk_y BK326.out) hg (Kd.R_ne HO334.out BK326.out (by decide)))
     have n4_ := mkA (Kd.R_over' (Kd.R_y HO330.out) (Kd.R_typed (Kd.R_y HO334.out)) (by decide) hg)
     have n5_ := mkA (Kd.R_after (ok := (fun k_ => (w.heap.size ≤ k_) ∧ k_ ≠ gb325)) (by (with_reducible repeat (first | apply Kd.R_alloc | apply Kd.R_drewN | apply Kd.R_drew)); exact Kd.R_mono HO340.out (fun _ hk => ⟨⟨hk.1.1.1, hk.2⟩, hk.1.2⟩)) hg hat)
     have n6_ := mkA (hb)
     have n7_ := mkA (ho)
     clear HO0_1 BK324 BK325 BK326 HO330 HO340 HB HO334
     have HO0_1 := n0_
     have BK324 := n1_
     have BK325 := n2_
     have BK326 := n3_
     have HO330 := n4_
     have HO340 := n5_
     have HB := n6_
     have HO337 := n7_
     clear n0_ n1_ n2_ n3_ n4_ n5_ n6_ n7_ ho hb hg hat
     refine hK.out _ _ ⟨(blk_cell BK324.out 0).trans rfl, (blk_cell BK324.out 1).trans rfl, (blk_cell BK324.out 2).trans rfl, (blk_cell BK325.out 0).trans rfl, (blk_cell BK325.out 1).trans rfl, (blk_cell BK325.out 2).trans rfl, (blk_cell BK325.out 3).trans rfl⟩ (fun hHeld => ?_)
     clear hK K
     refine norm_ (a' := ?_) ?_ ?_
     rotate_left
     ·show Act.put _ (some 29) _ = _
      simp only [Act.put, sA, s0, sS, i64_w, i32_w]
      rfl
     exact norm_ (by simp only [putAll, Act.put, sA, s0, sS]) (hCont (v333, v336, v339) _ ⟨hHeld, (by (with_reducible repeat (first | apply Kd.V_alloc | apply Kd.V_drewN | apply Kd.V_drew)); exact Kd.V_mono HO0_1.out (fun _ hk => ⟨hk.1.1, ⟨hk.1.2.1, ⟨hk.2, ⟨hk.1.2.2.1, ⟨hk.1.2.2.2.1, ⟨hk.1.2.2.2.2.1, hk.1.2.2.2.2.2⟩⟩⟩⟩⟩⟩)), (by (with_reducible repeat (first | apply Kd.R_alloc | apply Kd.R_drewN | apply Kd.R_drew)); exact Kd.R_mono HO330.out (fun _ hk => hk.1)), (Kd.R_y HO337.out), (by (with_reducible repeat (first | apply Kd.R_alloc | apply Kd.R_drewN | apply Kd.R_drew)); exact Kd.R_mono HO340.out (fun _ hk => ⟨hk.1.1, ⟨hk.2, hk.1.2⟩⟩)), (blk_y BK324.out), (blk_y BK325.out), (blk_y BK326.out), (below_y HB.out)⟩)
   ·skip
    refine Kd.R_lit_step k69 _ 69 ?hg (N := 31) ?hd (xs := ([(⟨a1_0, a1_1, a1_2, a1_3⟩ : S69)] : List (S69))) (inner := [.int .i64 a1_0, .string a1_1, .string a1_2, .int .i64 a1_3]) (ok := fun _ => True) (okp := fun _ => True) ?hr ?hp (fun _ hk => hk) trivial (Below.refl _ _) (Nat.le_refl _) (by simp) ?_; (case hd => rfl); (case hg => rfl); (case hr => first | (go_simp; done) | (go_simp; rfl)); (case hp => exact (Reps.c4 (show Kd.M k69 _ _ _ (⟨a1_0, a1_1, a1_2, a1_3⟩ : S69) [.int .i64 a1_0, .string a1_1, .string a1_2, .int .i64 a1_3] from (k69_mkM _ _ _ (⟨a1_0, a1_1, a1_2, a1_3⟩ : S69) )) (Reps.none _ _)))
    intro v339 w21 ho22 hb hg_ hnew_
    clear hg_ hnew_
    (first | rw [← Ny338.out] at ho22 | (simp only [Int.reduceToNat] at ho22; rw [← Ny338.out] at ho22))
    have n0_ := mkA (Kd.V_elder' (Kd.V_y HO0_1.out) (Kd.R_base ho22) hb)
    have n1_ := mkA (Kd.R_below (Kd.R_y HO330.out) hb)
    have n2_ := mkA (Kd.R_lower (Kd.R_newB (Kd.R_newM (M := fun k_ => (w.heap.size ≤ k_)) ho22 (below_size (below_y HB.out)) (fun k_ h_ => h_)) (blk_y BK325.out)) (below_size (below_y HB.out)))
    have n3_ := mkA (blk_below (blk_y BK324.out) hb)
    have n4_ := mkA (blk_below (blk_y BK325.out) hb)
    have n5_ := mkA (blk_below (blk_y BK326.out) hb)
    have n6_ := mkA (below_step (below_y HB.out) hb)
    clear HO0_1 HO330 BK324 BK325 BK326 HB
    have HO0_1 := n0_
    have HO330 := n1_
    have HO340 := n2_
    have BK324 := n3_
    have BK325 := n4_
    have BK326 := n5_
    have HB := n6_
    clear n0_ n1_ n2_ n3_ n4_ n5_ n6_ hb ho22
    refine hK.out _ _ ⟨(blk_cell BK324.out 0).trans rfl, (blk_cell BK324.out 1).trans rfl, (blk_cell BK324.out 2).trans rfl, (blk_cell BK325.out 0).trans rfl, (blk_cell BK325.out 1).trans rfl, (blk_cell BK325.out 2).trans rfl, (blk_cell BK325.out 3).trans rfl⟩ (fun hHeld => ?_)
    clear hK K
    refine norm_ (a' := ?_) ?_ ?_
    rotate_left
    ·show Act.put _ (some 31) _ = _
     simp only [Act.put, sA, s0, sS, i64_w, i32_w]
     rfl
    refine one_ (i := 3) (N := some 26) #[true, true, true, true, true, true, false, true, true, false, false, false, false] rfl rfl (one_of HT_.out (by kernel_rfl)) (by decide) (fun K hK => ?_)
    refine Kd.R_lit_step k69 _ 69 ?hg (N := 26) ?hd (xs := ([] : List (S69))) (inner := []) (ok := fun _ => True) (okp := fun _ => True) ?hr ?hp (fun _ hk => hk) trivial (Below.refl _ _) (Nat.le_refl _) (by simp) ?_; (case hd => rfl); (case hg => rfl); (case hr => first | (go_simp; done) | (go_simp; rfl)); (case hp => exact (Reps.none _ _))
    intro v333 w23 ho24 hb hg_ hnew_
    clear hg_ hnew_
    (first | rw [← Ny332.out] at ho24 | (simp only [Int.reduceToNat] at ho24; rw [← Ny332.out] at ho24))
    have n0_ := mkA (Kd.V_elder' (Kd.V_y HO0_1.out) (Kd.R_base ho24) hb)
    have n1_ := mkA (Kd.R_below (Kd.R_y HO330.out) hb)
    have n2_ := mkA (Kd.R_elder' (Kd.R_y HO340.out) (Kd.R_base ho24) hb)
    have n3_ := mkA (Kd.R_lower (Kd.R_newB (Kd.R_new' (Kd.R_newM (M := fun k_ => (w.heap.size ≤ k_)) ho24 (below_size (below_y HB.out)) (fun k_ h_ => h_)) (Kd.R_lt (Kd.R_y HO340.out))) (blk_y BK325.out)) (below_size (below_y HB.out)))
    have n4_ := mkA (blk_below (blk_y BK324.out) hb)
    have n5_ := mkA (blk_below (blk_y BK325.out) hb)
    have n6_ := mkA (blk_below (blk_y BK326.out) hb)
    have n7_ := mkA (below_step (below_y HB.out) hb)
    clear HO0_1 HO330 HO340 BK324 BK325 BK326 HB
    have HO0_1 := n0_
    have HO330 := n1_
    have HO340 := n2_
    have HO334 := n3_
    have BK324 := n4_
    have BK325 := n5_
    have BK326 := n6_
    have HB := n7_
    clear n0_ n1_ n2_ n3_ n4_ n5_ n6_ n7_ hb ho24
    refine hK.out _ _ ⟨(blk_cell BK324.out 0).trans rfl, (blk_cell BK324.out 1).trans rfl, (blk_cell BK324.out 2).trans rfl, (blk_cell BK325.out 0).trans rfl, (blk_cell BK325.out 1).trans rfl, (blk_cell BK325.out 2).trans rfl, (blk_cell BK325.out 3).trans rfl⟩ (fun hHeld => ?_)
    clear hK K
    refine norm_ (a' := ?_) ?_ ?_
    rotate_left
    ·show Act.put _ (some 26) _ = _
     simp only [Act.put, sA, s0, sS, i64_w, i32_w]
     rfl
    refine one_ (i := 6) (N := some 29) #[true, true, true, true, true, true, true, true, true, false, false, false, false] rfl rfl (one_of HT_.out (by kernel_rfl)) (by decide) (fun K hK => ?_)
    refine Kd.R_append_rows_step k69 (w0 := w) w.heap.size (by rfl) (.tmp 26) (.tmp 28) 65 69 (.agg #[(.int .i64 0), (.string ⟨#[]⟩), (.string ⟨#[]⟩), (.int .i64 0)]) 48 rfl Try.underlying65 info69 rfl (by decide) (by omega) v333 y332 l0_2 _ _ _ (fun k_ => (w.heap.size ≤ k_) ∧ some k_ ≠ (v339 : Value).ownBlock ∧ k_ ≠ gb325) (fun _ => False) rfl rfl ?aO ?aR (fun _ _ h => h) (fun _ h => h.elim) ?aF ?aB ?aS ?aL ?_
    (case aR => repeat (first | exact (Kd.C_below HR0_2.out HB.out) | exact HR0_2.out | (with_reducible refine Kd.C_alloc ?_ _) | (with_reducible refine Kd.C_drewN ?_ _) | (with_reducible refine Kd.C_drew ?_)))
    (case aB => exact (below_y HB.out))
    (case aF => exact (fun k_ hk => ⟨(Nat.le_trans (below_size (below_y HB.out)) hk), Kd.fresh' (Kd.R_lt (Kd.R_y HO340.out)) k_ hk, Kd.freshB (blk_y BK325.out) k_ hk⟩))
    (case aO => exact (by (with_reducible repeat (first | apply Kd.R_alloc | apply Kd.R_drewN | apply Kd.R_drew)); exact Kd.R_mono HO334.out (fun _ hk => ⟨hk.1.1.1, ⟨hk.1.2, hk.2⟩⟩)))
    (case aS => exact (below_size (below_y HB.out)))
    (case aL => have := LMc7.out; omega)
    intro v336 w25 ho hb hg hat
    rw [← Ny335.out] at ho
    (first | have n0_ := mkA (Kd.V_afterv (ok := (fun k_ => (P0_1_ k_ ∨ w.heap.size ≤ k_) ∧ some k_ ≠ (v329 : Value).ownBlock ∧ some k_ ≠ (v339 : Value).ownBlock ∧ k_ ≠ gb324 ∧ k_ ≠ gb325 ∧ k_ ≠ gb326)) (by (with_reducible repeat (first | apply Kd.V_alloc | apply Kd.V_drewN | apply Kd.V_drew)); exact Kd.V_mono HO0_1.out (fun _ hk => ⟨⟨hk.1.1.1.1.1.1, ⟨hk.1.1.2, ⟨hk.1.2, ⟨hk.1.1.1.1.1.2, ⟨hk.1.1.1.1.2, hk.1.1.1.2⟩⟩⟩⟩⟩, hk.2⟩)) hg hat) | have n0_ := mkA True.intro)
    have n1_ := mkA (blk_grown (blk_y BK324.out) hg (Kd.R_ne HO334.out BK324.out (by decide)))
    have n2_ := mkA (blk_grown (blk_y BK325.out) hg (Kd.R_away HO334.out (fun _ hk => hk.2)))
    have n3_ := mkA (blk_grown (blk_y BK326.out) hg (Kd.R_ne HO334.out BK326.out (by decide)))
    have n4_ := mkA (Kd.R_over' (Kd.R_y HO330.out) (Kd.R_typed (Kd.R_y HO334.out)) (by decide) hg)
    have n5_ := mkA (Kd.R_after (ok := (fun k_ => (w.heap.size ≤ k_) ∧ k_ ≠ gb325)) (by (with_reducible repeat (first | apply Kd.R_alloc | apply Kd.R_drewN | apply Kd.R_drew)); exact Kd.R_mono HO340.out (fun _ hk => ⟨⟨hk.1.1.1, hk.1.2⟩, hk.2⟩)) hg hat)
    have n6_ := mkA (hb)
    have n7_ := mkA (ho)
    clear HO0_1 BK324 BK325 BK326 HO330 HO340 HB HO334
    have HO0_1 := n0_
    have BK324 := n1_
    have BK325 := n2_
    have BK326 := n3_
    have HO330 := n4_
    have HO340 := n5_
    have HB := n6_
    have HO337 := n7_
    clear n0_ n1_ n2_ n3_ n4_ n5_ n6_ n7_ ho hb hg hat
    refine hK.out _ _ ⟨(blk_cell BK324.out 0).trans rfl, (blk_cell BK324.out 1).trans rfl, (blk_cell BK324.out 2).trans rfl, (blk_cell BK325.out 0).trans rfl, (blk_cell BK325.out 1).trans rfl, (blk_cell BK325.out 2).trans rfl, (blk_cell BK325.out 3).trans rfl⟩ (fun hHeld => ?_)
    clear hK K
    refine norm_ (a' := ?_) ?_ ?_
    rotate_left
    ·show Act.put _ (some 29) _ = _
     simp only [Act.put, sA, s0, sS, i64_w, i32_w]
     rfl
    exact norm_ (by simp only [putAll, Act.put, sA, s0, sS]) (hCont (v333, v336, v339) _ ⟨hHeld, (by (with_reducible repeat (first | apply Kd.V_alloc | apply Kd.V_drewN | apply Kd.V_drew)); exact Kd.V_mono HO0_1.out (fun _ hk => ⟨hk.1.1, ⟨hk.1.2.1, ⟨hk.2, ⟨hk.1.2.2.1, ⟨hk.1.2.2.2.1, ⟨hk.1.2.2.2.2.1, hk.1.2.2.2.2.2⟩⟩⟩⟩⟩⟩)), (by (with_reducible repeat (first | apply Kd.R_alloc | apply Kd.R_drewN | apply Kd.R_drew)); exact Kd.R_mono HO330.out (fun _ hk => hk.1)), (Kd.R_y HO337.out), (by (with_reducible repeat (first | apply Kd.R_alloc | apply Kd.R_drewN | apply Kd.R_drew)); exact Kd.R_mono HO340.out (fun _ hk => ⟨hk.1.1, ⟨hk.2, hk.1.2⟩⟩)), (blk_y BK324.out), (blk_y BK325.out), (blk_y BK326.out), (below_y HB.out)⟩)
  rintro ⟨v333, v336, v339⟩ w26 ⟨hS_, h0_, h1_, h2_, h3_, h4_, h5_, h6_, h7_⟩
  have n0_ : Aside0 (Kd.V k77 77 w26 w.heap.size (fun k_ => (P0_1_ k_ ∨ w.heap.size ≤ k_) ∧ some k_ ≠ (v329 : Value).ownBlock ∧ some k_ ≠ (v336 : Value).ownBlock ∧ some k_ ≠ (v339 : Value).ownBlock ∧ k_ ≠ gb324 ∧ k_ ≠ gb325 ∧ k_ ≠ gb326) (.slice A0_1 l0_1.length c0_1) l0_1) := ⟨h0_⟩
  have n1_ : Aside0 (Kd.R k77 77 w26 w.heap.size (fun k_ => (w.heap.size ≤ k_)) v329 t328) := ⟨h1_⟩
  have n2_ : Aside0 (Kd.R k69 69 w26 w.heap.size (fun k_ => (w.heap.size ≤ k_) ∧ some k_ ≠ (v339 : Value).ownBlock ∧ k_ ≠ gb325) v336 y335) := ⟨h2_⟩
  have n3_ : Aside0 (Kd.R k69 69 w26 w.heap.size (fun k_ => (w.heap.size ≤ k_) ∧ some k_ ≠ (v336 : Value).ownBlock ∧ k_ ≠ gb325) v339 y338) := ⟨h3_⟩
  have n4_ : Aside0 (w26.heap[gb324]? = some (.cells #[.slice A0_0 l0_0.length c0_0, .slice A0_1 l0_1.length c0_1, .slice A0_2 l0_2.length c0_2] 67 (0, 0))) := ⟨h4_⟩
  have n5_ : Aside0 (w26.heap[gb325]? = some (.cells #[.int .i64 a1_0, .string a1_1, .string a1_2, .int .i64 a1_3] 69 (0, 0))) := ⟨h5_⟩
  have n6_ : Aside0 (w26.heap[gb326]? = some (.cells #[.slice none 0 0, .slice none 0 0, .slice none 0 0] 67 (0, 0))) := ⟨h6_⟩
  have n7_ : Aside0 (Below w.heap.size w w26) := ⟨h7_⟩
  clear HO0_1 HO330 BK324 BK325 BK326 HB h0_ h1_ h2_ h3_ h4_ h5_ h6_ h7_
  have HO0_1 := n0_
  have HO330 := n1_
  have HO337 := n2_
  have HO340 := n3_
  have BK324 := n4_
  have BK325 := n5_
  have BK326 := n6_
  have HB := n7_
  clear n0_ n1_ n2_ n3_ n4_ n5_ n6_ n7_
  have hHeld : w26.cell? ⟨gb324, 0, none⟩ = some (.slice A0_0 l0_0.length c0_0) ∧ w26.cell? ⟨gb324, 1, none⟩ = some (.slice A0_1 l0_1.length c0_1) ∧ w26.cell? ⟨gb324, 2, none⟩ = some (.slice A0_2 l0_2.length c0_2) ∧ w26.cell? ⟨gb325, 0, none⟩ = some (.int .i64 a1_0) ∧ w26.cell? ⟨gb325, 1, none⟩ = some (.string a1_1) ∧ w26.cell? ⟨gb325, 2, none⟩ = some (.string a1_2) ∧ w26.cell? ⟨gb325, 3, none⟩ = some (.int .i64 a1_3) := hS_
  obtain ⟨Ao28, co28, eo28⟩ := Kd.R_slice HO340.out
  (first | subst eo28 | (injection eo28 with f1_ f2_ f3_; have f4_ := f1_.symm; have f5_ := f3_.symm; clear f1_ f2_ f3_; subst f4_; subst f5_))
  refine norm_ (a' := ?_) ?_ ?_
  rotate_left
  ·simp only [putAll, Act.put, sA, s0, sS]
   rfl
  refine one_ (i := 9) (N := some 32) #[true, true, true, true, true, true, true, true, true, true, false, false, false] rfl rfl (one_of HT_.out (by kernel_rfl)) (by decide) (fun K hK => ?_)
  refine Kd.R_append_rows_step k69 (w0 := w) w.heap.size (by rfl) (.tmp 29) (.tmp 31) 65 69 (.agg #[(.int .i64 0), (.string ⟨#[]⟩), (.string ⟨#[]⟩), (.int .i64 0)]) 48 rfl Try.underlying65 info69 rfl (by decide) (by omega) v336 y335 y338 _ _ _ (fun k_ => (w.heap.size ≤ k_) ∧ some k_ ≠ (.slice Ao28 y338.length co28 : Value).ownBlock ∧ k_ ≠ gb325) (fun _ => False) rfl rfl ?aO ?aR (fun _ _ h => h) (fun _ h => h.elim) ?aF ?aB ?aS ?aL ?_
  (case aR => exact Kd.C_y (Kd.R_reads' HO340.out).2.2)
  (case aB => exact (below_y HB.out))
  (case aF => exact (fun k_ hk => ⟨(Nat.le_trans (below_size (below_y HB.out)) hk), Kd.fresh' (Kd.R_lt (Kd.R_y HO340.out)) k_ hk, Kd.freshB (blk_y BK325.out) k_ hk⟩))
  (case aO => exact (Kd.R_y HO337.out))
  (case aS => exact (below_size (below_y HB.out)))
  (case aL => have := LMc8.out; omega)
  intro v342 w27 ho hb hg hat
  rw [← Ny341.out] at ho
  (first | have n0_ := mkA (Kd.V_afterv (ok := (fun k_ => (P0_1_ k_ ∨ w.heap.size ≤ k_) ∧ some k_ ≠ (v329 : Value).ownBlock ∧ some k_ ≠ (.slice Ao28 y338.length co28 : Value).ownBlock ∧ k_ ≠ gb324 ∧ k_ ≠ gb325 ∧ k_ ≠ gb326)) (by (with_reducible repeat (first | apply Kd.V_alloc | apply Kd.V_drewN | apply Kd.V_drew)); exact Kd.V_mono HO0_1.out (fun _ hk => ⟨⟨hk.1, ⟨hk.2.1, ⟨hk.2.2.2.1, ⟨hk.2.2.2.2.1, ⟨hk.2.2.2.2.2.1, hk.2.2.2.2.2.2⟩⟩⟩⟩⟩, hk.2.2.1⟩)) hg hat) | have n0_ := mkA True.intro)
  have n1_ := mkA (blk_grown (blk_y BK324.out) hg (Kd.R_ne HO337.out BK324.out (by decide)))
  have n2_ := mkA (blk_grown (blk_y BK325.out) hg (Kd.R_away HO337.out (fun _ hk => hk.2.2)))
  have n3_ := mkA (blk_grown (blk_y BK326.out) hg (Kd.R_ne HO337.out BK326.out (by decide)))
  have n4_ := mkA (Kd.R_over' (Kd.R_y HO330.out) (Kd.R_typed (Kd.R_y HO337.out)) (by decide) hg)
  have n5_ := mkA (Kd.R_after (ok := (fun k_ => (w.heap.size ≤ k_) ∧ k_ ≠ gb325)) (by (with_reducible repeat (first | apply Kd.R_alloc | apply Kd.R_drewN | apply Kd.R_drew)); exact Kd.R_mono HO340.out (fun _ hk => ⟨⟨hk.1, hk.2.2⟩, hk.2.1⟩)) hg hat)
  have n6_ := mkA (hb)
  have n7_ := mkA (ho)
  clear HO0_1 BK324 BK325 BK326 HO330 HO340 HB HO337
  have HO0_1 := n0_
  have BK324 := n1_
  have BK325 := n2_
  have BK326 := n3_
  have HO330 := n4_
  have HO340 := n5_
  have HB := n6_
  have HO343 := n7_
  clear n0_ n1_ n2_ n3_ n4_ n5_ n6_ n7_ ho hb hg hat
  obtain ⟨Ao29, co29, eo29⟩ := Kd.R_slice HO343.out
  (first | subst eo29 | (injection eo29 with f1_ f2_ f3_; have f4_ := f1_.symm; have f5_ := f3_.symm; clear f1_ f2_ f3_; subst f4_; subst f5_))
  obtain ⟨Ao30, co30, eo30⟩ := Kd.R_slice HO330.out
  (first | subst eo30 | (injection eo30 with f1_ f2_ f3_; have f4_ := f1_.symm; have f5_ := f3_.symm; clear f1_ f2_ f3_; subst f4_; subst f5_))
  refine hK.out _ _ ⟨(blk_cell BK324.out 0).trans rfl, (blk_cell BK324.out 1).trans rfl, (blk_cell BK324.out 2).trans rfl, (blk_cell BK325.out 0).trans rfl, (blk_cell BK325.out 1).trans rfl, (blk_cell BK325.out 2).trans rfl, (blk_cell BK325.out 3).trans rfl⟩ (fun hHeld => ?_)
  clear hK K
  refine norm_ (a' := ?_) ?_ ?_
  rotate_left
  ·show Act.put _ (some 32) _ = _
   simp only [Act.put, sA, s0, sS, i64_w, i32_w]
   rfl
  refine pure_ (i := 10) (N := some 33) (v := ?_) (a' := ?_) #[true, true, true, true, true, true, true, true, true, true, true, false, false] rfl rfl (any_of HT_.out (by kernel_rfl)) (fun _ _ _ h => h) (Or.inl ⟨by rfl, ?_⟩) ?_ ?_
  rotate_left
  ·intro w'
   go_simp
   with_reducible rfl
  rotate_left
  ·simp only [Act.put, sA, s0, sS, i64_w, i32_w]
   rfl
  refine one_ (i := 11) (N := none) #[true, true, true, true, true, true, true, true, true, true, true, true, false] rfl rfl (one_of HT_.out (by kernel_rfl)) (by decide) (fun K hK => ?_)
  have hs31 : w27.cell? ⟨gb326, 0, none⟩ = some (.slice none 0 0) := (blk_cell BK326.out 0).trans rfl
  have hfs31 := blk_frozen BK326.out 0
  have hns31_0 := NB324_326.out
  have hns31_1 := NB325_326.out
  have hms31_0 := NB326_324.out
  have hms31_1 := NB326_325.out
  have hs32 : w27.cell? ⟨gb326, 1, none⟩ = some (.slice none 0 0) := (blk_cell BK326.out 1).trans rfl
  have hfs32 := blk_frozen BK326.out 1
  have hns32_0 := NB324_326.out
  have hns32_1 := NB325_326.out
  have hms32_0 := NB326_324.out
  have hms32_1 := NB326_325.out
  have hs33 : w27.cell? ⟨gb326, 2, none⟩ = some (.slice none 0 0) := (blk_cell BK326.out 2).trans rfl
  have hfs33 := blk_frozen BK326.out 2
  have hns33_0 := NB324_326.out
  have hns33_1 := NB325_326.out
  have hms33_0 := NB326_324.out
  have hms33_1 := NB326_325.out
  refine skip_ (w1 := ?_) (by rfl) rfl ?_ ?_
  rotate_left
  ·go_simp
   rfl
  refine hK.out _ _ ⟨((cell_far (p := ⟨gb326, _, none⟩) NB324_326.out _).trans (((cell_far (p := ⟨gb326, _, none⟩) NB324_326.out _).trans (((cell_far (p := ⟨gb326, _, none⟩) NB324_326.out _).trans (hHeld.1)))))), ((cell_far (p := ⟨gb326, _, none⟩) NB324_326.out _).trans (((cell_far (p := ⟨gb326, _, none⟩) NB324_326.out _).trans (((cell_far (p := ⟨gb326, _, none⟩) NB324_326.out _).trans (hHeld.2.1)))))), ((cell_far (p := ⟨gb326, _, none⟩) NB324_326.out _).trans (((cell_far (p := ⟨gb326, _, none⟩) NB324_326.out _).trans (((cell_far (p := ⟨gb326, _, none⟩) NB324_326.out _).trans (hHeld.2.2.1)))))), ((cell_far (p := ⟨gb326, _, none⟩) NB325_326.out _).trans (((cell_far (p := ⟨gb326, _, none⟩) NB325_326.out _).trans (((cell_far (p := ⟨gb326, _, none⟩) NB325_326.out _).trans (hHeld.2.2.2.1)))))), ((cell_far (p := ⟨gb326, _, none⟩) NB325_326.out _).trans (((cell_far (p := ⟨gb326, _, none⟩) NB325_326.out _).trans (((cell_far (p := ⟨gb326, _, none⟩) NB325_326.out _).trans (hHeld.2.2.2.2.1)))))), ((cell_far (p := ⟨gb326, _, none⟩) NB325_326.out _).trans (((cell_far (p := ⟨gb326, _, none⟩) NB325_326.out _).trans (((cell_far (p := ⟨gb326, _, none⟩) NB325_326.out _).trans (hHeld.2.2.2.2.2.1)))))), ((cell_far (p := ⟨gb326, _, none⟩) NB325_326.out _).trans (((cell_far (p := ⟨gb326, _, none⟩) NB325_326.out _).trans (((cell_far (p := ⟨gb326, _, none⟩) NB325_326.out _).trans (hHeld.2.2.2.2.2.2))))))⟩ (fun hHeld => ?_)
  clear hK K
  refine pure_ (i := 12) (N := some 5) (v := ?_) (a' := ?_) #[true, true, true, true, true, true, true, true, true, true, true, true, true] rfl rfl (any_of HT_.out (by kernel_rfl)) (fun _ _ _ h => h) (Or.inl ⟨by rfl, ?_⟩) ?_ ?_
  rotate_left
  ·intro w'
   go_simp
   with_reducible rfl
  rotate_left
  ·simp only [Act.put, sA, s0, sS, i64_w, i32_w]
   rfl
  refine done_ (done_of HT_.out (by kernel_rfl)) ?_
  try go_wp2_with (first | ((with_reducible refine gate_load (t := 69) rfl ?_); refine load_row3 (t := 69) (g := gb325) ?hg BK325.out ?ho ?hb Try.underlying69 rfl ?hs ?_; (case hg => rfl); (case ho => refine ⟨_, rfl, ?_⟩; first | (with_reducible rfl) | (go_simp; done)); (case hb => (with_reducible repeat (first | refine blk_drewN ?_ _ | refine blk_drew ?_ | refine blk_alloc ?_ _)); with_reducible exact BK325.out); (case hs => kernel_rfl)))
  refine bodyPost_ret (results_ct rfl _ _ gb326 67 #[.slice Ao30 t328.length co30, .slice A0_1 l0_1.length c0_1, .slice Ao29 y341.length co29] (0, 0) _ rfl (by (with_reducible repeat (first | refine blk_drewN ?_ _ | refine blk_drew ?_ | refine blk_alloc ?_ _)); refine blk_put (cs := #[.slice Ao30 t328.length co30, .slice A0_1 l0_1.length c0_1, .slice none 0 0]) ?_ 2 _ rfl; (with_reducible repeat (first | refine blk_drewN ?_ _ | refine blk_drew ?_ | refine blk_alloc ?_ _)); refine blk_put (cs := #[.slice Ao30 t328.length co30, .slice none 0 0, .slice none 0 0]) ?_ 1 _ rfl; (with_reducible repeat (first | refine blk_drewN ?_ _ | refine blk_drew ?_ | refine blk_alloc ?_ _)); refine blk_put (cs := #[.slice none 0 0, .slice none 0 0, .slice none 0 0]) ?_ 0 _ rfl; (with_reducible repeat (first | refine blk_drewN ?_ _ | refine blk_drew ?_ | refine blk_alloc ?_ _)); exact BK326.out) Try.underlying67 rfl (by kernel_rfl)) rfl ?_
  exact ⟨_, _, _, by first | rfl | (simp [errW_none, errW_some] <;> rfl) | (simp [*, errW_none, errW_some] <;> rfl), by (with_reducible repeat (first | apply Kd.R_alloc | apply Kd.R_drewN | apply Kd.R_drew)); exact Kd.R_mono (Kd.R_far (p := ⟨gb326, 2, none⟩) (Kd.R_far (p := ⟨gb326, 1, none⟩) (Kd.R_far (p := ⟨gb326, 0, none⟩) (Kd.R_types HO330.out BK326.out (by decide)) (fun _ hk => hk.2) (.slice Ao30 t328.length co30)) (fun _ hk => hk.2) (.slice A0_1 l0_1.length c0_1)) (fun _ hk => hk.2) (.slice Ao29 y341.length co29)) (fun _ hk => hk.1), by (with_reducible repeat (first | apply Kd.V_alloc | apply Kd.V_drewN | apply Kd.V_drew)); exact Kd.V_mono (Kd.V_far (p := ⟨gb326, 2, none⟩) (Kd.V_far (p := ⟨gb326, 1, none⟩) (Kd.V_far (p := ⟨gb326, 0, none⟩) (Kd.V_mono HO0_1.out (fun k_ hk => (⟨hk, hk.1.2.2.2.2.2⟩ : _ ∧ k_ ≠ gb326))) (fun _ hk => hk.2) (.slice Ao30 t328.length co30)) (fun _ hk => hk.2) (.slice A0_1 l0_1.length c0_1)) (fun _ hk => hk.2) (.slice Ao29 y341.length co29)) (fun _ hk => ⟨hk.1.1.1, ⟨hk.1.1.2.1, hk.1.2⟩⟩), by (with_reducible repeat (first | apply Kd.R_alloc | apply Kd.R_drewN | apply Kd.R_drew)); exact Kd.R_mono (Kd.R_far (p := ⟨gb326, 2, none⟩) (Kd.R_far (p := ⟨gb326, 1, none⟩) (Kd.R_far (p := ⟨gb326, 0, none⟩) (Kd.R_types HO343.out BK326.out (by decide)) (fun _ hk => hk.2) (.slice Ao30 t328.length co30)) (fun _ hk => hk.2) (.slice A0_1 l0_1.length c0_1)) (fun _ hk => hk.2) (.slice Ao29 y341.length co29)) (fun _ hk => hk.1.1), by repeat (first | (with_reducible first | exact HB.out | apply below_alloc | apply pw_below_drewN | apply below_drew1 | refine below_set ?_ GE324.out | refine below_set ?_ GE325.out | refine below_set ?_ GE326.out) | exact HB.out)⟩

end Go.Proofs.Ytkkikdjfigffhab.XDir
