-- By a program of this work (xprint.py) over the translation; Lean checks it.
import Derived.Test.YtkkikdjfigffhabXDirx0
import Derived.Test.YtkkikdjfigffhabXDirx4
import Derived.Test.YtkkikdjfigffhabXDirx7
import Derived.Test.YtkkikdjfigffhabXDirx12
import Derived.Test.YtkkikdjfigffhabXDirx13
import Derived.Test.YtkkikdjfigffhabXDirx15
namespace Go.Proofs.Ytkkikdjfigffhab.XDir
open Go.RowKit Go.Proofs.YtkkikdjfigffhabW.PrintWords Go.Proofs.YtkkikdjfigffhabW.PrintLast Go.Proofs.YtkkikdjfigffhabW.PrintMore
attribute [local go_sem] max2_int min2_int max_two min_two max_three min_three max_four min_four   -- for this text's walks alone
set_option linter.unusedVariables false
set_option linter.unusedSimpArgs false

/-! ### dir_done: function 90 -/
def dir_done.j0 : Nat → List (S77) → Int → Bool → Int → ByteArray → ByteArray → Int → Option ((List (S77)) × Int)
 | 0, _, _, _, _, _, _, _ => none
 | k + 1, x0, x6, x38, x125000, x125001, x125002, x125003 => if x38 = true then (some (([] : List (S77)), 1)) else ((dir_without.f x0 x6).bind fun t132 => (if 0 ≤ x6 then (if x6 < (x0.length : Int) then ((dir_with.f t132 x125002 ((rd_T77 x0 x6).f1)).bind fun t136 => (some (t136, 0))) else (none)) else (none)))
def dir_done.f (k : Nat) (l0 : List (S77)) (a1_0 : Int) (a1_1 : ByteArray) (a1_2 : ByteArray) (a1_3 : Int) : Option ((List (S77)) × Int) := (dir_place.f l0 a1_1).bind fun bt125 => (if a1_0 = 1 then ((dir_link.f k l0 a1_0 a1_1 a1_2 a1_3).bind fun bt127 => (some (bt127.1, bt127.2))) else (if a1_0 = 2 then (if bt125.2 = true then ((dir_Name.f k a1_2).bind fun t131 => (if t131 = true then (dir_done.j0 k l0 bt125.1 (a1_2.toList == a1_1.toList) a1_0 a1_1 a1_2 a1_3) else (dir_done.j0 k l0 bt125.1 true a1_0 a1_1 a1_2 a1_3))) else (some (([] : List (S77)), 5))) else (if a1_0 = 3 then (if bt125.2 = true then ((dir_without.f l0 bt125.1).bind fun t139 => (some (t139, 0))) else (some (([] : List (S77)), 5))) else (some (([] : List (S77)), 16)))))
theorem dir_done.mono_l : ∀ k, (∀ y0 y1 y2 y3 y4 y5 y6, LeO (dir_done.j0 k y0 y1 y2 y3 y4 y5 y6) (dir_done.j0 (k + 1) y0 y1 y2 y3 y4 y5 y6))
 | 0 => fun _ _ _ _ _ _ _ r h => by simp [dir_done.j0] at h
 | k + 1 => by
  have ih0 := dir_done.mono_l k
  ·intro y0 y1 y2 y3 y4 y5 y6
   unfold dir_done.j0
   repeat' first
   | (with_reducible exact ih0 _ _ _ _ _ _ _)
   | (with_reducible exact dir_Name.mono _ _)
   | (with_reducible exact dir_link.mono _ _ _ _ _ _)
   | (with_reducible exact LeO.refl _)
   | (with_reducible exact LeO.none _)
   | (with_reducible refine LeO.ite ?_ ?_)
   | (with_reducible refine LeO.bind ?_ (fun _ => ?_))
   | exact ih0 _ _ _ _ _ _ _
   | exact dir_Name.mono _ _
   | exact dir_link.mono _ _ _ _ _ _
   | exact LeO.none _
   | refine LeO.ite ?_ ?_
   | refine LeO.bind ?_ (fun _ => ?_)
theorem dir_done.mono : ∀ a0 a1 a2 a3 a4 k, LeO (dir_done.f k a0 a1 a2 a3 a4) (dir_done.f (k + 1) a0 a1 a2 a3 a4) := by
 intro a0 a1 a2 a3 a4 k
 have ih0 := dir_done.mono_l k
 unfold dir_done.f
 repeat' first
   | (with_reducible exact ih0 _ _ _ _ _ _ _)
   | (with_reducible exact dir_Name.mono _ _)
   | (with_reducible exact dir_link.mono _ _ _ _ _ _)
   | (with_reducible exact LeO.refl _)
   | (with_reducible exact LeO.none _)
   | (with_reducible refine LeO.ite ?_ ?_)
   | (with_reducible refine LeO.bind ?_ (fun _ => ?_))
   | exact ih0 _ _ _ _ _ _ _
   | exact dir_Name.mono _ _
   | exact dir_link.mono _ _ _ _ _ _
   | exact LeO.none _
   | refine LeO.ite ?_ ?_
   | refine LeO.bind ?_ (fun _ => ?_)
def dir_done.T10 : Bool × List (List Nat × List Nat) := (true, [([], []), ([], []), ([0, 1], [0, 1]), ([], []), ([3], [3]), ([], []), ([], []), ([5, 6], [5, 6]), ([7], [7]), ([8], [8]), ([4, 9], [4, 9]), ([2, 10, 2], [2, 10]), ([11, 11, 0, 1, 2, 3, 4, 5, 6, 7, 8, 9, 10, 11], [11]), ([12, 0, 1, 2, 3, 4, 5, 6, 7, 8, 9, 10, 11, 12], [])])
def dir_done.B10 : List Nat := [0, 0, 3, 0, 8, 0, 0, 96, 224, 480, 1016, 2047, 4095, 8191]
theorem dir_done.tab10 : rtab .any (opsOf Try.f90 10) = dir_done.T10 := by kernel_rfl
theorem dir_done.bits10 : waitsOk dir_done.T10.2 dir_done.B10 = true := by kernel_rfl
set_option maxHeartbeats 8000000 in
set_option maxRecDepth 100000 in
theorem dir_done.calls (k : Nat) (A0 : Option Addr) (c0 : Nat) (l0 : List (S77)) (a1_0 : Int) (a1_1 : ByteArray) (a1_2 : ByteArray) (a1_3 : Int) (r1 : List (S77)) (r2 : Int) (w : World) (hr0 : Kd.C k77 w A0 l0.length l0) (hc0 : l0.length ≤ c0) (h : dir_done.f k l0 a1_0 a1_1 a1_2 a1_3 = some (r1, r2)) :
  Calls Try.prog 90 #[.slice A0 l0.length c0, .agg #[.int .i64 a1_0, .string a1_1, .string a1_2, .int .i64 a1_3]] w fun e w' => ∃ v0_ : Value, e = .returned (.tuple #[v0_, .int .i64 r2]) ∧ Kd.R k77 77 w' w.heap.size (fun _ => True) v0_ r1 ∧ Below w.heap.size w w' := by
 have hu69 := Try.underlying69
 have hu77 := Try.underlying77
 have HR0 := mkA hr0
 have HC0 := mkA hc0
 clear hr0 hc0
 have HB := mkA (Below.refl w.heap.size w)
 have H : ((dir_place.f l0 a1_1).bind fun bt125 => (if a1_0 = 1 then ((dir_link.f k l0 a1_0 a1_1 a1_2 a1_3).bind fun bt127 => (some (bt127.1, bt127.2))) else (if a1_0 = 2 then (if bt125.2 = true then ((dir_Name.f k a1_2).bind fun t131 => (if t131 = true then (dir_done.j0 k l0 bt125.1 (a1_2.toList == a1_1.toList) a1_0 a1_1 a1_2 a1_3) else (dir_done.j0 k l0 bt125.1 true a1_0 a1_1 a1_2 a1_3))) else (some (([] : List (S77)), 5))) else (if a1_0 = 3 then (if bt125.2 = true then ((dir_without.f l0 bt125.1).bind fun t139 => (some (t139, 0))) else (some (([] : List (S77)), 5))) else (some (([] : List (S77)), 16)))))) = some (r1, r2) := h
 clear h
 replace H := Option.bind_eq_some_iff.mp H
 obtain ⟨⟨t125, t126⟩, A30, H⟩ := H
 replace H : (if a1_0 = 1 then ((dir_link.f k l0 a1_0 a1_1 a1_2 a1_3).bind fun bt127 => (some (bt127.1, bt127.2))) else (if a1_0 = 2 then (if t126 = true then ((dir_Name.f k a1_2).bind fun t131 => (if t131 = true then (dir_done.j0 k l0 t125 (a1_2.toList == a1_1.toList) a1_0 a1_1 a1_2 a1_3) else (dir_done.j0 k l0 t125 true a1_0 a1_1 a1_2 a1_3))) else (some (([] : List (S77)), 5))) else (if a1_0 = 3 then (if t126 = true then ((dir_without.f l0 t125).bind fun t139 => (some (t139, 0))) else (some (([] : List (S77)), 5))) else (some (([] : List (S77)), 16))))) = some (r1, r2) := H
 have A3 := mkA A30
 clear A30
 by_cases c4 : a1_0 = 1
 ·rw [if_pos c4] at H
  have c4b0 : (a1_0 == 1) = true := beq_iff_eq.mpr c4
  have c4b1 : (a1_0 != 1) = false := bne_eq_false_iff_eq.mpr c4
  clear c4
  replace H := Option.bind_eq_some_iff.mp H
  obtain ⟨⟨t127, t130⟩, A50, H⟩ := H
  replace H : (some (t127, t130)) = some (r1, r2) := H
  have A5 := mkA A50
  clear A50
  as_aux_lemma =>
   simp only [Option.some.injEq, Prod.mk.injEq] at H
   obtain ⟨rfl, rfl⟩ := H
   go_enter Try.func90, Try.ntmps90
   go_wp2_with (first | ((with_reducible refine gate_load (t := 69) rfl ?_); refine load_row3 (t := 69) (g := gb124) ?hg BK124.out ?ho ?hb Try.underlying69 rfl ?hs ?_; (case hg => rfl); (case ho => refine ⟨_, rfl, ?_⟩; first | (with_reducible rfl) | (go_simp; done)); (case hb => (with_reducible repeat (first | refine blk_drewN ?_ _ | refine blk_drew ?_ | refine blk_alloc ?_ _)); with_reducible exact BK124.out); (case hs => kernel_rfl)) | ((with_reducible refine gate_dst (N := 3) rfl ?_); refine box_event ?hg (N := 3) ?hd (cs := #[.int .i64 a1_0, .string a1_1, .string a1_2, .int .i64 a1_3]) (t := 69) ?hr ?_; (case hd => rfl); (case hg => rfl); (case hr => first | (go_simp; done) | (go_simp; rfl)); intro gb124 hg w6 hbox hb; have n0_ := mkA (below_step (below_y HB.out) hb); have n1_ := mkA (hbox); have n2_ := mkA ((gz hg HB.out : w.heap.size ≤ gb124)); have n3_ := mkA ((gz hg HB.out : w.heap.size ≤ gb124)); clear HB; have HB := n0_; have BK124 := n1_; have GW124 := n2_; have GE124 := n3_; clear n0_ n1_ n2_ n3_; clear hb hbox hg; have hcz7_0 := bc BK124.out 0 (.int .i64 a1_0) rfl; have hcz7_1 := bc BK124.out 1 (.string a1_1) rfl; have hcz7_2 := bc BK124.out 2 (.string a1_2) rfl; have hcz7_3 := bc BK124.out 3 (.int .i64 a1_3) rfl; have hfz7_0 := blk_frozen BK124.out 0; have hfz7_1 := blk_frozen BK124.out 1; have hfz7_2 := blk_frozen BK124.out 2; have hfz7_3 := blk_frozen BK124.out 3) | ((with_reducible refine gate_callee (f := 127) rfl ?_); refine goesL_ (some 12) rfl rfl Try.func127 (by kernel_rfl) rfl #[.slice A0 l0.length c0, .string a1_1] rfl ca ?_; (with_reducible refine (dir_place.calls _ _ l0 a1_1 t125 t126 _ ?side1 ?side2 A3.out).mono ?_); (case side1 => exact cz HR0.out HB.out); (case side2 => exact HC0.out); rintro e w8 ⟨rfl, hb⟩; refine ⟨_, rfl, ?_⟩; have n0_ := mkA (blk_below (blk_y BK124.out) hb); have n1_ := mkA (below_step (below_y HB.out) hb); clear BK124; clear HB; have BK124 := n0_; have HB := n1_; clear n0_ n1_; (try clear hb); (try clear hb2); (try clear hk); (try clear hi); have hcz9_0 := bc BK124.out 0 (.int .i64 a1_0) rfl; have hcz9_1 := bc BK124.out 1 (.string a1_1) rfl; have hcz9_2 := bc BK124.out 2 (.string a1_2) rfl; have hcz9_3 := bc BK124.out 3 (.int .i64 a1_3) rfl; have hfz9_0 := blk_frozen BK124.out 0; have hfz9_1 := blk_frozen BK124.out 1; have hfz9_2 := blk_frozen BK124.out 2; have hfz9_3 := blk_frozen BK124.out 3) | ((with_reducible refine gate_callee (f := 128) rfl ?_); refine goesL_ (some 21) rfl rfl Try.func128 (by kernel_rfl) rfl #[.slice A0 l0.length c0, .agg #[.int .i64 a1_0, .string a1_1, .string a1_2, .int .i64 a1_3]] rfl ca ?_; (with_reducible refine (dir_link.calls k _ _ l0 a1_0 a1_1 a1_2 a1_3 t127 t130 _ ?side1 ?side2 A5.out).mono ?_); (case side1 => exact cz HR0.out HB.out); (case side2 => exact HC0.out); rintro e w10 ⟨v128, rfl, ho0, hb⟩; refine ⟨_, rfl, ?_⟩; have n0_ := mkA (Kd.R_lower ho0 (below_size (below_y HB.out))); have n1_ := mkA (blk_below (blk_y BK124.out) hb); have n2_ := mkA (below_step (below_y HB.out) hb); clear BK124; clear HB; have HO129 := n0_; have BK124 := n1_; have HB := n2_; clear n0_ n1_ n2_; (try clear hb); (try clear hb2); (try clear hk); (try clear hi); (try clear ho0)))
   go_ret2
   exact ⟨_, by first | rfl | (simp [errW_none, errW_some] <;> rfl) | (simp [*, errW_none, errW_some] <;> rfl), by (with_reducible repeat (first | apply Kd.R_alloc | apply Kd.R_drewN | apply Kd.R_drew)); exact HO129.out, by repeat (first | (with_reducible first | exact HB.out | apply below_alloc | apply pw_below_drewN | apply below_drew1 | refine below_set ?_ GE124.out) | exact HB.out)⟩
 ·rw [if_neg c4] at H
  have c4b0 : (a1_0 == 1) = false := beq_eq_false_iff_ne.mpr c4
  have c4b1 : (a1_0 != 1) = true := bne_iff_ne.mpr c4
  by_cases c11 : a1_0 = 2
  ·rw [if_pos c11] at H
   have c11b0 : (a1_0 == 2) = true := beq_iff_eq.mpr c11
   have c11b1 : (a1_0 != 2) = false := bne_eq_false_iff_eq.mpr c11
   clear c11
   by_cases c12 : t126 = true
   ·subst c12
    have H1 : ((dir_Name.f k a1_2).bind fun t131 => (if t131 = true then (dir_done.j0 k l0 t125 (a1_2.toList == a1_1.toList) a1_0 a1_1 a1_2 a1_3) else (dir_done.j0 k l0 t125 true a1_0 a1_1 a1_2 a1_3))) = some (r1, r2) := by rw [if_pos rfl] at H; exact H
    clear H
    have H := H1
    clear H1
    have HC13 := mkA H
    clear H
    go_enter Try.func90, Try.ntmps90
    go_upto_region 8 with (first | ((with_reducible refine gate_load (t := 69) rfl ?_); refine load_row3 (t := 69) (g := gb124) ?hg BK124.out ?ho ?hb Try.underlying69 rfl ?hs ?_; (case hg => rfl); (case ho => refine ⟨_, rfl, ?_⟩; first | (with_reducible rfl) | (go_simp; done)); (case hb => (with_reducible repeat (first | refine blk_drewN ?_ _ | refine blk_drew ?_ | refine blk_alloc ?_ _)); with_reducible exact BK124.out); (case hs => kernel_rfl)) | ((with_reducible refine gate_dst (N := 3) rfl ?_); refine box_event ?hg (N := 3) ?hd (cs := #[.int .i64 a1_0, .string a1_1, .string a1_2, .int .i64 a1_3]) (t := 69) ?hr ?_; (case hd => rfl); (case hg => rfl); (case hr => first | (go_simp; done) | (go_simp; rfl)); intro gb124 hg w14 hbox hb; have n0_ := mkA (below_step (below_y HB.out) hb); have n1_ := mkA (hbox); have n2_ := mkA ((gz hg HB.out : w.heap.size ≤ gb124)); have n3_ := mkA ((gz hg HB.out : w.heap.size ≤ gb124)); clear HB; have HB := n0_; have BK124 := n1_; have GW124 := n2_; have GE124 := n3_; clear n0_ n1_ n2_ n3_; clear hb hbox hg; have hcz15_0 := bc BK124.out 0 (.int .i64 a1_0) rfl; have hcz15_1 := bc BK124.out 1 (.string a1_1) rfl; have hcz15_2 := bc BK124.out 2 (.string a1_2) rfl; have hcz15_3 := bc BK124.out 3 (.int .i64 a1_3) rfl; have hfz15_0 := blk_frozen BK124.out 0; have hfz15_1 := blk_frozen BK124.out 1; have hfz15_2 := blk_frozen BK124.out 2; have hfz15_3 := blk_frozen BK124.out 3) | ((with_reducible refine gate_callee (f := 127) rfl ?_); refine goesL_ (some 12) rfl rfl Try.func127 (by kernel_rfl) rfl #[.slice A0 l0.length c0, .string a1_1] rfl ca ?_; (with_reducible refine (dir_place.calls _ _ l0 a1_1 t125 true _ ?side1 ?side2 A3.out).mono ?_); (case side1 => exact cz HR0.out HB.out); (case side2 => exact HC0.out); rintro e w16 ⟨rfl, hb⟩; refine ⟨_, rfl, ?_⟩; have n0_ := mkA (blk_below (blk_y BK124.out) hb); have n1_ := mkA (below_step (below_y HB.out) hb); clear BK124; clear HB; have BK124 := n0_; have HB := n1_; clear n0_ n1_; (try clear hb); (try clear hb2); (try clear hk); (try clear hi); have hcz17_0 := bc BK124.out 0 (.int .i64 a1_0) rfl; have hcz17_1 := bc BK124.out 1 (.string a1_1) rfl; have hcz17_2 := bc BK124.out 2 (.string a1_2) rfl; have hcz17_3 := bc BK124.out 3 (.int .i64 a1_3) rfl; have hfz17_0 := blk_frozen BK124.out 0; have hfz17_1 := blk_frozen BK124.out 1; have hfz17_2 := blk_frozen BK124.out 2; have hfz17_3 := blk_frozen BK124.out 3))
    (try simp only [Act.put, sA, s0, sS])
    go_cut [38] (fun v38 wc => ∃ (kq : Nat) (x38_12 : Bool), v38 = .bool x38_12 ∧ Aside0 (dir_done.j0 kq l0 t125 x38_12 a1_0 a1_1 a1_2 a1_3 = some (r1, r2)) ∧ Aside0 (kq ≤ k) ∧ Aside0 (wc.heap[gb124]? = some (.cells #[.int .i64 a1_0, .string a1_1, .string a1_2, .int .i64 a1_3] 69 (0, 0))) ∧ Aside0 (Below w.heap.size w wc))
    case first =>
     have H := HC13.out
     clear HC13
     replace H := Option.bind_eq_some_iff.mp H
     obtain ⟨t131, A180, H⟩ := H
     replace H : (if t131 = true then (dir_done.j0 k l0 t125 (a1_2.toList == a1_1.toList) a1_0 a1_1 a1_2 a1_3) else (dir_done.j0 k l0 t125 true a1_0 a1_1 a1_2 a1_3)) = some (r1, r2) := H
     have A18 := mkA A180
     clear A180
     by_cases c19 : t131 = true
     ·subst c19
      have H1 : (dir_done.j0 k l0 t125 (a1_2.toList == a1_1.toList) a1_0 a1_1 a1_2 a1_3) = some (r1, r2) := by rw [if_pos rfl] at H; exact H
      clear H
      have H := H1
      clear H1
      as_aux_lemma =>
       have H' := mkA H
       clear H
       have hcz20_0 := bc BK124.out 0 (.int .i64 a1_0) rfl
       have hcz20_1 := bc BK124.out 1 (.string a1_1) rfl
       have hcz20_2 := bc BK124.out 2 (.string a1_2) rfl
       have hcz20_3 := bc BK124.out 3 (.int .i64 a1_3) rfl
       have hfz20_0 := blk_frozen BK124.out 0
       have hfz20_1 := blk_frozen BK124.out 1
       have hfz20_2 := blk_frozen BK124.out 2
       have hfz20_3 := blk_frozen BK124.out 3
       go_wp2_with (first | ((with_reducible refine gate_load (t := 69) rfl ?_); refine load_row3 (t := 69) (g := gb124) ?hg BK124.out ?ho ?hb Try.underlying69 rfl ?hs ?_; (case hg => rfl); (case ho => refine ⟨_, rfl, ?_⟩; first | (with_reducible rfl) | (go_simp; done)); (case hb => (with_reducible repeat (first | refine blk_drewN ?_ _ | refine blk_drew ?_ | refine blk_alloc ?_ _)); with_reducible exact BK124.out); (case hs => kernel_rfl)) | ((with_reducible refine gate_callee (f := 46) rfl ?_); refine goesL_ (some 30) rfl rfl Try.func46 (by kernel_rfl) rfl #[.string a1_2] rfl ca ?_; (with_reducible refine (dir_Name.calls k a1_2 true _ A18.out).mono ?_); rintro e w' ⟨rfl, ⟨nd, rfl⟩⟩; refine ⟨_, rfl, ?_⟩))
       go_meet
       case rel => exact ⟨_, ((a1_2.toList == a1_1.toList)), (by first | rfl | (simp; done) | (simp [*]; done)), H', ⟨by first | omega | exact Nat.le_refl _⟩, ⟨by (with_reducible repeat (first | refine blk_drewN ?_ _ | refine blk_drew ?_ | refine blk_alloc ?_ _)); exact BK124.out⟩, ⟨by repeat (first | (with_reducible first | exact HB.out | apply below_alloc | apply pw_below_drewN | apply below_drew1 | refine below_set ?_ GE124.out) | exact HB.out)⟩⟩
     ·replace c19 := Bool.eq_false_iff.mpr c19
      subst c19
      have H1 : (dir_done.j0 k l0 t125 true a1_0 a1_1 a1_2 a1_3) = some (r1, r2) := by rw [if_neg (show ¬ (false = true) by decide)] at H; exact H
      clear H
      have H := H1
      clear H1
      as_aux_lemma =>
       have H' := mkA H
       clear H
       have hcz21_0 := bc BK124.out 0 (.int .i64 a1_0) rfl
       have hcz21_1 := bc BK124.out 1 (.string a1_1) rfl
       have hcz21_2 := bc BK124.out 2 (.string a1_2) rfl
       have hcz21_3 := bc BK124.out 3 (.int .i64 a1_3) rfl
       have hfz21_0 := blk_frozen BK124.out 0
       have hfz21_1 := blk_frozen BK124.out 1
       have hfz21_2 := blk_frozen BK124.out 2
       have hfz21_3 := blk_frozen BK124.out 3
       go_wp2_with (first | ((with_reducible refine gate_load (t := 69) rfl ?_); refine load_row3 (t := 69) (g := gb124) ?hg BK124.out ?ho ?hb Try.underlying69 rfl ?hs ?_; (case hg => rfl); (case ho => refine ⟨_, rfl, ?_⟩; first | (with_reducible rfl) | (go_simp; done)); (case hb => (with_reducible repeat (first | refine blk_drewN ?_ _ | refine blk_drew ?_ | refine blk_alloc ?_ _)); with_reducible exact BK124.out); (case hs => kernel_rfl)) | ((with_reducible refine gate_callee (f := 46) rfl ?_); refine goesL_ (some 30) rfl rfl Try.func46 (by kernel_rfl) rfl #[.string a1_2] rfl ca ?_; (with_reducible refine (dir_Name.calls k a1_2 false _ A18.out).mono ?_); rintro e w' ⟨rfl, ⟨nd, rfl⟩⟩; refine ⟨_, rfl, ?_⟩))
       go_meet
       case rel => exact ⟨_, (true), (by first | rfl | (simp; done) | (simp [*]; done)), H', ⟨by first | omega | exact Nat.le_refl _⟩, ⟨by (with_reducible repeat (first | refine blk_drewN ?_ _ | refine blk_drew ?_ | refine blk_alloc ?_ _)); exact BK124.out⟩, ⟨by repeat (first | (with_reducible first | exact HB.out | apply below_alloc | apply pw_below_drewN | apply below_drew1 | refine below_set ?_ GE124.out) | exact HB.out)⟩⟩
    case rest =>
     clear HC13
     try clear c1
     try clear p2
     try clear c4
     try clear c4b0
     try clear c4b1
     try clear c9
     try clear c11
     try clear c11b0
     try clear c11b1
     try clear c12
     try clear c19
     try clear hcz15_0
     try clear hcz15_1
     try clear hcz15_2
     try clear hcz15_3
     try clear hcz17_0
     try clear hcz17_1
     try clear hcz17_2
     try clear hcz17_3
     try clear hcz20_0
     try clear hcz20_1
     try clear hcz20_2
     try clear hcz20_3
     try clear hcz21_0
     try clear hcz21_1
     try clear hcz21_2
     try clear hcz21_3
     try clear hcz7_0
     try clear hcz7_1
     try clear hcz7_2
     try clear hcz7_3
     try clear hcz9_0
     try clear hcz9_1
     try clear hcz9_2
     try clear hcz9_3
     try clear hfz15_0
     try clear hfz15_1
     try clear hfz15_2
     try clear hfz15_3
     try clear hfz17_0
     try clear hfz17_1
     try clear hfz17_2
     try clear hfz17_3
     try clear hfz20_0
     try clear hfz20_1
     try clear hfz20_2
     try clear hfz20_3
     try clear hfz21_0
     try clear hfz21_1
     try clear hfz21_2
     try clear hfz21_3
     try clear hfz7_0
     try clear hfz7_1
     try clear hfz7_2
     try clear hfz7_3
     try clear hfz9_0
     try clear hfz9_1
     try clear hfz9_2
     try clear hfz9_3
     obtain ⟨kq, x38_12, rfl, HA, HJ12, BK124, HB⟩ := hcut
     cases kq with
     | zero => exact absurd HA.out (by simp [dir_done.j0])
     | succ kj12 =>
      have H := HA.out
      clear HA
      simp only [dir_done.j0] at H
      by_cases c22 : x38_12 = true
      ·subst c22
       have H1 : (some (([] : List (S77)), 1)) = some (r1, r2) := by rw [if_pos rfl] at H; exact H
       clear H
       have H := H1
       clear H1
       as_aux_lemma =>
        simp only [Option.some.injEq, Prod.mk.injEq] at H
        obtain ⟨rfl, rfl⟩ := H
        go_wp2_with (first | ((with_reducible refine gate_load (t := 69) rfl ?_); refine load_row3 (t := 69) (g := gb124) ?hg BK124.out ?ho ?hb Try.underlying69 rfl ?hs ?_; (case hg => rfl); (case ho => refine ⟨_, rfl, ?_⟩; first | (with_reducible rfl) | (go_simp; done)); (case hb => (with_reducible repeat (first | refine blk_drewN ?_ _ | refine blk_drew ?_ | refine blk_alloc ?_ _)); with_reducible exact BK124.out); (case hs => kernel_rfl)))
        go_ret2
        exact ⟨_, by first | rfl | (simp [errW_none, errW_some] <;> rfl) | (simp [*, errW_none, errW_some] <;> rfl), by first | exact Kd.R_nil _ _ _ _ _ | exact Kd.N_nil _ _ _ _ _ | exact Kd.V_nil _ _ _ _ _ | exact Kd.Q_nil _ _ _ _ _ | exact Kd.S_nil _ _ _ _ _, by repeat (first | (with_reducible first | exact HB.out | apply below_alloc | apply pw_below_drewN | apply below_drew1 | refine below_set ?_ GE124.out) | exact HB.out)⟩
      ·replace c22 := Bool.eq_false_iff.mpr c22
       subst c22
       have H1 : ((dir_without.f l0 t125).bind fun t132 => (if 0 ≤ t125 then (if t125 < (l0.length : Int) then ((dir_with.f t132 a1_2 ((rd_T77 l0 t125).f1)).bind fun t136 => (some (t136, 0))) else (none)) else (none))) = some (r1, r2) := by rw [if_neg (show ¬ (false = true) by decide)] at H; exact H
       clear H
       have H := H1
       clear H1
       replace H := Option.bind_eq_some_iff.mp H
       obtain ⟨t132, A230, H⟩ := H
       replace H : (if 0 ≤ t125 then (if t125 < (l0.length : Int) then ((dir_with.f t132 a1_2 ((rd_T77 l0 t125).f1)).bind fun t136 => (some (t136, 0))) else (none)) else (none)) = some (r1, r2) := H
       have A23 := mkA A230
       clear A230
       by_cases c24 : 0 ≤ t125
       ·rw [if_pos c24] at H
        have c24b0 : decide (0 ≤ t125) = true := decide_eq_true c24
        clear c24
        by_cases c25 : t125 < (l0.length : Int)
        ·rw [if_pos c25] at H
         have c25b0 : decide (t125 < (l0.length : Int)) = true := decide_eq_true c25
         clear c25
         replace H := Option.bind_eq_some_iff.mp H
         obtain ⟨t136, A260, H⟩ := H
         replace H : (some (t136, 0)) = some (r1, r2) := H
         have A26 := mkA A260
         clear A260
         as_aux_lemma =>
          simp only [Option.some.injEq, Prod.mk.injEq] at H
          obtain ⟨rfl, rfl⟩ := H
          try go_wp2_with (first | ((with_reducible refine gate_load (t := 69) rfl ?_); refine load_row3 (t := 69) (g := gb124) ?hg BK124.out ?ho ?hb Try.underlying69 rfl ?hs ?_; (case hg => rfl); (case ho => refine ⟨_, rfl, ?_⟩; first | (with_reducible rfl) | (go_simp; done)); (case hb => (with_reducible repeat (first | refine blk_drewN ?_ _ | refine blk_drew ?_ | refine blk_alloc ?_ _)); with_reducible exact BK124.out); (case hs => kernel_rfl)))
          have n0_ := mkA (blk_drew BK124.out)
          try (have HBd_ := mkA (below_drew1 (pw_below_drewN HB.out nd)))
          have n1_ := mkA (below_drew1 HB.out)
          clear BK124 HB
          have BK124 := n0_
          have HB := n1_
          clear n0_ n1_
          have p135 : 0 ≤ (t125 : Int) := odt
          have q135 : t125 < (l0.length : Int) := odt
          obtain ⟨ad135, e135, hx135_0, hx135_1⟩ := at_T77 HR0.out t125 p135 q135
          have hw135_1 := hx135_1
          have hw135_0 := hx135_0
          cases e135
          replace hx135_0 := (cb HB.out hx135_0).trans hx135_0
          replace hx135_1 := (cb HB.out hx135_1).trans hx135_1
          replace p135 := eq_true p135
          replace q135 := eq_true q135
          refine start_ (n := 14) (S := fun w' => w'.cell? ⟨gb124, 0, none⟩ = some (.int .i64 a1_0) ∧ w'.cell? ⟨gb124, 1, none⟩ = some (.string a1_1) ∧ w'.cell? ⟨gb124, 2, none⟩ = some (.string a1_2) ∧ w'.cell? ⟨gb124, 3, none⟩ = some (.int .i64 a1_3) ∧ w'.cell? (ad135.add ((t125).toNat * 2)) = some (.string ((rd_T77 l0 t125).f0)) ∧ w'.cell? ⟨(ad135.add ((t125).toNat * 2)).block, (ad135.add ((t125).toNat * 2)).off + 1, none⟩ = some (.int .i64 ((rd_T77 l0 t125).f1))) (ds := []) #[false, false, false, false, false, false, false, false, false, false, false, false, false, false] (by kernel_rfl) rfl rfl ⟨(blk_cell BK124.out 0).trans rfl, (blk_cell BK124.out 1).trans rfl, (blk_cell BK124.out 2).trans rfl, (blk_cell BK124.out 3).trans rfl, ((cb HB.out hw135_0).trans hw135_0), ((cb HB.out hw135_1).trans hw135_1)⟩ (fun hHeld => ?_); refine with_tabW dir_done.tab10 dir_done.bits10 (fun HT_ HW_ => ?_)
          generalize wc.drew = w27 at BK124 HB hx135_0 hx135_1 hHeld ⊢
          refine pure_ (i := 0) (N := some 39) (v := ?_) (a' := ?_) #[true, false, false, false, false, false, false, false, false, false, false, false, false, false] rfl rfl (any_of HT_.out (by kernel_rfl)) (fun _ _ _ h => h) (Or.inl ⟨by rfl, ?_⟩) ?_ ?_
          rotate_left
          ·intro w'
           go_simp
           with_reducible rfl
          rotate_left
          ·simp only [Act.put, sA, s0, sS, i64_w, i32_w]
           rfl
          refine pure_ (i := 1) (N := some 40) (v := ?_) (a' := ?_) #[true, true, false, false, false, false, false, false, false, false, false, false, false, false] rfl rfl (any_of HT_.out (by kernel_rfl)) (fun _ _ _ h => h) (Or.inl ⟨by rfl, ?_⟩) ?_ ?_
          rotate_left
          ·intro w'
           go_simp
           with_reducible rfl
          rotate_left
          ·simp only [Act.put, sA, s0, sS, i64_w, i32_w]
           rfl
          refine pure_ (i := 3) (N := some 42) (v := ?_) (a' := ?_) #[true, true, false, true, false, false, false, false, false, false, false, false, false, false] rfl rfl (any_of HT_.out (by kernel_rfl)) (fun _ _ _ h => h) (Or.inl ⟨by rfl, ?_⟩) ?_ ?_
          rotate_left
          ·intro w'
           go_simp
           with_reducible rfl
          rotate_left
          ·simp only [Act.put, sA, s0, sS, i64_w, i32_w]
           rfl
          refine pure_ (i := 5) (N := some 44) (v := ?_) (a' := ?_) #[true, true, false, true, false, true, false, false, false, false, false, false, false, false] rfl rfl (any_of HT_.out (by kernel_rfl)) (fun _ _ _ h => h) (Or.inl ⟨by rfl, ?_⟩) ?_ ?_
          rotate_left
          ·intro w'
           go_simp
           with_reducible rfl
          rotate_left
          ·simp only [Act.put, sA, s0, sS, i64_w, i32_w]
           rfl
          refine pure_ (i := 6) (N := some 45) (v := ?_) (a' := ?_) #[true, true, false, true, false, true, true, false, false, false, false, false, false, false] rfl rfl (any_of HT_.out (by kernel_rfl)) (fun _ _ _ h => h) (Or.inl ⟨by rfl, ?_⟩) ?_ ?_
          rotate_left
          ·intro w'
           go_simp
           with_reducible rfl
          rotate_left
          ·simp only [Act.put, sA, s0, sS, i64_w, i32_w]
           rfl
          refine pure_ (i := 7) (N := some 46) (v := ?_) (a' := ?_) #[true, true, false, true, false, true, true, true, false, false, false, false, false, false] rfl rfl (any_of HT_.out (by kernel_rfl)) (fun _ _ _ h => h) (Or.inl ⟨by rfl, ?_⟩) ?_ ?_
          rotate_left
          ·intro w'
           go_simp
           with_reducible rfl
          rotate_left
          ·simp only [Act.put, sA, s0, sS, i64_w, i32_w]
           rfl
          refine pure_ (i := 8) (N := some 47) (v := ?_) (a' := ?_) #[true, true, false, true, false, true, true, true, true, false, false, false, false, false] rfl rfl (any_of HT_.out (by kernel_rfl)) (fun _ _ _ h => h) (Or.inl ⟨by rfl, ?_⟩) ?_ ?_
          rotate_left
          ·intro w'
           go_simp
           with_reducible rfl
          rotate_left
          ·simp only [Act.put, sA, s0, sS, i64_w, i32_w]
           rfl
          refine take_ (i := 4) (N := some 43) (v := ?_) (a' := ?_) #[true, true, false, true, true, true, true, true, true, false, false, false, false, false] rfl rfl (take_ofW HT_.out HW_.out (by kernel_rfl)) (fun _ _ _ h => h) (Or.inl ⟨by rfl, ?_⟩) hHeld ?_ ?_
          rotate_left
          ·rintro w' ⟨s0, s1, s2, s3, s4, s5⟩
           go_simp
           with_reducible rfl
          rotate_left
          ·simp only [Act.put, sA, s0, sS, i64_w, i32_w]
           rfl
          refine take_ (i := 9) (N := some 48) (v := ?_) (a' := ?_) #[true, true, false, true, true, true, true, true, true, true, false, false, false, false] rfl rfl (take_ofW HT_.out HW_.out (by kernel_rfl)) (fun _ _ _ h => h) (Or.inl ⟨by rfl, ?_⟩) hHeld ?_ ?_
          rotate_left
          ·rintro w' ⟨s0, s1, s2, s3, s4, s5⟩
           go_simp
           with_reducible rfl
          rotate_left
          ·simp only [Act.put, sA, s0, sS, i64_w, i32_w]
           rfl
          refine pure_ (i := 10) (N := some 49) (v := ?_) (a' := ?_) #[true, true, false, true, true, true, true, true, true, true, true, false, false, false] rfl rfl (any_of HT_.out (by kernel_rfl)) (fun _ _ _ h => h) (Or.inl ⟨by rfl, ?_⟩) ?_ ?_
          rotate_left
          ·intro w'
           go_simp
           with_reducible rfl
          rotate_left
          ·simp only [Act.put, sA, s0, sS, i64_w, i32_w]
           rfl
          refine one_ (i := 2) (N := some 41) #[true, true, true, true, true, true, true, true, true, true, true, false, false, false] rfl rfl (one_of HT_.out (by kernel_rfl)) (by decide) (fun K hK => ?_)
          refine goes_ Try.func130 (by kernel_rfl) rfl #[.slice (some ad135) l0.length c0, .int .i64 t125] (by rfl) rfl rfl ca ?_
          with_reducible refine (dir_without.calls _ _ l0 t125 t132 _ ?side1 ?side2 A23.out).mono ?_
          (case side1 => exact cz HR0.out HB.out)
          (case side2 => exact HC0.out)
          rintro e w28 ⟨v133, rfl, ho0, hb⟩
          refine ⟨_, rfl, ?_⟩
          have n0_ := mkA (Kd.R_lower ho0 (below_size (below_y HB.out)))
          have n1_ := mkA (blk_below (blk_y BK124.out) hb)
          have n2_ := mkA (below_step (below_y HB.out) hb)
          clear BK124 HB
          have HO134 := n0_
          have BK124 := n1_
          have HB := n2_
          clear n0_ n1_ n2_
          (try clear hb)
          (try clear hb2)
          (try clear hk)
          (try clear hi)
          (try clear ho0)
          obtain ⟨Ao29, co29, eo29⟩ := Kd.R_slice HO134.out
          (first | subst eo29 | (injection eo29 with f1_ f2_ f3_; have f4_ := f1_.symm; have f5_ := f3_.symm; clear f1_ f2_ f3_; subst f4_; subst f5_))
          refine hK.out _ _ ⟨(blk_cell BK124.out 0).trans rfl, (blk_cell BK124.out 1).trans rfl, (blk_cell BK124.out 2).trans rfl, (blk_cell BK124.out 3).trans rfl, ((cb HB.out hw135_0).trans hw135_0), ((cb HB.out hw135_1).trans hw135_1)⟩ (fun hHeld => ?_)
          clear hK K
          refine norm_ (a' := ?_) ?_ ?_
          rotate_left
          ·show Act.put _ (some 41) _ = _
           simp only [Act.put, sA, s0, sS, i64_w, i32_w]
           rfl
          refine one_ (i := 11) (N := some 50) #[true, true, true, true, true, true, true, true, true, true, true, true, false, false] rfl rfl (one_of HT_.out (by kernel_rfl)) (by decide) (fun K hK => ?_)
          refine goes_ Try.func129 (by kernel_rfl) rfl #[.slice Ao29 t132.length co29, .agg #[.string a1_2, .int .i64 ((rd_T77 l0 t125).f1)]] (by rfl) rfl rfl ca ?_
          with_reducible refine (dir_with.calls _ _ t132 a1_2 ((rd_T77 l0 t125).f1) t136 _ ?side1 ?side2 A26.out).mono ?_
          (case side1 => exact Kd.C_y (Kd.R_reads' HO134.out).2.2)
          (case side2 => exact (Kd.R_reads' HO134.out).2.1)
          rintro e w30 ⟨v137, rfl, ho0, hb⟩
          refine ⟨_, rfl, ?_⟩
          have n0_ := mkA (Kd.R_elder' (Kd.R_y HO134.out) (Kd.R_base ho0) hb)
          have n1_ := mkA (Kd.R_lower (Kd.R_new' ho0 (Kd.R_lt (Kd.R_y HO134.out))) (below_size (below_y HB.out)))
          have n2_ := mkA (blk_below (blk_y BK124.out) hb)
          have n3_ := mkA (below_step (below_y HB.out) hb)
          clear HO134 BK124 HB
          have HO134 := n0_
          have HO138 := n1_
          have BK124 := n2_
          have HB := n3_
          clear n0_ n1_ n2_ n3_
          (try clear hb)
          (try clear hb2)
          (try clear hk)
          (try clear hi)
          (try clear ho0)
          refine hK.out _ _ ⟨(blk_cell BK124.out 0).trans rfl, (blk_cell BK124.out 1).trans rfl, (blk_cell BK124.out 2).trans rfl, (blk_cell BK124.out 3).trans rfl, ((cb HB.out hw135_0).trans hw135_0), ((cb HB.out hw135_1).trans hw135_1)⟩ (fun hHeld => ?_)
          clear hK K
          refine norm_ (a' := ?_) ?_ ?_
          rotate_left
          ·show Act.put _ (some 50) _ = _
           simp only [Act.put, sA, s0, sS, i64_w, i32_w]
           rfl
          refine pure_ (i := 12) (N := some 4) (v := ?_) (a' := ?_) #[true, true, true, true, true, true, true, true, true, true, true, true, true, false] rfl rfl (any_of HT_.out (by kernel_rfl)) (fun _ _ _ h => h) (Or.inl ⟨by rfl, ?_⟩) ?_ ?_
          rotate_left
          ·intro w'
           go_simp
           with_reducible rfl
          rotate_left
          ·simp only [Act.put, sA, s0, sS, i64_w, i32_w]
           rfl
          refine pure_ (i := 13) (N := some 5) (v := ?_) (a' := ?_) #[true, true, true, true, true, true, true, true, true, true, true, true, true, true] rfl rfl (any_of HT_.out (by kernel_rfl)) (fun _ _ _ h => h) (Or.inl ⟨by rfl, ?_⟩) ?_ ?_
          rotate_left
          ·intro w'
           go_simp
           with_reducible rfl
          rotate_left
          ·simp only [Act.put, sA, s0, sS, i64_w, i32_w]
           rfl
          refine done_ (done_of HT_.out (by kernel_rfl)) ?_
          try go_wp2_with (first | ((with_reducible refine gate_load (t := 69) rfl ?_); refine load_row3 (t := 69) (g := gb124) ?hg BK124.out ?ho ?hb Try.underlying69 rfl ?hs ?_; (case hg => rfl); (case ho => refine ⟨_, rfl, ?_⟩; first | (with_reducible rfl) | (go_simp; done)); (case hb => (with_reducible repeat (first | refine blk_drewN ?_ _ | refine blk_drew ?_ | refine blk_alloc ?_ _)); with_reducible exact BK124.out); (case hs => kernel_rfl)))
          go_ret2
          exact ⟨_, by first | rfl | (simp [errW_none, errW_some] <;> rfl) | (simp [*, errW_none, errW_some] <;> rfl), by (with_reducible repeat (first | apply Kd.R_alloc | apply Kd.R_drewN | apply Kd.R_drew)); exact Kd.R_mono HO138.out (fun _ hk => trivial), by repeat (first | (with_reducible first | exact HB.out | apply below_alloc | apply pw_below_drewN | apply below_drew1 | refine below_set ?_ GE124.out) | exact HB.out)⟩
        ·rw [if_neg c25] at H
         exact absurd H (by simp)
       ·rw [if_neg c24] at H
        exact absurd H (by simp)
   ·replace c12 := Bool.eq_false_iff.mpr c12
    subst c12
    have H1 : (some (([] : List (S77)), 5)) = some (r1, r2) := by rw [if_neg (show ¬ (false = true) by decide)] at H; exact H
    clear H
    have H := H1
    clear H1
    as_aux_lemma =>
     simp only [Option.some.injEq, Prod.mk.injEq] at H
     obtain ⟨rfl, rfl⟩ := H
     go_enter Try.func90, Try.ntmps90
     go_wp2_with (first | ((with_reducible refine gate_load (t := 69) rfl ?_); refine load_row3 (t := 69) (g := gb124) ?hg BK124.out ?ho ?hb Try.underlying69 rfl ?hs ?_; (case hg => rfl); (case ho => refine ⟨_, rfl, ?_⟩; first | (with_reducible rfl) | (go_simp; done)); (case hb => (with_reducible repeat (first | refine blk_drewN ?_ _ | refine blk_drew ?_ | refine blk_alloc ?_ _)); with_reducible exact BK124.out); (case hs => kernel_rfl)) | ((with_reducible refine gate_dst (N := 3) rfl ?_); refine box_event ?hg (N := 3) ?hd (cs := #[.int .i64 a1_0, .string a1_1, .string a1_2, .int .i64 a1_3]) (t := 69) ?hr ?_; (case hd => rfl); (case hg => rfl); (case hr => first | (go_simp; done) | (go_simp; rfl)); intro gb124 hg w31 hbox hb; have n0_ := mkA (below_step (below_y HB.out) hb); have n1_ := mkA (hbox); have n2_ := mkA ((gz hg HB.out : w.heap.size ≤ gb124)); have n3_ := mkA ((gz hg HB.out : w.heap.size ≤ gb124)); clear HB; have HB := n0_; have BK124 := n1_; have GW124 := n2_; have GE124 := n3_; clear n0_ n1_ n2_ n3_; clear hb hbox hg; have hcz32_0 := bc BK124.out 0 (.int .i64 a1_0) rfl; have hcz32_1 := bc BK124.out 1 (.string a1_1) rfl; have hcz32_2 := bc BK124.out 2 (.string a1_2) rfl; have hcz32_3 := bc BK124.out 3 (.int .i64 a1_3) rfl; have hfz32_0 := blk_frozen BK124.out 0; have hfz32_1 := blk_frozen BK124.out 1; have hfz32_2 := blk_frozen BK124.out 2; have hfz32_3 := blk_frozen BK124.out 3) | ((with_reducible refine gate_callee (f := 127) rfl ?_); refine goesL_ (some 12) rfl rfl Try.func127 (by kernel_rfl) rfl #[.slice A0 l0.length c0, .string a1_1] rfl ca ?_; (with_reducible refine (dir_place.calls _ _ l0 a1_1 t125 false _ ?side1 ?side2 A3.out).mono ?_); (case side1 => exact cz HR0.out HB.out); (case side2 => exact HC0.out); rintro e w33 ⟨rfl, hb⟩; refine ⟨_, rfl, ?_⟩; have n0_ := mkA (blk_below (blk_y BK124.out) hb); have n1_ := mkA (below_step (below_y HB.out) hb); clear BK124; clear HB; have BK124 := n0_; have HB := n1_; clear n0_ n1_; (try clear hb); (try clear hb2); (try clear hk); (try clear hi); have hcz34_0 := bc BK124.out 0 (.int .i64 a1_0) rfl; have hcz34_1 := bc BK124.out 1 (.string a1_1) rfl; have hcz34_2 := bc BK124.out 2 (.string a1_2) rfl; have hcz34_3 := bc BK124.out 3 (.int .i64 a1_3) rfl; have hfz34_0 := blk_frozen BK124.out 0; have hfz34_1 := blk_frozen BK124.out 1; have hfz34_2 := blk_frozen BK124.out 2; have hfz34_3 := blk_frozen BK124.out 3))
     go_ret2
     exact ⟨_, by first | rfl | (simp [errW_none, errW_some] <;> rfl) | (simp [*, errW_none, errW_some] <;> rfl), by first | exact Kd.R_nil _ _ _ _ _ | exact Kd.N_nil _ _ _ _ _ | exact Kd.V_nil _ _ _ _ _ | exact Kd.Q_nil _ _ _ _ _ | exact Kd.S_nil _ _ _ _ _, by repeat (first | (with_reducible first | exact HB.out | apply below_alloc | apply pw_below_drewN | apply below_drew1 | refine below_set ?_ GE124.out) | exact HB.out)⟩
  ·rw [if_neg c11] at H
   have c11b0 : (a1_0 == 2) = false := beq_eq_false_iff_ne.mpr c11
   have c11b1 : (a1_0 != 2) = true := bne_iff_ne.mpr c11
   by_cases c35 : a1_0 = 3
   ·rw [if_pos c35] at H
    have c35b0 : (a1_0 == 3) = true := beq_iff_eq.mpr c35
    have c35b1 : (a1_0 != 3) = false := bne_eq_false_iff_eq.mpr c35
    clear c35
    by_cases c36 : t126 = true
    ·subst c36
     have H1 : ((dir_without.f l0 t125).bind fun t139 => (some (t139, 0))) = some (r1, r2) := by rw [if_pos rfl] at H; exact H
     clear H
     have H := H1
     clear H1
     replace H := Option.bind_eq_some_iff.mp H
     obtain ⟨t139, A370, H⟩ := H
     replace H : (some (t139, 0)) = some (r1, r2) := H
     have A37 := mkA A370
     clear A370
     as_aux_lemma =>
      simp only [Option.some.injEq, Prod.mk.injEq] at H
      obtain ⟨rfl, rfl⟩ := H
      go_enter Try.func90, Try.ntmps90
      go_wp2_with (first | ((with_reducible refine gate_load (t := 69) rfl ?_); refine load_row3 (t := 69) (g := gb124) ?hg BK124.out ?ho ?hb Try.underlying69 rfl ?hs ?_; (case hg => rfl); (case ho => refine ⟨_, rfl, ?_⟩; first | (with_reducible rfl) | (go_simp; done)); (case hb => (with_reducible repeat (first | refine blk_drewN ?_ _ | refine blk_drew ?_ | refine blk_alloc ?_ _)); with_reducible exact BK124.out); (case hs => kernel_rfl)) | ((with_reducible refine gate_dst (N := 3) rfl ?_); refine box_event ?hg (N := 3) ?hd (cs := #[.int .i64 a1_0, .string a1_1, .string a1_2, .int .i64 a1_3]) (t := 69) ?hr ?_; (case hd => rfl); (case hg => rfl); (case hr => first | (go_simp; done) | (go_simp; rfl)); intro gb124 hg w38 hbox hb; have n0_ := mkA (below_step (below_y HB.out) hb); have n1_ := mkA (hbox); have n2_ := mkA ((gz hg HB.out : w.heap.size ≤ gb124)); have n3_ := mkA ((gz hg HB.out : w.heap.size ≤ gb124)); clear HB; have HB := n0_; have BK124 := n1_; have GW124 := n2_; have GE124 := n3_; clear n0_ n1_ n2_ n3_; clear hb hbox hg; have hcz39_0 := bc BK124.out 0 (.int .i64 a1_0) rfl; have hcz39_1 := bc BK124.out 1 (.string a1_1) rfl; have hcz39_2 := bc BK124.out 2 (.string a1_2) rfl; have hcz39_3 := bc BK124.out 3 (.int .i64 a1_3) rfl; have hfz39_0 := blk_frozen BK124.out 0; have hfz39_1 := blk_frozen BK124.out 1; have hfz39_2 := blk_frozen BK124.out 2; have hfz39_3 := blk_frozen BK124.out 3) | ((with_reducible refine gate_callee (f := 127) rfl ?_); refine goesL_ (some 12) rfl rfl Try.func127 (by kernel_rfl) rfl #[.slice A0 l0.length c0, .string a1_1] rfl ca ?_; (with_reducible refine (dir_place.calls _ _ l0 a1_1 t125 true _ ?side1 ?side2 A3.out).mono ?_); (case side1 => exact cz HR0.out HB.out); (case side2 => exact HC0.out); rintro e w40 ⟨rfl, hb⟩; refine ⟨_, rfl, ?_⟩; have n0_ := mkA (blk_below (blk_y BK124.out) hb); have n1_ := mkA (below_step (below_y HB.out) hb); clear BK124; clear HB; have BK124 := n0_; have HB := n1_; clear n0_ n1_; (try clear hb); (try clear hb2); (try clear hk); (try clear hi); have hcz41_0 := bc BK124.out 0 (.int .i64 a1_0) rfl; have hcz41_1 := bc BK124.out 1 (.string a1_1) rfl; have hcz41_2 := bc BK124.out 2 (.string a1_2) rfl; have hcz41_3 := bc BK124.out 3 (.int .i64 a1_3) rfl; have hfz41_0 := blk_frozen BK124.out 0; have hfz41_1 := blk_frozen BK124.out 1; have hfz41_2 := blk_frozen BK124.out 2; have hfz41_3 := blk_frozen BK124.out 3) | ((with_reducible refine gate_callee (f := 130) rfl ?_); refine goesL_ (some 57) rfl rfl Try.func130 (by kernel_rfl) rfl #[.slice A0 l0.length c0, .int .i64 t125] rfl ca ?_; (with_reducible refine (dir_without.calls _ _ l0 t125 t139 _ ?side1 ?side2 A37.out).mono ?_); (case side1 => exact cz HR0.out HB.out); (case side2 => exact HC0.out); rintro e w42 ⟨v140, rfl, ho0, hb⟩; refine ⟨_, rfl, ?_⟩; have n0_ := mkA (Kd.R_lower ho0 (below_size (below_y HB.out))); have n1_ := mkA (blk_below (blk_y BK124.out) hb); have n2_ := mkA (below_step (below_y HB.out) hb); clear BK124; clear HB; have HO141 := n0_; have BK124 := n1_; have HB := n2_; clear n0_ n1_ n2_; (try clear hb); (try clear hb2); (try clear hk); (try clear hi); (try clear ho0)))
      go_ret2
      exact ⟨_, by first | rfl | (simp [errW_none, errW_some] <;> rfl) | (simp [*, errW_none, errW_some] <;> rfl), by (with_reducible repeat (first | apply Kd.R_alloc | apply Kd.R_drewN | apply Kd.R_drew)); exact HO141.out, by repeat (first | (with_reducible first | exact HB.out | apply below_alloc | apply pw_below_drewN | apply below_drew1 | refine below_set ?_ GE124.out) | exact HB.out)⟩
    ·replace c36 := Bool.eq_false_iff.mpr c36
     subst c36
     have H1 : (some (([] : List (S77)), 5)) = some (r1, r2) := by rw [if_neg (show ¬ (false = true) by decide)] at H; exact H
     clear H
     have H := H1
     clear H1
     as_aux_lemma =>
      simp only [Option.some.injEq, Prod.mk.injEq] at H
      obtain ⟨rfl, rfl⟩ := H
      go_enter Try.func90, Try.ntmps90
      go_wp2_with (first | ((with_reducible refine gate_load (t := 69) rfl ?_); refine load_row3 (t := 69) (g := gb124) ?hg BK124.out ?ho ?hb Try.underlying69 rfl ?hs ?_; (case hg => rfl); (case ho => refine ⟨_, rfl, ?_⟩; first | (with_reducible rfl) | (go_simp; done)); (case hb => (with_reducible repeat (first | refine blk_drewN ?_ _ | refine blk_drew ?_ | refine blk_alloc ?_ _)); with_reducible exact BK124.out); (case hs => kernel_rfl)) | ((with_reducible refine gate_dst (N := 3) rfl ?_); refine box_event ?hg (N := 3) ?hd (cs := #[.int .i64 a1_0, .string a1_1, .string a1_2, .int .i64 a1_3]) (t := 69) ?hr ?_; (case hd => rfl); (case hg => rfl); (case hr => first | (go_simp; done) | (go_simp; rfl)); intro gb124 hg w43 hbox hb; have n0_ := mkA (below_step (below_y HB.out) hb); have n1_ := mkA (hbox); have n2_ := mkA ((gz hg HB.out : w.heap.size ≤ gb124)); have n3_ := mkA ((gz hg HB.out : w.heap.size ≤ gb124)); clear HB; have HB := n0_; have BK124 := n1_; have GW124 := n2_; have GE124 := n3_; clear n0_ n1_ n2_ n3_; clear hb hbox hg; have hcz44_0 := bc BK124.out 0 (.int .i64 a1_0) rfl; have hcz44_1 := bc BK124.out 1 (.string a1_1) rfl; have hcz44_2 := bc BK124.out 2 (.string a1_2) rfl; have hcz44_3 := bc BK124.out 3 (.int .i64 a1_3) rfl; have hfz44_0 := blk_frozen BK124.out 0; have hfz44_1 := blk_frozen BK124.out 1; have hfz44_2 := blk_frozen BK124.out 2; have hfz44_3 := blk_frozen BK124.out 3) | ((with_reducible refine gate_callee (f := 127) rfl ?_); refine goesL_ (some 12) rfl rfl Try.func127 (by kernel_rfl) rfl #[.slice A0 l0.length c0, .string a1_1] rfl ca ?_; (with_reducible refine (dir_place.calls _ _ l0 a1_1 t125 false _ ?side1 ?side2 A3.out).mono ?_); (case side1 => exact cz HR0.out HB.out); (case side2 => exact HC0.out); rintro e w45 ⟨rfl, hb⟩; refine ⟨_, rfl, ?_⟩; have n0_ := mkA (blk_below (blk_y BK124.out) hb); have n1_ := mkA (below_step (below_y HB.out) hb); clear BK124; clear HB; have BK124 := n0_; have HB := n1_; clear n0_ n1_; (try clear hb); (try clear hb2); (try clear hk); (try clear hi); have hcz46_0 := bc BK124.out 0 (.int .i64 a1_0) rfl; have hcz46_1 := bc BK124.out 1 (.string a1_1) rfl; have hcz46_2 := bc BK124.out 2 (.string a1_2) rfl; have hcz46_3 := bc BK124.out 3 (.int .i64 a1_3) rfl; have hfz46_0 := blk_frozen BK124.out 0; have hfz46_1 := blk_frozen BK124.out 1; have hfz46_2 := blk_frozen BK124.out 2; have hfz46_3 := blk_frozen BK124.out 3))
      go_ret2
      exact ⟨_, by first | rfl | (simp [errW_none, errW_some] <;> rfl) | (simp [*, errW_none, errW_some] <;> rfl), by first | exact Kd.R_nil _ _ _ _ _ | exact Kd.N_nil _ _ _ _ _ | exact Kd.V_nil _ _ _ _ _ | exact Kd.Q_nil _ _ _ _ _ | exact Kd.S_nil _ _ _ _ _, by repeat (first | (with_reducible first | exact HB.out | apply below_alloc | apply pw_below_drewN | apply below_drew1 | refine below_set ?_ GE124.out) | exact HB.out)⟩
   ·rw [if_neg c35] at H
    have c35b0 : (a1_0 == 3) = false := beq_eq_false_iff_ne.mpr c35
    have c35b1 : (a1_0 != 3) = true := bne_iff_ne.mpr c35
    as_aux_lemma =>
     simp only [Option.some.injEq, Prod.mk.injEq] at H
     obtain ⟨rfl, rfl⟩ := H
     go_enter Try.func90, Try.ntmps90
     go_wp2_with (first | ((with_reducible refine gate_load (t := 69) rfl ?_); refine load_row3 (t := 69) (g := gb124) ?hg BK124.out ?ho ?hb Try.underlying69 rfl ?hs ?_; (case hg => rfl); (case ho => refine ⟨_, rfl, ?_⟩; first | (with_reducible rfl) | (go_simp; done)); (case hb => (with_reducible repeat (first | refine blk_drewN ?_ _ | refine blk_drew ?_ | refine blk_alloc ?_ _)); with_reducible exact BK124.out); (case hs => kernel_rfl)) | ((with_reducible refine gate_dst (N := 3) rfl ?_); refine box_event ?hg (N := 3) ?hd (cs := #[.int .i64 a1_0, .string a1_1, .string a1_2, .int .i64 a1_3]) (t := 69) ?hr ?_; (case hd => rfl); (case hg => rfl); (case hr => first | (go_simp; done) | (go_simp; rfl)); intro gb124 hg w47 hbox hb; have n0_ := mkA (below_step (below_y HB.out) hb); have n1_ := mkA (hbox); have n2_ := mkA ((gz hg HB.out : w.heap.size ≤ gb124)); have n3_ := mkA ((gz hg HB.out : w.heap.size ≤ gb124)); clear HB; have HB := n0_; have BK124 := n1_; have GW124 := n2_; have GE124 := n3_; clear n0_ n1_ n2_ n3_; clear hb hbox hg; have hcz48_0 := bc BK124.out 0 (.int .i64 a1_0) rfl; have hcz48_1 := bc BK124.out 1 (.string a1_1) rfl; have hcz48_2 := bc BK124.out 2 (.string a1_2) rfl; have hcz48_3 := bc BK124.out 3 (.int .i64 a1_3) rfl; have hfz48_0 := blk_frozen BK124.out 0; have hfz48_1 := blk_frozen BK124.out 1; have hfz48_2 := blk_frozen BK124.out 2; have hfz48_3 := blk_frozen BK124.out 3) | ((with_reducible refine gate_callee (f := 127) rfl ?_); refine goesL_ (some 12) rfl rfl Try.func127 (by kernel_rfl) rfl #[.slice A0 l0.length c0, .string a1_1] rfl ca ?_; (with_reducible refine (dir_place.calls _ _ l0 a1_1 t125 t126 _ ?side1 ?side2 A3.out).mono ?_); (case side1 => exact cz HR0.out HB.out); (case side2 => exact HC0.out); rintro e w49 ⟨rfl, hb⟩; refine ⟨_, rfl, ?_⟩; have n0_ := mkA (blk_below (blk_y BK124.out) hb); have n1_ := mkA (below_step (below_y HB.out) hb); clear BK124; clear HB; have BK124 := n0_; have HB := n1_; clear n0_ n1_; (try clear hb); (try clear hb2); (try clear hk); (try clear hi); have hcz50_0 := bc BK124.out 0 (.int .i64 a1_0) rfl; have hcz50_1 := bc BK124.out 1 (.string a1_1) rfl; have hcz50_2 := bc BK124.out 2 (.string a1_2) rfl; have hcz50_3 := bc BK124.out 3 (.int .i64 a1_3) rfl; have hfz50_0 := blk_frozen BK124.out 0; have hfz50_1 := blk_frozen BK124.out 1; have hfz50_2 := blk_frozen BK124.out 2; have hfz50_3 := blk_frozen BK124.out 3))
     go_ret2
     exact ⟨_, by first | rfl | (simp [errW_none, errW_some] <;> rfl) | (simp [*, errW_none, errW_some] <;> rfl), by first | exact Kd.R_nil _ _ _ _ _ | exact Kd.N_nil _ _ _ _ _ | exact Kd.V_nil _ _ _ _ _ | exact Kd.Q_nil _ _ _ _ _ | exact Kd.S_nil _ _ _ _ _, by repeat (first | (with_reducible first | exact HB.out | apply below_alloc | apply pw_below_drewN | apply below_drew1 | refine below_set ?_ GE124.out) | exact HB.out)⟩

end Go.Proofs.Ytkkikdjfigffhab.XDir
