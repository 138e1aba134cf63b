-- By a program of this work (xprint.py) over the translation; Lean checks it.
import Derived.Test.YtkkikdjfigffhabXDirx0
namespace Go.Proofs.Ytkkikdjfigffhab.XDir
open Go.RowKit Go.Proofs.YtkkikdjfigffhabW.PrintWords Go.Proofs.YtkkikdjfigffhabW.PrintLast Go.Proofs.YtkkikdjfigffhabW.PrintMore
attribute [local go_sem] max2_int min2_int max_two min_two max_three min_three max_four min_four   -- for this text's walks alone
set_option linter.unusedVariables false
set_option linter.unusedSimpArgs false

/-! ### newsreelref10_With: function 131 -/
def newsreelref10_With.l0 : Nat → List (S77) → List (S77) → Bool → Int → ByteArray → Int → Option ((List (S77)))
 | 0, _, _, _, _, _, _ => none
 | k + 1, x0, x5, x6, x7, x259000, x259001 => if x7 < (x0.length : Int) then (if x6 = true then (if 0 ≤ x7 then (if x5.length < 5864062014805 then (newsreelref10_With.l0 k x0 (x5 ++ [(⟨(rd_T77 x0 x7).f0, (rd_T77 x0 x7).f1⟩ : S77)]) x6 (wrap64 (x7 + 1)) x259000 x259001) else (none)) else (none)) else (if 0 ≤ x7 then (if (Op.bytesLess x259000.toList (((rd_T77 x0 x7).f0).toList)) = true then (if x5.length < 5864062014805 then ((some (x5 ++ [(⟨x259000, x259001⟩ : S77)] : List (S77))).bind fun y267 => (if y267.length < 5864062014805 then (newsreelref10_With.l0 k x0 (y267 ++ [(⟨(rd_T77 x0 x7).f0, (rd_T77 x0 x7).f1⟩ : S77)]) true (wrap64 (x7 + 1)) x259000 x259001) else (none))) else (none)) else (if x5.length < 5864062014805 then (newsreelref10_With.l0 k x0 (x5 ++ [(⟨(rd_T77 x0 x7).f0, (rd_T77 x0 x7).f1⟩ : S77)]) x6 (wrap64 (x7 + 1)) x259000 x259001) else (none))) else (none))) else (if x6 = true then (some x5) else (if x5.length < 5864062014805 then (some (x5 ++ [(⟨x259000, x259001⟩ : S77)])) else (none)))
def newsreelref10_With.f (k : Nat) (l0 : List (S77)) (a1_0 : ByteArray) (a1_1 : Int) : Option ((List (S77))) := newsreelref10_With.l0 k l0 (([] : List (S77))) false 0 a1_0 a1_1
theorem newsreelref10_With.mono_l : ∀ k, (∀ y0 y1 y2 y3 y4 y5, LeO (newsreelref10_With.l0 k y0 y1 y2 y3 y4 y5) (newsreelref10_With.l0 (k + 1) y0 y1 y2 y3 y4 y5))
 | 0 => fun _ _ _ _ _ _ r h => by simp [newsreelref10_With.l0] at h
 | k + 1 => by
  have ih0 := newsreelref10_With.mono_l k
  ·intro y0 y1 y2 y3 y4 y5
   unfold newsreelref10_With.l0
   repeat' first
   | (with_reducible exact ih0 _ _ _ _ _ _)
   | (with_reducible exact LeO.refl _)
   | (with_reducible exact LeO.none _)
   | (with_reducible refine LeO.ite ?_ ?_)
   | (with_reducible refine LeO.bind ?_ (fun _ => ?_))
   | exact ih0 _ _ _ _ _ _
   | exact LeO.none _
   | refine LeO.ite ?_ ?_
   | refine LeO.bind ?_ (fun _ => ?_)
theorem newsreelref10_With.mono : ∀ a0 a1 a2 k, LeO (newsreelref10_With.f k a0 a1 a2) (newsreelref10_With.f (k + 1) a0 a1 a2) := by
 intro a0 a1 a2 k
 have ih0 := newsreelref10_With.mono_l k
 unfold newsreelref10_With.f
 repeat' first
   | (with_reducible exact ih0 _ _ _ _ _ _)
   | (with_reducible exact LeO.refl _)
   | (with_reducible exact LeO.none _)
   | (with_reducible refine LeO.ite ?_ ?_)
   | (with_reducible refine LeO.bind ?_ (fun _ => ?_))
   | exact ih0 _ _ _ _ _ _
   | exact LeO.none _
   | refine LeO.ite ?_ ?_
   | refine LeO.bind ?_ (fun _ => ?_)
set_option maxHeartbeats 8000000 in
set_option maxRecDepth 100000 in
theorem newsreelref10_With.calls (k : Nat) (A0 : Option Addr) (c0 : Nat) (l0 : List (S77)) (a1_0 : ByteArray) (a1_1 : Int) (r : List (S77)) (w : World) (hr0 : Kd.C k77 w A0 l0.length l0) (hc0 : l0.length ≤ c0) (h : newsreelref10_With.f k l0 a1_0 a1_1 = some r) :
  Calls Try.prog 131 #[.slice A0 l0.length c0, .agg #[.string a1_0, .int .i64 a1_1]] w fun e w' => ∃ v0_ : Value, e = .returned (v0_) ∧ Kd.R k77 77 w' w.heap.size (fun _ => True) v0_ r ∧ Below w.heap.size w w' := by
 have hu77 := Try.underlying77
 have HR0 := mkA hr0
 have HC0 := mkA hc0
 clear hr0 hc0
 have HB := mkA (Below.refl w.heap.size w)
 have H : (newsreelref10_With.l0 k l0 (([] : List (S77))) false 0 a1_0 a1_1) = some r := h
 clear h
 obtain ⟨y259, hy259⟩ : ∃ y_ : List (S77), y_ = (([] : List (S77))) := ⟨_, rfl⟩
 replace H : (newsreelref10_With.l0 k l0 y259 false 0 a1_0 a1_1) = some r := by first | (rw [hy259]; with_reducible exact H) | (have H2_ := (Option.bind_some _ _).symm.trans H; rw [hy259]; with_reducible exact H2_) | (have H2_ := (Option.bind_some _ _).symm.trans H; with_reducible exact H2_) | with_reducible exact H | (rw [hy259]; exact H) | exact H
 have Ny259 := mkA hy259
 clear hy259
 have H' := mkA H
 clear H
 go_enter Try.func131, Try.ntmps131
 go_wp2_with (first | ((with_reducible refine gate_dst (N := 3) rfl ?_); refine box_event ?hg (N := 3) ?hd (cs := #[.string a1_0, .int .i64 a1_1]) (t := 77) ?hr ?_; (case hd => rfl); (case hg => rfl); (case hr => first | (go_simp; done) | (go_simp; rfl)); intro gb258 hg w3 hbox hb; have n0_ := mkA (below_step (below_y HB.out) hb); have n1_ := mkA (hbox); have n2_ := mkA ((gz hg HB.out : w.heap.size ≤ gb258)); have n3_ := mkA ((gz hg HB.out : w.heap.size ≤ gb258)); clear HB; have HB := n0_; have BK258 := n1_; have GW258 := n2_; have GE258 := n3_; clear n0_ n1_ n2_ n3_; clear hb hbox hg) | ((with_reducible refine gate_dst (N := 8) rfl ?_); refine Kd.R_lit k77 _ 77 ?hg (N := 8) ?hd (xs := ([] : List (S77))) (inner := []) (ok := fun _ => True) (okp := fun _ => True) ?hr ?hp (fun _ hk => hk) trivial (Below.refl _ _) (Nat.le_refl _) (by simp) ?_; (case hd => rfl); (case hg => rfl); (case hr => first | (go_simp; done) | (go_simp; rfl)); (case hp => exact (Reps.none _ _)); intro v260 w4 ho5 hb hg_ hnew_; clear hg_ hnew_; (first | rw [← Ny259.out] at ho5 | (simp only [Int.reduceToNat] at ho5; rw [← Ny259.out] at ho5)); have n0_ := mkA (Kd.R_lower (Kd.R_newB ho5 (blk_y BK258.out)) (below_size (below_y HB.out))); have n1_ := mkA (blk_below (blk_y BK258.out) hb); have n2_ := mkA (below_step (below_y HB.out) hb); clear BK258; clear HB; have HO261 := n0_; have BK258 := n1_; have HB := n2_; clear n0_ n1_ n2_; clear hb ho5))
 repeat (go_quiet (first | ((with_reducible refine gate_dst (N := 3) rfl ?_); refine box_event ?hg (N := 3) ?hd (cs := #[.string a1_0, .int .i64 a1_1]) (t := 77) ?hr ?_; (case hd => rfl); (case hg => rfl); (case hr => first | (go_simp; done) | (go_simp; rfl)); intro gb258 hg w3 hbox hb; have n0_ := mkA (below_step (below_y HB.out) hb); have n1_ := mkA (hbox); have n2_ := mkA ((gz hg HB.out : w.heap.size ≤ gb258)); have n3_ := mkA ((gz hg HB.out : w.heap.size ≤ gb258)); clear HB; have HB := n0_; have BK258 := n1_; have GW258 := n2_; have GE258 := n3_; clear n0_ n1_ n2_ n3_; clear hb hbox hg) | ((with_reducible refine gate_dst (N := 8) rfl ?_); refine Kd.R_lit k77 _ 77 ?hg (N := 8) ?hd (xs := ([] : List (S77))) (inner := []) (ok := fun _ => True) (okp := fun _ => True) ?hr ?hp (fun _ hk => hk) trivial (Below.refl _ _) (Nat.le_refl _) (by simp) ?_; (case hd => rfl); (case hg => rfl); (case hr => first | (go_simp; done) | (go_simp; rfl)); (case hp => exact (Reps.none _ _)); intro v260 w4 ho5 hb hg_ hnew_; clear hg_ hnew_; (first | rw [← Ny259.out] at ho5 | (simp only [Int.reduceToNat] at ho5; rw [← Ny259.out] at ho5)); have n0_ := mkA (Kd.R_lower (Kd.R_newB ho5 (blk_y BK258.out)) (below_size (below_y HB.out))); have n1_ := mkA (blk_below (blk_y BK258.out) hb); have n2_ := mkA (below_step (below_y HB.out) hb); clear BK258; clear HB; have HO261 := n0_; have BK258 := n1_; have HB := n2_; clear n0_ n1_ n2_; clear hb ho5)); try go_wp2_with (first | ((with_reducible refine gate_dst (N := 3) rfl ?_); refine box_event ?hg (N := 3) ?hd (cs := #[.string a1_0, .int .i64 a1_1]) (t := 77) ?hr ?_; (case hd => rfl); (case hg => rfl); (case hr => first | (go_simp; done) | (go_simp; rfl)); intro gb258 hg w3 hbox hb; have n0_ := mkA (below_step (below_y HB.out) hb); have n1_ := mkA (hbox); have n2_ := mkA ((gz hg HB.out : w.heap.size ≤ gb258)); have n3_ := mkA ((gz hg HB.out : w.heap.size ≤ gb258)); clear HB; have HB := n0_; have BK258 := n1_; have GW258 := n2_; have GE258 := n3_; clear n0_ n1_ n2_ n3_; clear hb hbox hg) | ((with_reducible refine gate_dst (N := 8) rfl ?_); refine Kd.R_lit k77 _ 77 ?hg (N := 8) ?hd (xs := ([] : List (S77))) (inner := []) (ok := fun _ => True) (okp := fun _ => True) ?hr ?hp (fun _ hk => hk) trivial (Below.refl _ _) (Nat.le_refl _) (by simp) ?_; (case hd => rfl); (case hg => rfl); (case hr => first | (go_simp; done) | (go_simp; rfl)); (case hp => exact (Reps.none _ _)); intro v260 w4 ho5 hb hg_ hnew_; clear hg_ hnew_; (first | rw [← Ny259.out] at ho5 | (simp only [Int.reduceToNat] at ho5; rw [← Ny259.out] at ho5)); have n0_ := mkA (Kd.R_lower (Kd.R_newB ho5 (blk_y BK258.out)) (below_size (below_y HB.out))); have n1_ := mkA (blk_below (blk_y BK258.out) hb); have n2_ := mkA (below_step (below_y HB.out) hb); clear BK258; clear HB; have HO261 := n0_; have BK258 := n1_; have HB := n2_; clear n0_ n1_ n2_; clear hb ho5)))
 go_loopg [5, 6, 7] k (fun kq v5 v6 v7 w' => ∃ (x5_1 : List (S77)) (x6_1 : Bool) (x7_1 : Int), v6 = .bool x6_1 ∧ v7 = .int .i64 x7_1 ∧ Aside0 (newsreelref10_With.l0 kq l0 x5_1 x6_1 x7_1 a1_0 a1_1 = some r) ∧ Aside0 (kq ≤ k) ∧ Aside0 (Kd.R k77 77 w' w.heap.size (fun k_ => k_ ≠ gb258) v5 x5_1) ∧ Aside0 (w'.heap[gb258]? = some (.cells #[.string a1_0, .int .i64 a1_1] 77 (0, 0))) ∧ Aside0 (Below w.heap.size w w'))
 case atStart => exact ⟨(y259), (false), (0), (by first | rfl | (simp; done) | (simp [*]; done)), (by first | rfl | (simp; done) | (simp [*]; done)), H', ⟨Nat.le_refl _⟩, ⟨by (with_reducible repeat (first | apply Kd.R_alloc | apply Kd.R_drewN | apply Kd.R_drew)); exact Kd.R_mono HO261.out (fun _ hk => hk.2)⟩, ⟨by (with_reducible repeat (first | refine blk_drewN ?_ _ | refine blk_drew ?_ | refine blk_alloc ?_ _)); exact BK258.out⟩, ⟨by repeat (first | (with_reducible first | exact HB.out | apply below_alloc | apply pw_below_drewN | apply below_drew1 | refine below_set ?_ GE258.out) | exact HB.out)⟩⟩
 case round =>
  clear H'
  try clear c1
  try clear p2
  obtain ⟨x5_1, x6_1, x7_1, rfl, rfl, HA, HK1, HO_5, BK258, HB⟩ := hrel
  cases gk with
  | zero => exact absurd HA.out (by simp [newsreelref10_With.l0])
  | succ k1 =>
   have H := HA.out
   clear HA
   simp only [newsreelref10_With.l0] at H
   by_cases c6 : x7_1 < (l0.length : Int)
   ·rw [if_pos c6] at H
    have c6b0 : decide (x7_1 < (l0.length : Int)) = true := decide_eq_true c6
    clear c6
    by_cases c7 : x6_1 = true
    ·subst c7
     have H1 : (if 0 ≤ x7_1 then (if x5_1.length < 5864062014805 then (newsreelref10_With.l0 k1 l0 (x5_1 ++ [(⟨(rd_T77 l0 x7_1).f0, (rd_T77 l0 x7_1).f1⟩ : S77)]) true (wrap64 (x7_1 + 1)) a1_0 a1_1) else (none)) else (none)) = some r := by rw [if_pos rfl] at H; exact H
     clear H
     have H := H1
     clear H1
     by_cases c8 : 0 ≤ x7_1
     ·rw [if_pos c8] at H
      have c8b0 : decide (0 ≤ x7_1) = true := decide_eq_true c8
      clear c8
      by_cases c9 : x5_1.length < 5864062014805
      ·rw [if_pos c9] at H
       have LMc9 := mkA c9
       clear c9
       obtain ⟨y263, hy263⟩ : ∃ y_ : List (S77), y_ = (x5_1 ++ [(⟨(rd_T77 l0 x7_1).f0, (rd_T77 l0 x7_1).f1⟩ : S77)]) := ⟨_, rfl⟩
       replace H : (newsreelref10_With.l0 k1 l0 y263 true (wrap64 (x7_1 + 1)) a1_0 a1_1) = some r := by first | (rw [hy263]; with_reducible exact H) | (have H2_ := (Option.bind_some _ _).symm.trans H; rw [hy263]; with_reducible exact H2_) | (have H2_ := (Option.bind_some _ _).symm.trans H; with_reducible exact H2_) | with_reducible exact H | (rw [hy263]; exact H) | exact H
       have Ny263 := mkA hy263
       clear hy263
       as_aux_lemma =>
        have H' := mkA H
        clear H
        have p262 : 0 ≤ (x7_1 : Int) := odt
        have q262 : x7_1 < (l0.length : Int) := odt
        obtain ⟨ad262, e262, hx262_0, hx262_1⟩ := at_T77 HR0.out x7_1 p262 q262
        cases e262
        replace hx262_0 := (cb HB.out hx262_0).trans hx262_0
        replace hx262_1 := (cb HB.out hx262_1).trans hx262_1
        replace p262 := eq_true p262
        replace q262 := eq_true q262
        go_wp2_with (first | ((with_reducible refine gate_builtin (b := .append) (xs := #[.tmp 31, .tmp 36]) rfl ?_); at_builtin; refine Kd.R_append k77 (w0 := w) w.heap.size rfl (.tmp 31) (.tmp 36) 64 77 (.agg #[(.string ⟨#[]⟩), (.int .i64 0)]) 24 rfl Try.underlying64 info77 rfl (by decide) (by omega) u5 x5_1 (⟨(rd_T77 l0 x7_1).f0, (rd_T77 l0 x7_1).f1⟩ : S77) [.string ((rd_T77 l0 x7_1).f0), .int .i64 ((rd_T77 l0 x7_1).f1)] (fun k_ => k_ ≠ gb258) (fun _ => False) rfl rfl ?aP (fun _ hk => hk.elim) ?aF ?aO ?aB ?aS ?aL ?_; (case aP => exact k77_mkM _ _ _ (⟨(rd_T77 l0 x7_1).f0, (rd_T77 l0 x7_1).f1⟩ : S77)); (case aB => exact (below_y HB.out)); (case aF => exact (fun k_ hk => Kd.freshB (blk_y BK258.out) k_ hk)); (case aO => exact (Kd.R_y HO_5.out)); (case aS => exact (below_size (below_y HB.out))); (case aL => have := LMc9.out; omega); intro v264 w10 ho hb hg hat; rw [← Ny263.out] at ho; have n0_ := mkA (blk_grown (blk_y BK258.out) hg (Kd.R_away HO_5.out (fun _ hk => hk))); have n1_ := mkA (hb); have n2_ := mkA (ho); clear BK258; clear HB; clear HO_5; have BK258 := n0_; have HB := n1_; have HO265 := n2_; clear n0_ n1_ n2_; clear ho hb hg hat))
        repeat (go_quiet (first | ((with_reducible refine gate_builtin (b := .append) (xs := #[.tmp 31, .tmp 36]) rfl ?_); at_builtin; refine Kd.R_append k77 (w0 := w) w.heap.size rfl (.tmp 31) (.tmp 36) 64 77 (.agg #[(.string ⟨#[]⟩), (.int .i64 0)]) 24 rfl Try.underlying64 info77 rfl (by decide) (by omega) u5 x5_1 (⟨(rd_T77 l0 x7_1).f0, (rd_T77 l0 x7_1).f1⟩ : S77) [.string ((rd_T77 l0 x7_1).f0), .int .i64 ((rd_T77 l0 x7_1).f1)] (fun k_ => k_ ≠ gb258) (fun _ => False) rfl rfl ?aP (fun _ hk => hk.elim) ?aF ?aO ?aB ?aS ?aL ?_; (case aP => exact k77_mkM _ _ _ (⟨(rd_T77 l0 x7_1).f0, (rd_T77 l0 x7_1).f1⟩ : S77)); (case aB => exact (below_y HB.out)); (case aF => exact (fun k_ hk => Kd.freshB (blk_y BK258.out) k_ hk)); (case aO => exact (Kd.R_y HO_5.out)); (case aS => exact (below_size (below_y HB.out))); (case aL => have := LMc9.out; omega); intro v264 w10 ho hb hg hat; rw [← Ny263.out] at ho; have n0_ := mkA (blk_grown (blk_y BK258.out) hg (Kd.R_away HO_5.out (fun _ hk => hk))); have n1_ := mkA (hb); have n2_ := mkA (ho); clear BK258; clear HB; clear HO_5; have BK258 := n0_; have HB := n1_; have HO265 := n2_; clear n0_ n1_ n2_; clear ho hb hg hat)); try go_wp2_with (first | ((with_reducible refine gate_builtin (b := .append) (xs := #[.tmp 31, .tmp 36]) rfl ?_); at_builtin; refine Kd.R_append k77 (w0 := w) w.heap.size rfl (.tmp 31) (.tmp 36) 64 77 (.agg #[(.string ⟨#[]⟩), (.int .i64 0)]) 24 rfl Try.underlying64 info77 rfl (by decide) (by omega) u5 x5_1 (⟨(rd_T77 l0 x7_1).f0, (rd_T77 l0 x7_1).f1⟩ : S77) [.string ((rd_T77 l0 x7_1).f0), .int .i64 ((rd_T77 l0 x7_1).f1)] (fun k_ => k_ ≠ gb258) (fun _ => False) rfl rfl ?aP (fun _ hk => hk.elim) ?aF ?aO ?aB ?aS ?aL ?_; (case aP => exact k77_mkM _ _ _ (⟨(rd_T77 l0 x7_1).f0, (rd_T77 l0 x7_1).f1⟩ : S77)); (case aB => exact (below_y HB.out)); (case aF => exact (fun k_ hk => Kd.freshB (blk_y BK258.out) k_ hk)); (case aO => exact (Kd.R_y HO_5.out)); (case aS => exact (below_size (below_y HB.out))); (case aL => have := LMc9.out; omega); intro v264 w10 ho hb hg hat; rw [← Ny263.out] at ho; have n0_ := mkA (blk_grown (blk_y BK258.out) hg (Kd.R_away HO_5.out (fun _ hk => hk))); have n1_ := mkA (hb); have n2_ := mkA (ho); clear BK258; clear HB; clear HO_5; have BK258 := n0_; have HB := n1_; have HO265 := n2_; clear n0_ n1_ n2_; clear ho hb hg hat)))
        go_roundg k1
        case measure => have := HK1.out; omega
        case rel => exact ⟨(y263), (true), (wrap64 (x7_1 + 1)), (by first | rfl | (simp; done) | (simp [*]; done)), (by first | rfl | (simp; done) | (simp [*]; done)), H', ⟨by have := HK1.out; omega⟩, ⟨by (with_reducible repeat (first | apply Kd.R_alloc | apply Kd.R_drewN | apply Kd.R_drew)); exact HO265.out⟩, ⟨by (with_reducible repeat (first | refine blk_drewN ?_ _ | refine blk_drew ?_ | refine blk_alloc ?_ _)); exact BK258.out⟩, ⟨by repeat (first | (with_reducible first | exact HB.out | apply below_alloc | apply pw_below_drewN | apply below_drew1 | refine below_set ?_ GE258.out) | exact HB.out)⟩⟩
      ·rw [if_neg c9] at H
       exact absurd H (by simp)
     ·rw [if_neg c8] at H
      exact absurd H (by simp)
    ·replace c7 := Bool.eq_false_iff.mpr c7
     subst c7
     have H1 : (if 0 ≤ x7_1 then (if (Op.bytesLess a1_0.toList (((rd_T77 l0 x7_1).f0).toList)) = true then (if x5_1.length < 5864062014805 then ((some (x5_1 ++ [(⟨a1_0, a1_1⟩ : S77)] : List (S77))).bind fun y267 => (if y267.length < 5864062014805 then (newsreelref10_With.l0 k1 l0 (y267 ++ [(⟨(rd_T77 l0 x7_1).f0, (rd_T77 l0 x7_1).f1⟩ : S77)]) true (wrap64 (x7_1 + 1)) a1_0 a1_1) else (none))) else (none)) else (if x5_1.length < 5864062014805 then (newsreelref10_With.l0 k1 l0 (x5_1 ++ [(⟨(rd_T77 l0 x7_1).f0, (rd_T77 l0 x7_1).f1⟩ : S77)]) false (wrap64 (x7_1 + 1)) a1_0 a1_1) else (none))) else (none)) = some r := by rw [if_neg (show ¬ (false = true) by decide)] at H; exact H
     clear H
     have H := H1
     clear H1
     by_cases c11 : 0 ≤ x7_1
     ·rw [if_pos c11] at H
      have c11b0 : decide (0 ≤ x7_1) = true := decide_eq_true c11
      clear c11
      by_cases c12 : (Op.bytesLess a1_0.toList (((rd_T77 l0 x7_1).f0).toList)) = true
      ·rw [if_pos c12] at H
       have c12b0 : (Op.bytesLess a1_0.toList (((rd_T77 l0 x7_1).f0).toList)) = true := c12
       have c12b7 := bl_gt1 c12b0
       have c12b8 := bl_gt2 c12b0
       clear c12
       by_cases c13 : x5_1.length < 5864062014805
       ·rw [if_pos c13] at H
        have LMc13 := mkA c13
        clear c13
        obtain ⟨y267, hy267⟩ : ∃ y_ : List (S77), y_ = (x5_1 ++ [(⟨a1_0, a1_1⟩ : S77)]) := ⟨_, rfl⟩
        replace H : (if y267.length < 5864062014805 then (newsreelref10_With.l0 k1 l0 (y267 ++ [(⟨(rd_T77 l0 x7_1).f0, (rd_T77 l0 x7_1).f1⟩ : S77)]) true (wrap64 (x7_1 + 1)) a1_0 a1_1) else (none)) = some r := by first | (rw [hy267]; with_reducible exact H) | (have H2_ := (Option.bind_some _ _).symm.trans H; rw [hy267]; with_reducible exact H2_) | (have H2_ := (Option.bind_some _ _).symm.trans H; with_reducible exact H2_) | with_reducible exact H | (rw [hy267]; exact H) | exact H
        have Ny267 := mkA hy267
        clear hy267
        by_cases c14 : y267.length < 5864062014805
        ·rw [if_pos c14] at H
         have LMc14 := mkA c14
         clear c14
         obtain ⟨y271, hy271⟩ : ∃ y_ : List (S77), y_ = (y267 ++ [(⟨(rd_T77 l0 x7_1).f0, (rd_T77 l0 x7_1).f1⟩ : S77)]) := ⟨_, rfl⟩
         replace H : (newsreelref10_With.l0 k1 l0 y271 true (wrap64 (x7_1 + 1)) a1_0 a1_1) = some r := by first | (rw [hy271]; with_reducible exact H) | (have H2_ := (Option.bind_some _ _).symm.trans H; rw [hy271]; with_reducible exact H2_) | (have H2_ := (Option.bind_some _ _).symm.trans H; with_reducible exact H2_) | with_reducible exact H | (rw [hy271]; exact H) | exact H
         have Ny271 := mkA hy271
         clear hy271
         as_aux_lemma =>
          have H' := mkA H
          clear H
          have p266 : 0 ≤ (x7_1 : Int) := odt
          have q266 : x7_1 < (l0.length : Int) := odt
          obtain ⟨ad266, e266, hx266_0, hx266_1⟩ := at_T77 HR0.out x7_1 p266 q266
          cases e266
          replace hx266_0 := (cb HB.out hx266_0).trans hx266_0
          replace hx266_1 := (cb HB.out hx266_1).trans hx266_1
          replace p266 := eq_true p266
          replace q266 := eq_true q266
          have hcz15_0 := bc BK258.out 0 (.string a1_0) rfl
          have hcz15_1 := bc BK258.out 1 (.int .i64 a1_1) rfl
          have hfz15_0 := blk_frozen BK258.out 0
          have hfz15_1 := blk_frozen BK258.out 1
          go_wp2_with (first | ((with_reducible refine gate_builtin (b := .append) (xs := #[.tmp 27, .tmp 29]) rfl ?_); at_builtin; refine Kd.R_append k77 (w0 := w) w.heap.size rfl (.tmp 27) (.tmp 29) 64 77 (.agg #[(.string ⟨#[]⟩), (.int .i64 0)]) 24 rfl Try.underlying64 info77 rfl (by decide) (by omega) u5 x5_1 (⟨a1_0, a1_1⟩ : S77) [.string a1_0, .int .i64 a1_1] (fun k_ => k_ ≠ gb258) (fun _ => False) rfl rfl ?aP (fun _ hk => hk.elim) ?aF ?aO ?aB ?aS ?aL ?_; (case aP => exact k77_mkM _ _ _ (⟨a1_0, a1_1⟩ : S77)); (case aB => exact (below_y HB.out)); (case aF => exact (fun k_ hk => Kd.freshB (blk_y BK258.out) k_ hk)); (case aO => exact (Kd.R_y HO_5.out)); (case aS => exact (below_size (below_y HB.out))); (case aL => have := LMc13.out; omega); intro v268 w16 ho hb hg hat; rw [← Ny267.out] at ho; have n0_ := mkA (blk_grown (blk_y BK258.out) hg (Kd.R_away HO_5.out (fun _ hk => hk))); have n1_ := mkA (hb); have n2_ := mkA (ho); clear BK258; clear HB; clear HO_5; have BK258 := n0_; have HB := n1_; have HO269 := n2_; clear n0_ n1_ n2_; clear ho hb hg hat; have p270 : 0 ≤ (x7_1 : Int) := odt; have q270 : x7_1 < (l0.length : Int) := odt; obtain ⟨ad270, e270, hx270_0, hx270_1⟩ := at_T77 HR0.out x7_1 p270 q270; obtain rfl : ad266 = ad270 := (by injection e270); replace hx270_0 := (cb HB.out hx270_0).trans hx270_0; replace hx270_1 := (cb HB.out hx270_1).trans hx270_1; replace p270 := eq_true p270; replace q270 := eq_true q270) | ((with_reducible refine gate_builtin (b := .append) (xs := #[.tmp 31, .tmp 36]) rfl ?_); at_builtin; refine Kd.R_append k77 (w0 := w) w.heap.size rfl (.tmp 31) (.tmp 36) 64 77 (.agg #[(.string ⟨#[]⟩), (.int .i64 0)]) 24 rfl Try.underlying64 info77 rfl (by decide) (by omega) v268 y267 (⟨(rd_T77 l0 x7_1).f0, (rd_T77 l0 x7_1).f1⟩ : S77) [.string ((rd_T77 l0 x7_1).f0), .int .i64 ((rd_T77 l0 x7_1).f1)] (fun k_ => k_ ≠ gb258) (fun _ => False) rfl rfl ?aP (fun _ hk => hk.elim) ?aF ?aO ?aB ?aS ?aL ?_; (case aP => exact k77_mkM _ _ _ (⟨(rd_T77 l0 x7_1).f0, (rd_T77 l0 x7_1).f1⟩ : S77)); (case aB => exact (below_y HB.out)); (case aF => exact (fun k_ hk => Kd.freshB (blk_y BK258.out) k_ hk)); (case aO => exact (Kd.R_y HO269.out)); (case aS => exact (below_size (below_y HB.out))); (case aL => have := LMc14.out; omega); intro v272 w17 ho hb hg hat; rw [← Ny271.out] at ho; have n0_ := mkA (blk_grown (blk_y BK258.out) hg (Kd.R_away HO269.out (fun _ hk => hk))); have n1_ := mkA (hb); have n2_ := mkA (ho); clear BK258; clear HB; clear HO269; have BK258 := n0_; have HB := n1_; have HO273 := n2_; clear n0_ n1_ n2_; clear ho hb hg hat))
          repeat (go_quiet (first | ((with_reducible refine gate_builtin (b := .append) (xs := #[.tmp 27, .tmp 29]) rfl ?_); at_builtin; refine Kd.R_append k77 (w0 := w) w.heap.size rfl (.tmp 27) (.tmp 29) 64 77 (.agg #[(.string ⟨#[]⟩), (.int .i64 0)]) 24 rfl Try.underlying64 info77 rfl (by decide) (by omega) u5 x5_1 (⟨a1_0, a1_1⟩ : S77) [.string a1_0, .int .i64 a1_1] (fun k_ => k_ ≠ gb258) (fun _ => False) rfl rfl ?aP (fun _ hk => hk.elim) ?aF ?aO ?aB ?aS ?aL ?_; (case aP => exact k77_mkM _ _ _ (⟨a1_0, a1_1⟩ : S77)); (case aB => exact (below_y HB.out)); (case aF => exact (fun k_ hk => Kd.freshB (blk_y BK258.out) k_ hk)); (case aO => exact (Kd.R_y HO_5.out)); (case aS => exact (below_size (below_y HB.out))); (case aL => have := LMc13.out; omega); intro v268 w16 ho hb hg hat; rw [← Ny267.out] at ho; have n0_ := mkA (blk_grown (blk_y BK258.out) hg (Kd.R_away HO_5.out (fun _ hk => hk))); have n1_ := mkA (hb); have n2_ := mkA (ho); clear BK258; clear HB; clear HO_5; have BK258 := n0_; have HB := n1_; have HO269 := n2_; clear n0_ n1_ n2_; clear ho hb hg hat; have p270 : 0 ≤ (x7_1 : Int) := odt; have q270 : x7_1 < (l0.length : Int) := odt; obtain ⟨ad270, e270, hx270_0, hx270_1⟩ := at_T77 HR0.out x7_1 p270 q270; obtain rfl : ad266 = ad270 := (by injection e270); replace hx270_0 := (cb HB.out hx270_0).trans hx270_0; replace hx270_1 := (cb HB.out hx270_1).trans hx270_1; replace p270 := eq_true p270; replace q270 := eq_true q270) | ((with_reducible refine gate_builtin (b := .append) (xs := #[.tmp 31, .tmp 36]) rfl ?_); at_builtin; refine Kd.R_append k77 (w0 := w) w.heap.size rfl (.tmp 31) (.tmp 36) 64 77 (.agg #[(.string ⟨#[]⟩), (.int .i64 0)]) 24 rfl Try.underlying64 info77 rfl (by decide) (by omega) v268 y267 (⟨(rd_T77 l0 x7_1).f0, (rd_T77 l0 x7_1).f1⟩ : S77) [.string ((rd_T77 l0 x7_1).f0), .int .i64 ((rd_T77 l0 x7_1).f1)] (fun k_ => k_ ≠ gb258) (fun _ => False) rfl rfl ?aP (fun _ hk => hk.elim) ?aF ?aO ?aB ?aS ?aL ?_; (case aP => exact k77_mkM _ _ _ (⟨(rd_T77 l0 x7_1).f0, (rd_T77 l0 x7_1).f1⟩ : S77)); (case aB => exact (below_y HB.out)); (case aF => exact (fun k_ hk => Kd.freshB (blk_y BK258.out) k_ hk)); (case aO => exact (Kd.R_y HO269.out)); (case aS => exact (below_size (below_y HB.out))); (case aL => have := LMc14.out; omega); intro v272 w17 ho hb hg hat; rw [← Ny271.out] at ho; have n0_ := mkA (blk_grown (blk_y BK258.out) hg (Kd.R_away HO269.out (fun _ hk => hk))); have n1_ := mkA (hb); have n2_ := mkA (ho); clear BK258; clear HB; clear HO269; have BK258 := n0_; have HB := n1_; have HO273 := n2_; clear n0_ n1_ n2_; clear ho hb hg hat)); try go_wp2_with (first | ((with_reducible refine gate_builtin (b := .append) (xs := #[.tmp 27, .tmp 29]) rfl ?_); at_builtin; refine Kd.R_append k77 (w0 := w) w.heap.size rfl (.tmp 27) (.tmp 29) 64 77 (.agg #[(.string ⟨#[]⟩), (.int .i64 0)]) 24 rfl Try.underlying64 info77 rfl (by decide) (by omega) u5 x5_1 (⟨a1_0, a1_1⟩ : S77) [.string a1_0, .int .i64 a1_1] (fun k_ => k_ ≠ gb258) (fun _ => False) rfl rfl ?aP (fun _ hk => hk.elim) ?aF ?aO ?aB ?aS ?aL ?_; (case aP => exact k77_mkM _ _ _ (⟨a1_0, a1_1⟩ : S77)); (case aB => exact (below_y HB.out)); (case aF => exact (fun k_ hk => Kd.freshB (blk_y BK258.out) k_ hk)); (case aO => exact (Kd.R_y HO_5.out)); (case aS => exact (below_size (below_y HB.out))); (case aL => have := LMc13.out; omega); intro v268 w16 ho hb hg hat; rw [← Ny267.out] at ho; have n0_ := mkA (blk_grown (blk_y BK258.out) hg (Kd.R_away HO_5.out (fun _ hk => hk))); have n1_ := mkA (hb); have n2_ := mkA (ho); clear BK258; clear HB; clear HO_5; have BK258 := n0_; have HB := n1_; have HO269 := n2_; clear n0_ n1_ n2_; clear ho hb hg hat; have p270 : 0 ≤ (x7_1 : Int) := odt; have q270 : x7_1 < (l0.length : Int) := odt; obtain ⟨ad270, e270, hx270_0, hx270_1⟩ := at_T77 HR0.out x7_1 p270 q270; obtain rfl : ad266 = ad270 := (by injection e270); replace hx270_0 := (cb HB.out hx270_0).trans hx270_0; replace hx270_1 := (cb HB.out hx270_1).trans hx270_1; replace p270 := eq_true p270; replace q270 := eq_true q270) | ((with_reducible refine gate_builtin (b := .append) (xs := #[.tmp 31, .tmp 36]) rfl ?_); at_builtin; refine Kd.R_append k77 (w0 := w) w.heap.size rfl (.tmp 31) (.tmp 36) 64 77 (.agg #[(.string ⟨#[]⟩), (.int .i64 0)]) 24 rfl Try.underlying64 info77 rfl (by decide) (by omega) v268 y267 (⟨(rd_T77 l0 x7_1).f0, (rd_T77 l0 x7_1).f1⟩ : S77) [.string ((rd_T77 l0 x7_1).f0), .int .i64 ((rd_T77 l0 x7_1).f1)] (fun k_ => k_ ≠ gb258) (fun _ => False) rfl rfl ?aP (fun _ hk => hk.elim) ?aF ?aO ?aB ?aS ?aL ?_; (case aP => exact k77_mkM _ _ _ (⟨(rd_T77 l0 x7_1).f0, (rd_T77 l0 x7_1).f1⟩ : S77)); (case aB => exact (below_y HB.out)); (case aF => exact (fun k_ hk => Kd.freshB (blk_y BK258.out) k_ hk)); (case aO => exact (Kd.R_y HO269.out)); (case aS => exact (below_size (below_y HB.out))); (case aL => have := LMc14.out; omega); intro v272 w17 ho hb hg hat; rw [← Ny271.out] at ho; have n0_ := mkA (blk_grown (blk_y BK258.out) hg (Kd.R_away HO269.out (fun _ hk => hk))); have n1_ := mkA (hb); have n2_ := mkA (ho); clear BK258; clear HB; clear HO269; have BK258 := n0_; have HB := n1_; have HO273 := n2_; clear n0_ n1_ n2_; clear ho hb hg hat)))
          go_roundg k1
          case measure => have := HK1.out; omega
          case rel => exact ⟨(y271), (true), (wrap64 (x7_1 + 1)), (by first | rfl | (simp; done) | (simp [*]; done)), (by first | rfl | (simp; done) | (simp [*]; done)), H', ⟨by have := HK1.out; omega⟩, ⟨by (with_reducible repeat (first | apply Kd.R_alloc | apply Kd.R_drewN | apply Kd.R_drew)); exact HO273.out⟩, ⟨by (with_reducible repeat (first | refine blk_drewN ?_ _ | refine blk_drew ?_ | refine blk_alloc ?_ _)); exact BK258.out⟩, ⟨by repeat (first | (with_reducible first | exact HB.out | apply below_alloc | apply pw_below_drewN | apply below_drew1 | refine below_set ?_ GE258.out) | exact HB.out)⟩⟩
        ·rw [if_neg c14] at H
         exact absurd H (by simp)
       ·rw [if_neg c13] at H
        exact absurd H (by simp)
      ·rw [if_neg c12] at H
       have c12b0 : (Op.bytesLess a1_0.toList (((rd_T77 l0 x7_1).f0).toList)) = false := by simpa using c12
       have c12b7 := bl_le c12b0
       clear c12
       by_cases c18 : x5_1.length < 5864062014805
       ·rw [if_pos c18] at H
        have LMc18 := mkA c18
        clear c18
        obtain ⟨y275, hy275⟩ : ∃ y_ : List (S77), y_ = (x5_1 ++ [(⟨(rd_T77 l0 x7_1).f0, (rd_T77 l0 x7_1).f1⟩ : S77)]) := ⟨_, rfl⟩
        replace H : (newsreelref10_With.l0 k1 l0 y275 false (wrap64 (x7_1 + 1)) a1_0 a1_1) = some r := by first | (rw [hy275]; with_reducible exact H) | (have H2_ := (Option.bind_some _ _).symm.trans H; rw [hy275]; with_reducible exact H2_) | (have H2_ := (Option.bind_some _ _).symm.trans H; with_reducible exact H2_) | with_reducible exact H | (rw [hy275]; exact H) | exact H
        have Ny275 := mkA hy275
        clear hy275
        as_aux_lemma =>
         have H' := mkA H
         clear H
         have p266 : 0 ≤ (x7_1 : Int) := odt
         have q266 : x7_1 < (l0.length : Int) := odt
         obtain ⟨ad266, e266, hx266_0, hx266_1⟩ := at_T77 HR0.out x7_1 p266 q266
         cases e266
         replace hx266_0 := (cb HB.out hx266_0).trans hx266_0
         replace hx266_1 := (cb HB.out hx266_1).trans hx266_1
         replace p266 := eq_true p266
         replace q266 := eq_true q266
         have hcz19_0 := bc BK258.out 0 (.string a1_0) rfl
         have hcz19_1 := bc BK258.out 1 (.int .i64 a1_1) rfl
         have hfz19_0 := blk_frozen BK258.out 0
         have hfz19_1 := blk_frozen BK258.out 1
         have p274 : 0 ≤ (x7_1 : Int) := odt
         have q274 : x7_1 < (l0.length : Int) := odt
         obtain ⟨ad274, e274, hx274_0, hx274_1⟩ := at_T77 HR0.out x7_1 p274 q274
         obtain rfl : ad266 = ad274 := (by injection e274)
         replace hx274_0 := (cb HB.out hx274_0).trans hx274_0
         replace hx274_1 := (cb HB.out hx274_1).trans hx274_1
         replace p274 := eq_true p274
         replace q274 := eq_true q274
         go_wp2_with (first | ((with_reducible refine gate_builtin (b := .append) (xs := #[.tmp 31, .tmp 36]) rfl ?_); at_builtin; refine Kd.R_append k77 (w0 := w) w.heap.size rfl (.tmp 31) (.tmp 36) 64 77 (.agg #[(.string ⟨#[]⟩), (.int .i64 0)]) 24 rfl Try.underlying64 info77 rfl (by decide) (by omega) u5 x5_1 (⟨(rd_T77 l0 x7_1).f0, (rd_T77 l0 x7_1).f1⟩ : S77) [.string ((rd_T77 l0 x7_1).f0), .int .i64 ((rd_T77 l0 x7_1).f1)] (fun k_ => k_ ≠ gb258) (fun _ => False) rfl rfl ?aP (fun _ hk => hk.elim) ?aF ?aO ?aB ?aS ?aL ?_; (case aP => exact k77_mkM _ _ _ (⟨(rd_T77 l0 x7_1).f0, (rd_T77 l0 x7_1).f1⟩ : S77)); (case aB => exact (below_y HB.out)); (case aF => exact (fun k_ hk => Kd.freshB (blk_y BK258.out) k_ hk)); (case aO => exact (Kd.R_y HO_5.out)); (case aS => exact (below_size (below_y HB.out))); (case aL => have := LMc18.out; omega); intro v276 w20 ho hb hg hat; rw [← Ny275.out] at ho; have n0_ := mkA (blk_grown (blk_y BK258.out) hg (Kd.R_away HO_5.out (fun _ hk => hk))); have n1_ := mkA (hb); have n2_ := mkA (ho); clear BK258; clear HB; clear HO_5; have BK258 := n0_; have HB := n1_; have HO277 := n2_; clear n0_ n1_ n2_; clear ho hb hg hat))
         repeat (go_quiet (first | ((with_reducible refine gate_builtin (b := .append) (xs := #[.tmp 31, .tmp 36]) rfl ?_); at_builtin; refine Kd.R_append k77 (w0 := w) w.heap.size rfl (.tmp 31) (.tmp 36) 64 77 (.agg #[(.string ⟨#[]⟩), (.int .i64 0)]) 24 rfl Try.underlying64 info77 rfl (by decide) (by omega) u5 x5_1 (⟨(rd_T77 l0 x7_1).f0, (rd_T77 l0 x7_1).f1⟩ : S77) [.string ((rd_T77 l0 x7_1).f0), .int .i64 ((rd_T77 l0 x7_1).f1)] (fun k_ => k_ ≠ gb258) (fun _ => False) rfl rfl ?aP (fun _ hk => hk.elim) ?aF ?aO ?aB ?aS ?aL ?_; (case aP => exact k77_mkM _ _ _ (⟨(rd_T77 l0 x7_1).f0, (rd_T77 l0 x7_1).f1⟩ : S77)); (case aB => exact (below_y HB.out)); (case aF => exact (fun k_ hk => Kd.freshB (blk_y BK258.out) k_ hk)); (case aO => exact (Kd.R_y HO_5.out)); (case aS => exact (below_size (below_y HB.out))); (case aL => have := LMc18.out; omega); intro v276 w20 ho hb hg hat; rw [← Ny275.out] at ho; have n0_ := mkA (blk_grown (blk_y BK258.out) hg (Kd.R_away HO_5.out (fun _ hk => hk))); have n1_ := mkA (hb); have n2_ := mkA (ho); clear BK258; clear HB; clear HO_5; have BK258 := n0_; have HB := n1_; have HO277 := n2_; clear n0_ n1_ n2_; clear ho hb hg hat)); try go_wp2_with (first | ((with_reducible refine gate_builtin (b := .append) (xs := #[.tmp 31, .tmp 36]) rfl ?_); at_builtin; refine Kd.R_append k77 (w0 := w) w.heap.size rfl (.tmp 31) (.tmp 36) 64 77 (.agg #[(.string ⟨#[]⟩), (.int .i64 0)]) 24 rfl Try.underlying64 info77 rfl (by decide) (by omega) u5 x5_1 (⟨(rd_T77 l0 x7_1).f0, (rd_T77 l0 x7_1).f1⟩ : S77) [.string ((rd_T77 l0 x7_1).f0), .int .i64 ((rd_T77 l0 x7_1).f1)] (fun k_ => k_ ≠ gb258) (fun _ => False) rfl rfl ?aP (fun _ hk => hk.elim) ?aF ?aO ?aB ?aS ?aL ?_; (case aP => exact k77_mkM _ _ _ (⟨(rd_T77 l0 x7_1).f0, (rd_T77 l0 x7_1).f1⟩ : S77)); (case aB => exact (below_y HB.out)); (case aF => exact (fun k_ hk => Kd.freshB (blk_y BK258.out) k_ hk)); (case aO => exact (Kd.R_y HO_5.out)); (case aS => exact (below_size (below_y HB.out))); (case aL => have := LMc18.out; omega); intro v276 w20 ho hb hg hat; rw [← Ny275.out] at ho; have n0_ := mkA (blk_grown (blk_y BK258.out) hg (Kd.R_away HO_5.out (fun _ hk => hk))); have n1_ := mkA (hb); have n2_ := mkA (ho); clear BK258; clear HB; clear HO_5; have BK258 := n0_; have HB := n1_; have HO277 := n2_; clear n0_ n1_ n2_; clear ho hb hg hat)))
         go_roundg k1
         case measure => have := HK1.out; omega
         case rel => exact ⟨(y275), (false), (wrap64 (x7_1 + 1)), (by first | rfl | (simp; done) | (simp [*]; done)), (by first | rfl | (simp; done) | (simp [*]; done)), H', ⟨by have := HK1.out; omega⟩, ⟨by (with_reducible repeat (first | apply Kd.R_alloc | apply Kd.R_drewN | apply Kd.R_drew)); exact HO277.out⟩, ⟨by (with_reducible repeat (first | refine blk_drewN ?_ _ | refine blk_drew ?_ | refine blk_alloc ?_ _)); exact BK258.out⟩, ⟨by repeat (first | (with_reducible first | exact HB.out | apply below_alloc | apply pw_below_drewN | apply below_drew1 | refine below_set ?_ GE258.out) | exact HB.out)⟩⟩
       ·rw [if_neg c18] at H
        exact absurd H (by simp)
     ·rw [if_neg c11] at H
      exact absurd H (by simp)
   ·rw [if_neg c6] at H
    have c6b0 : decide (x7_1 < (l0.length : Int)) = false := decide_eq_false c6
    clear c6
    by_cases c21 : x6_1 = true
    ·subst c21
     have H1 : (some x5_1) = some r := by rw [if_pos rfl] at H; exact H
     clear H
     have H := H1
     clear H1
     as_aux_lemma =>
      obtain rfl := Option.some.inj H
      go_wp2
      repeat (go_quiet (fail); try go_wp2)
      go_ret
      exact ⟨_, by first | rfl | (simp [errW_none, errW_some] <;> rfl) | (simp [*, errW_none, errW_some] <;> rfl), by (with_reducible repeat (first | apply Kd.R_alloc | apply Kd.R_drewN | apply Kd.R_drew)); exact Kd.R_mono HO_5.out (fun _ hk => trivial), by repeat (first | (with_reducible first | exact HB.out | apply below_alloc | apply pw_below_drewN | apply below_drew1 | refine below_set ?_ GE258.out) | exact HB.out)⟩
    ·replace c21 := Bool.eq_false_iff.mpr c21
     subst c21
     have H1 : (if x5_1.length < 5864062014805 then (some (x5_1 ++ [(⟨a1_0, a1_1⟩ : S77)])) else (none)) = some r := by rw [if_neg (show ¬ (false = true) by decide)] at H; exact H
     clear H
     have H := H1
     clear H1
     by_cases c22 : x5_1.length < 5864062014805
     ·rw [if_pos c22] at H
      have LMc22 := mkA c22
      clear c22
      obtain ⟨y278, hy278⟩ : ∃ y_ : List (S77), y_ = (x5_1 ++ [(⟨a1_0, a1_1⟩ : S77)]) := ⟨_, rfl⟩
      replace H : (some y278) = some r := by first | (rw [hy278]; with_reducible exact H) | (have H2_ := (Option.bind_some _ _).symm.trans H; rw [hy278]; with_reducible exact H2_) | (have H2_ := (Option.bind_some _ _).symm.trans H; with_reducible exact H2_) | with_reducible exact H | (rw [hy278]; exact H) | exact H
      have Ny278 := mkA hy278
      clear hy278
      as_aux_lemma =>
       obtain rfl := Option.some.inj H
       have hcz23_0 := bc BK258.out 0 (.string a1_0) rfl
       have hcz23_1 := bc BK258.out 1 (.int .i64 a1_1) rfl
       have hfz23_0 := blk_frozen BK258.out 0
       have hfz23_1 := blk_frozen BK258.out 1
       go_wp2_with (first | ((with_reducible refine gate_builtin (b := .append) (xs := #[.tmp 40, .tmp 42]) rfl ?_); at_builtin; refine Kd.R_append k77 (w0 := w) w.heap.size rfl (.tmp 40) (.tmp 42) 64 77 (.agg #[(.string ⟨#[]⟩), (.int .i64 0)]) 24 rfl Try.underlying64 info77 rfl (by decide) (by omega) u5 x5_1 (⟨a1_0, a1_1⟩ : S77) [.string a1_0, .int .i64 a1_1] (fun k_ => k_ ≠ gb258) (fun _ => False) rfl rfl ?aP (fun _ hk => hk.elim) ?aF ?aO ?aB ?aS ?aL ?_; (case aP => exact k77_mkM _ _ _ (⟨a1_0, a1_1⟩ : S77)); (case aB => exact (below_y HB.out)); (case aF => exact (fun k_ hk => Kd.freshB (blk_y BK258.out) k_ hk)); (case aO => exact (Kd.R_y HO_5.out)); (case aS => exact (below_size (below_y HB.out))); (case aL => have := LMc22.out; omega); intro v279 w24 ho hb hg hat; rw [← Ny278.out] at ho; have n0_ := mkA (blk_grown (blk_y BK258.out) hg (Kd.R_away HO_5.out (fun _ hk => hk))); have n1_ := mkA (hb); have n2_ := mkA (ho); clear BK258; clear HB; clear HO_5; have BK258 := n0_; have HB := n1_; have HO280 := n2_; clear n0_ n1_ n2_; clear ho hb hg hat))
       repeat (go_quiet (first | ((with_reducible refine gate_builtin (b := .append) (xs := #[.tmp 40, .tmp 42]) rfl ?_); at_builtin; refine Kd.R_append k77 (w0 := w) w.heap.size rfl (.tmp 40) (.tmp 42) 64 77 (.agg #[(.string ⟨#[]⟩), (.int .i64 0)]) 24 rfl Try.underlying64 info77 rfl (by decide) (by omega) u5 x5_1 (⟨a1_0, a1_1⟩ : S77) [.string a1_0, .int .i64 a1_1] (fun k_ => k_ ≠ gb258) (fun _ => False) rfl rfl ?aP (fun _ hk => hk.elim) ?aF ?aO ?aB ?aS ?aL ?_; (case aP => exact k77_mkM _ _ _ (⟨a1_0, a1_1⟩ : S77)); (case aB => exact (below_y HB.out)); (case aF => exact (fun k_ hk => Kd.freshB (blk_y BK258.out) k_ hk)); (case aO => exact (Kd.R_y HO_5.out)); (case aS => exact (below_size (below_y HB.out))); (case aL => have := LMc22.out; omega); intro v279 w24 ho hb hg hat; rw [← Ny278.out] at ho; have n0_ := mkA (blk_grown (blk_y BK258.out) hg (Kd.R_away HO_5.out (fun _ hk => hk))); have n1_ := mkA (hb); have n2_ := mkA (ho); clear BK258; clear HB; clear HO_5; have BK258 := n0_; have HB := n1_; have HO280 := n2_; clear n0_ n1_ n2_; clear ho hb hg hat)); try go_wp2_with (first | ((with_reducible refine gate_builtin (b := .append) (xs := #[.tmp 40, .tmp 42]) rfl ?_); at_builtin; refine Kd.R_append k77 (w0 := w) w.heap.size rfl (.tmp 40) (.tmp 42) 64 77 (.agg #[(.string ⟨#[]⟩), (.int .i64 0)]) 24 rfl Try.underlying64 info77 rfl (by decide) (by omega) u5 x5_1 (⟨a1_0, a1_1⟩ : S77) [.string a1_0, .int .i64 a1_1] (fun k_ => k_ ≠ gb258) (fun _ => False) rfl rfl ?aP (fun _ hk => hk.elim) ?aF ?aO ?aB ?aS ?aL ?_; (case aP => exact k77_mkM _ _ _ (⟨a1_0, a1_1⟩ : S77)); (case aB => exact (below_y HB.out)); (case aF => exact (fun k_ hk => Kd.freshB (blk_y BK258.out) k_ hk)); (case aO => exact (Kd.R_y HO_5.out)); (case aS => exact (below_size (below_y HB.out))); (case aL => have := LMc22.out; omega); intro v279 w24 ho hb hg hat; rw [← Ny278.out] at ho; have n0_ := mkA (blk_grown (blk_y BK258.out) hg (Kd.R_away HO_5.out (fun _ hk => hk))); have n1_ := mkA (hb); have n2_ := mkA (ho); clear BK258; clear HB; clear HO_5; have BK258 := n0_; have HB := n1_; have HO280 := n2_; clear n0_ n1_ n2_; clear ho hb hg hat)))
       go_ret
       exact ⟨_, by first | rfl | (simp [errW_none, errW_some] <;> rfl) | (simp [*, errW_none, errW_some] <;> rfl), by (with_reducible repeat (first | apply Kd.R_alloc | apply Kd.R_drewN | apply Kd.R_drew)); exact Kd.R_mono HO280.out (fun _ hk => trivial), by repeat (first | (with_reducible first | exact HB.out | apply below_alloc | apply pw_below_drewN | apply below_drew1 | refine below_set ?_ GE258.out) | exact HB.out)⟩
     ·rw [if_neg c22] at H
      exact absurd H (by simp)

end Go.Proofs.Ytkkikdjfigffhab.XDir
