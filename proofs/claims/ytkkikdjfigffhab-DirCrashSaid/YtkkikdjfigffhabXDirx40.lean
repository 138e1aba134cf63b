-- By a program of this work (xprint.py) over the translation; Lean checks it.
import Derived.Test.YtkkikdjfigffhabXDirx0
import Derived.Test.YtkkikdjfigffhabXDirx34
import Derived.Test.YtkkikdjfigffhabXDirx37
namespace Go.Proofs.Ytkkikdjfigffhab.XDir
open Go.RowKit Go.Proofs.YtkkikdjfigffhabW.PrintWords Go.Proofs.YtkkikdjfigffhabW.PrintLast Go.Proofs.YtkkikdjfigffhabW.PrintMore
attribute [local go_sem] max2_int min2_int max_two min_two max_three min_three max_four min_four   -- for this text's walks alone
set_option linter.unusedVariables false
set_option linter.unusedSimpArgs false

/-! ### newsreelref10_Made: function 55 -/
mutual
def newsreelref10_Made.l0 : Nat → List (S69) → List Bool → Int → List (S77) → List (S77) → List (S69) → Option ((List (S77)) × (List (S77)) × (List (S69)))
 | 0, _, _, _, _, _, _ => none
 | k + 1, x0, x1, x6, x473000, x473001, x473002 => if x6 < (x0.length : Int) then (if x6 < (x1.length : Int) then (if 0 ≤ x6 then (newsreelref10_Made.j1 k x0 x1 x6 (rdOf false x1 x6) x473000 x473001 x473002) else (none)) else (newsreelref10_Made.j1 k x0 x1 x6 false x473000 x473001 x473002)) else (some (x473000, x473001, x473002))
def newsreelref10_Made.j1 : Nat → List (S69) → List Bool → Int → Bool → List (S77) → List (S77) → List (S69) → Option ((List (S77)) × (List (S77)) × (List (S69)))
 | 0, _, _, _, _, _, _, _ => none
 | k + 1, x0, x1, x6, x25, x473000, x473001, x473002 => if x25 = true then ((newsreelref10_Sync.f k x473000 x473001 x473002).bind fun bt474 => (if 0 ≤ x6 then (if x6 < (x0.length : Int) then ((newsreelref10_Do.f k bt474.1 bt474.2.1 bt474.2.2 ((rd_T69 x0 x6).f0) ((rd_T69 x0 x6).f1) ((rd_T69 x0 x6).f2) ((rd_T69 x0 x6).f3)).bind fun bt484 => (if bt484.2.2.2 = 0 then (newsreelref10_Made.l0 k x0 x1 (wrap64 (x6 + 1)) bt484.1 bt484.2.1 bt484.2.2.1) else (newsreelref10_Made.l0 k x0 x1 (wrap64 (x6 + 1)) bt474.1 bt474.2.1 bt474.2.2))) else (none)) else (none))) else (if 0 ≤ x6 then (if x6 < (x0.length : Int) then ((newsreelref10_Do.f k x473000 x473001 x473002 ((rd_T69 x0 x6).f0) ((rd_T69 x0 x6).f1) ((rd_T69 x0 x6).f2) ((rd_T69 x0 x6).f3)).bind fun bt496 => (if bt496.2.2.2 = 0 then (newsreelref10_Made.l0 k x0 x1 (wrap64 (x6 + 1)) bt496.1 bt496.2.1 bt496.2.2.1) else (newsreelref10_Made.l0 k x0 x1 (wrap64 (x6 + 1)) x473000 x473001 x473002))) else (none)) else (none))
end
def newsreelref10_Made.f (k : Nat) (l0 : List (S69)) (l1 : List Bool) : Option ((List (S77)) × (List (S77)) × (List (S69))) := newsreelref10_Made.l0 k l0 l1 0 ([] : List (S77)) ([] : List (S77)) ([] : List (S69))
theorem newsreelref10_Made.mono_l : ∀ k, (∀ y0 y1 y2 y3 y4 y5, LeO (newsreelref10_Made.l0 k y0 y1 y2 y3 y4 y5) (newsreelref10_Made.l0 (k + 1) y0 y1 y2 y3 y4 y5)) ∧ (∀ y0 y1 y2 y3 y4 y5 y6, LeO (newsreelref10_Made.j1 k y0 y1 y2 y3 y4 y5 y6) (newsreelref10_Made.j1 (k + 1) y0 y1 y2 y3 y4 y5 y6))
 | 0 => ⟨fun _ _ _ _ _ _ r h => by simp [newsreelref10_Made.l0] at h, fun _ _ _ _ _ _ _ r h => by simp [newsreelref10_Made.j1] at h⟩
 | k + 1 => by
  obtain ⟨ih0, ih1⟩ := newsreelref10_Made.mono_l k
  refine ⟨?_, ?_⟩
  ·intro y0 y1 y2 y3 y4 y5
   unfold newsreelref10_Made.l0
   repeat' first
   | (with_reducible exact ih0 _ _ _ _ _ _)
   | (with_reducible exact ih1 _ _ _ _ _ _ _)
   | (with_reducible exact newsreelref10_Do.mono _ _ _ _ _ _ _ _)
   | (with_reducible exact newsreelref10_Sync.mono _ _ _ _)
   | (with_reducible exact LeO.refl _)
   | (with_reducible exact LeO.none _)
   | (with_reducible refine LeO.ite ?_ ?_)
   | (with_reducible refine LeO.bind ?_ (fun _ => ?_))
   | exact ih0 _ _ _ _ _ _
   | exact ih1 _ _ _ _ _ _ _
   | exact newsreelref10_Do.mono _ _ _ _ _ _ _ _
   | exact newsreelref10_Sync.mono _ _ _ _
   | exact LeO.none _
   | refine LeO.ite ?_ ?_
   | refine LeO.bind ?_ (fun _ => ?_)
  ·intro y0 y1 y2 y3 y4 y5 y6
   unfold newsreelref10_Made.j1
   repeat' first
   | (with_reducible exact ih0 _ _ _ _ _ _)
   | (with_reducible exact ih1 _ _ _ _ _ _ _)
   | (with_reducible exact newsreelref10_Do.mono _ _ _ _ _ _ _ _)
   | (with_reducible exact newsreelref10_Sync.mono _ _ _ _)
   | (with_reducible exact LeO.refl _)
   | (with_reducible exact LeO.none _)
   | (with_reducible refine LeO.ite ?_ ?_)
   | (with_reducible refine LeO.bind ?_ (fun _ => ?_))
   | exact ih0 _ _ _ _ _ _
   | exact ih1 _ _ _ _ _ _ _
   | exact newsreelref10_Do.mono _ _ _ _ _ _ _ _
   | exact newsreelref10_Sync.mono _ _ _ _
   | exact LeO.none _
   | refine LeO.ite ?_ ?_
   | refine LeO.bind ?_ (fun _ => ?_)
theorem newsreelref10_Made.mono : ∀ a0 a1 k, LeO (newsreelref10_Made.f k a0 a1) (newsreelref10_Made.f (k + 1) a0 a1) := by
 intro a0 a1 k
 obtain ⟨ih0, ih1⟩ := newsreelref10_Made.mono_l k
 unfold newsreelref10_Made.f
 repeat' first
   | (with_reducible exact ih0 _ _ _ _ _ _)
   | (with_reducible exact ih1 _ _ _ _ _ _ _)
   | (with_reducible exact newsreelref10_Do.mono _ _ _ _ _ _ _ _)
   | (with_reducible exact newsreelref10_Sync.mono _ _ _ _)
   | (with_reducible exact LeO.refl _)
   | (with_reducible exact LeO.none _)
   | (with_reducible refine LeO.ite ?_ ?_)
   | (with_reducible refine LeO.bind ?_ (fun _ => ?_))
   | exact ih0 _ _ _ _ _ _
   | exact ih1 _ _ _ _ _ _ _
   | exact newsreelref10_Do.mono _ _ _ _ _ _ _ _
   | exact newsreelref10_Sync.mono _ _ _ _
   | exact LeO.none _
   | refine LeO.ite ?_ ?_
   | refine LeO.bind ?_ (fun _ => ?_)
def newsreelref10_Made.T7 : Bool × List (List Nat × List Nat) := (true, [([], []), ([], []), ([], []), ([1, 2], [1, 2]), ([3], [3]), ([0, 4], [0, 4]), ([5], [5]), ([6], [6]), ([6], [6]), ([], []), ([9, 7, 5, 0, 1, 2, 3, 4, 5, 6, 7, 9], [7, 9]), ([8, 10, 0, 1, 2, 3, 4, 5, 6, 7, 8, 9, 10], [8])])
def newsreelref10_Made.B7 : List Nat := [0, 0, 0, 6, 14, 31, 63, 127, 127, 0, 767, 2047]
theorem newsreelref10_Made.tab7 : rtab .any (opsOf Try.f55 7) = newsreelref10_Made.T7 := by kernel_rfl
theorem newsreelref10_Made.bits7 : waitsOk newsreelref10_Made.T7.2 newsreelref10_Made.B7 = true := by kernel_rfl
set_option maxHeartbeats 8000000 in
set_option maxRecDepth 100000 in
theorem newsreelref10_Made.calls (k : Nat) (A0 : Option Addr) (c0 : Nat) (l0 : List (S69)) (A1 : Option Addr) (c1 : Nat) (l1 : List Bool) (r1 : List (S77)) (r2 : List (S77)) (r3 : List (S69)) (w : World) (hr0 : Kd.C k69 w A0 l0.length l0) (hc0 : l0.length ≤ c0) (hr1 : Kd.C Kd.bool w A1 l1.length l1) (hc1 : l1.length ≤ c1) (h : newsreelref10_Made.f k l0 l1 = some (r1, r2, r3)) :
  Calls Try.prog 55 #[.slice A0 l0.length c0, .slice A1 l1.length c1] w fun e w' => ∃ v0_ v1_ v2_ : Value, e = .returned (.agg #[v0_, v1_, v2_]) ∧ Kd.V k77 77 w' w.heap.size (fun k_ => (w.heap.size ≤ k_) ∧ some k_ ≠ (v2_ : Value).ownBlock) v0_ r1 ∧ Kd.V k77 77 w' w.heap.size (fun k_ => (w.heap.size ≤ k_) ∧ some k_ ≠ (v2_ : Value).ownBlock) v1_ r2 ∧ Kd.R k69 69 w' w.heap.size (fun k_ => (w.heap.size ≤ k_)) v2_ r3 ∧ Below w.heap.size w w' := by
 have hu67 := Try.underlying67
 have hu69 := Try.underlying69
 have HR0 := mkA hr0
 have HC0 := mkA hc0
 clear hr0 hc0
 have HR1 := mkA hr1
 have HC1 := mkA hc1
 clear hr1 hc1
 have HB := mkA (Below.refl w.heap.size w)
 have H : (newsreelref10_Made.l0 k l0 l1 0 ([] : List (S77)) ([] : List (S77)) ([] : List (S69))) = some (r1, r2, r3) := h
 clear h
 have H' := mkA H
 clear H
 go_enter Try.func55, Try.ntmps55
 go_wp2_with (first | ((with_reducible refine gate_dst (N := 4) rfl ?_); refine box_event ?hg (N := 4) ?hd (cs := #[.slice none 0 0, .slice none 0 0, .slice none 0 0]) (t := 67) ?hr ?_; (case hd => rfl); (case hg => rfl); (case hr => first | (go_simp; done) | (go_simp; rfl)); intro gb471 hg w3 hbox hb; have n0_ := mkA (below_step (below_y HB.out) hb); have n1_ := mkA (hbox); have n2_ := mkA ((gz hg HB.out : w.heap.size ≤ gb471)); have n3_ := mkA ((gz hg HB.out : w.heap.size ≤ gb471)); clear HB; have HB := n0_; have BK471 := n1_; have GW471 := n2_; have GE471 := n3_; clear n0_ n1_ n2_ n3_; clear hb hbox hg) | ((with_reducible refine gate_dst (N := 5) rfl ?_); refine box_event ?hg (N := 5) ?hd (cs := #[.slice none 0 0, .slice none 0 0, .slice none 0 0]) (t := 67) ?hr ?_; (case hd => rfl); (case hg => rfl); (case hr => first | (go_simp; done) | (go_simp; rfl)); intro gb472 hg w4 hbox hb; have n0_ := mkA (blk_below (blk_y BK471.out) hb); have n1_ := mkA (below_step (below_y HB.out) hb); have n2_ := mkA (hbox); have n3_ := mkA ((gz hg HB.out : w.heap.size ≤ gb472)); have n4_ := mkA ((gz hg HB.out : w.heap.size ≤ gb472)); have n5_ := mkA ((gn hg BK471.out : gb471 ≠ gb472)); have n6_ := mkA ((gm hg BK471.out : gb472 ≠ gb471)); clear BK471; clear HB; have BK471 := n0_; have HB := n1_; have BK472 := n2_; have GW472 := n3_; have GE472 := n4_; have NB471_472 := n5_; have NB472_471 := n6_; clear n0_ n1_ n2_ n3_ n4_ n5_ n6_; clear hb hbox hg; have hnb5 := NB472_471.out; have hnc5 := NB471_472.out; have hcz6_0 := bc BK472.out 0 (.slice none 0 0) rfl; have hcz6_1 := bc BK472.out 1 (.slice none 0 0) rfl; have hcz6_2 := bc BK472.out 2 (.slice none 0 0) rfl; have hfz6_0 := blk_frozen BK472.out 0; have hfz6_1 := blk_frozen BK472.out 1; have hfz6_2 := blk_frozen BK472.out 2))
 go_loopg [6] k (fun kq v6 w' => ∃ (x6_1 : Int) (x473000_1 : List (S77)) (x473001_1 : List (S77)) (x473002_1 : List (S69)) (u473000 : Value) (u473001 : Value) (u473002 : Value), v6 = .int .i64 x6_1 ∧ Aside0 (newsreelref10_Made.l0 kq l0 l1 x6_1 x473000_1 x473001_1 x473002_1 = some (r1, r2, r3)) ∧ Aside0 (kq ≤ k) ∧ Aside0 (Kd.V k77 77 w' w.heap.size (fun k_ => (w.heap.size ≤ k_) ∧ some k_ ≠ (u473002 : Value).ownBlock ∧ k_ ≠ gb471 ∧ k_ ≠ gb472) u473000 x473000_1) ∧ Aside0 (Kd.V k77 77 w' w.heap.size (fun k_ => (w.heap.size ≤ k_) ∧ some k_ ≠ (u473002 : Value).ownBlock ∧ k_ ≠ gb471 ∧ k_ ≠ gb472) u473001 x473001_1) ∧ Aside0 (Kd.R k69 69 w' w.heap.size (fun k_ => (w.heap.size ≤ k_)) u473002 x473002_1) ∧ Aside0 (w'.heap[gb471]? = some (.cells #[(.slice none 0 0), (.slice none 0 0), (.slice none 0 0)] 67 (0, 0))) ∧ Aside0 (w'.heap[gb472]? = some (.cells #[u473000, u473001, u473002] 67 (0, 0))) ∧ Aside0 (Below w.heap.size w w'))
 case atStart => exact ⟨(0), (([] : List (S77))), (([] : List (S77))), (([] : List (S69))), (.slice none 0 0), (.slice none 0 0), (.slice none 0 0), (by first | rfl | (simp; done) | (simp [*]; done)), H', ⟨Nat.le_refl _⟩, ⟨(by first | exact Kd.V_nil _ _ _ _ _ | exact Kd.R_V (by first | exact Kd.R_nil _ _ _ _ _ | exact Kd.N_nil _ _ _ _ _ | exact Kd.V_nil _ _ _ _ _ | exact Kd.Q_nil _ _ _ _ _ | exact Kd.S_nil _ _ _ _ _))⟩, ⟨(by first | exact Kd.V_nil _ _ _ _ _ | exact Kd.R_V (by first | exact Kd.R_nil _ _ _ _ _ | exact Kd.N_nil _ _ _ _ _ | exact Kd.V_nil _ _ _ _ _ | exact Kd.Q_nil _ _ _ _ _ | exact Kd.S_nil _ _ _ _ _))⟩, ⟨by first | exact Kd.R_nil _ _ _ _ _ | exact Kd.N_nil _ _ _ _ _ | exact Kd.V_nil _ _ _ _ _ | exact Kd.Q_nil _ _ _ _ _ | exact Kd.S_nil _ _ _ _ _⟩, ⟨by (iterate 3 ((with_reducible repeat (first | refine blk_drewN ?_ _ | refine blk_drew ?_ | refine blk_alloc ?_ _)); refine blk_far ?_ NB471_472.out _)); (with_reducible repeat (first | refine blk_drewN ?_ _ | refine blk_drew ?_ | refine blk_alloc ?_ _)); exact BK471.out⟩, ⟨by (with_reducible repeat (first | refine blk_drewN ?_ _ | refine blk_drew ?_ | refine blk_alloc ?_ _)); refine blk_put (cs := #[.slice none 0 0, .slice none 0 0, .slice none 0 0]) ?_ 2 _ rfl; (with_reducible repeat (first | refine blk_drewN ?_ _ | refine blk_drew ?_ | refine blk_alloc ?_ _)); refine blk_put (cs := #[.slice none 0 0, .slice none 0 0, .slice none 0 0]) ?_ 1 _ rfl; (with_reducible repeat (first | refine blk_drewN ?_ _ | refine blk_drew ?_ | refine blk_alloc ?_ _)); refine blk_put (cs := #[.slice none 0 0, .slice none 0 0, .slice none 0 0]) ?_ 0 _ rfl; (with_reducible repeat (first | refine blk_drewN ?_ _ | refine blk_drew ?_ | refine blk_alloc ?_ _)); exact BK472.out⟩, ⟨by repeat (first | (with_reducible first | exact HB.out | apply below_alloc | apply pw_below_drewN | apply below_drew1 | refine below_set ?_ GE471.out | refine below_set ?_ GE472.out) | exact HB.out)⟩⟩
 clear H'
 try clear c1
 try clear p2
 try clear c5
 try clear hcz6_0
 try clear hcz6_1
 try clear hcz6_2
 try clear hfz6_0
 try clear hfz6_1
 try clear hfz6_2
 obtain ⟨x6_1, x473000_1, x473001_1, x473002_1, u473000, u473001, u473002, rfl, HA, HK1, HO_473000, HO_473001, HO_473002, BK471, BK472, HB⟩ := hrel
 rcases gk with _ | k1
 ·exact absurd HA.out (by simp [newsreelref10_Made.l0])
 have H := HA.out
 clear HA
 simp only [newsreelref10_Made.l0] at H
 by_cases c7 : x6_1 < (l0.length : Int)
 rotate_left
 ·rw [if_neg c7] at H
  have c7b0 : decide (x6_1 < (l0.length : Int)) = false := decide_eq_false c7
  clear c7
  as_aux_lemma =>
   simp only [Option.some.injEq, Prod.mk.injEq] at H
   obtain ⟨rfl, rfl, rfl⟩ := H
   have hnb98 := NB472_471.out
   have hnc98 := NB471_472.out
   have hcz99_0 := bc BK472.out 0 (u473000) rfl
   have hcz99_1 := bc BK472.out 1 (u473001) rfl
   have hcz99_2 := bc BK472.out 2 (u473002) rfl
   have hfz99_0 := blk_frozen BK472.out 0
   have hfz99_1 := blk_frozen BK472.out 1
   have hfz99_2 := blk_frozen BK472.out 2
   obtain ⟨Ao100, co100, eo100⟩ := Kd.V_slice HO_473000.out
   subst eo100
   have hcz101_0 := bc BK471.out 0 (.slice none 0 0) rfl
   have hcz101_1 := bc BK471.out 1 (.slice none 0 0) rfl
   have hcz101_2 := bc BK471.out 2 (.slice none 0 0) rfl
   have hfz101_0 := blk_frozen BK471.out 0
   have hfz101_1 := blk_frozen BK471.out 1
   have hfz101_2 := blk_frozen BK471.out 2
   obtain ⟨Ao102, co102, eo102⟩ := Kd.V_slice HO_473001.out
   subst eo102
   obtain ⟨Ao103, co103, eo103⟩ := Kd.R_slice HO_473002.out
   subst eo103
   go_wp2
   refine bodyPost_ret (results_cell_row rfl _ _ gb471 67 #[.slice Ao100 x473000_1.length co100, .slice Ao102 x473001_1.length co102, .slice Ao103 x473002_1.length co103] (0, 0) _ rfl (by (with_reducible repeat (first | refine blk_drewN ?_ _ | refine blk_drew ?_ | refine blk_alloc ?_ _)); refine blk_put (cs := #[.slice Ao100 x473000_1.length co100, .slice Ao102 x473001_1.length co102, .slice none 0 0]) ?_ 2 _ rfl; (with_reducible repeat (first | refine blk_drewN ?_ _ | refine blk_drew ?_ | refine blk_alloc ?_ _)); refine blk_put (cs := #[.slice Ao100 x473000_1.length co100, .slice none 0 0, .slice none 0 0]) ?_ 1 _ rfl; (with_reducible repeat (first | refine blk_drewN ?_ _ | refine blk_drew ?_ | refine blk_alloc ?_ _)); refine blk_put (cs := #[.slice none 0 0, .slice none 0 0, .slice none 0 0]) ?_ 0 _ rfl; (with_reducible repeat (first | refine blk_drewN ?_ _ | refine blk_drew ?_ | refine blk_alloc ?_ _)); exact BK471.out) Try.underlying67 rfl (by kernel_rfl)) rfl ?_
   exact ⟨_, _, _, by first | rfl | (simp [errW_none, errW_some] <;> rfl) | (simp [*, errW_none, errW_some] <;> rfl), by (with_reducible repeat (first | apply Kd.V_alloc | apply Kd.V_drewN | apply Kd.V_drew)); exact Kd.V_mono (Kd.V_far (p := ⟨gb471, 2, none⟩) (Kd.V_far (p := ⟨gb471, 1, none⟩) (Kd.V_far (p := ⟨gb471, 0, none⟩) (Kd.V_mono HO_473000.out (fun k_ hk => (⟨hk, hk.2.2.1⟩ : _ ∧ k_ ≠ gb471))) (fun _ hk => hk.2) (.slice Ao100 x473000_1.length co100)) (fun _ hk => hk.2) (.slice Ao102 x473001_1.length co102)) (fun _ hk => hk.2) (.slice Ao103 x473002_1.length co103)) (fun _ hk => ⟨hk.1.1, hk.1.2.1⟩), by (with_reducible repeat (first | apply Kd.V_alloc | apply Kd.V_drewN | apply Kd.V_drew)); exact Kd.V_mono (Kd.V_far (p := ⟨gb471, 2, none⟩) (Kd.V_far (p := ⟨gb471, 1, none⟩) (Kd.V_far (p := ⟨gb471, 0, none⟩) (Kd.V_mono HO_473001.out (fun k_ hk => (⟨hk, hk.2.2.1⟩ : _ ∧ k_ ≠ gb471))) (fun _ hk => hk.2) (.slice Ao100 x473000_1.length co100)) (fun _ hk => hk.2) (.slice Ao102 x473001_1.length co102)) (fun _ hk => hk.2) (.slice Ao103 x473002_1.length co103)) (fun _ hk => ⟨hk.1.1, hk.1.2.1⟩), by (with_reducible repeat (first | apply Kd.R_alloc | apply Kd.R_drewN | apply Kd.R_drew)); exact Kd.R_mono (Kd.R_far (p := ⟨gb471, 2, none⟩) (Kd.R_far (p := ⟨gb471, 1, none⟩) (Kd.R_far (p := ⟨gb471, 0, none⟩) (Kd.R_types HO_473002.out BK471.out (by decide)) (fun _ hk => hk.2) (.slice Ao100 x473000_1.length co100)) (fun _ hk => hk.2) (.slice Ao102 x473001_1.length co102)) (fun _ hk => hk.2) (.slice Ao103 x473002_1.length co103)) (fun _ hk => hk.1), by repeat (first | (with_reducible first | exact HB.out | apply below_alloc | apply pw_below_drewN | apply below_drew1 | refine below_set ?_ GE471.out | refine below_set ?_ GE472.out) | exact HB.out)⟩
 rw [if_pos c7] at H
 have c7b0 : decide (x6_1 < (l0.length : Int)) = true := decide_eq_true c7
 clear c7
 have HC8 := mkA H
 clear H
 go_upto_region 5 with (fail)
 go_cut [25] (fun v25 wc => ∃ (kq : Nat) (x25_7 : Bool), v25 = .bool x25_7 ∧ Aside0 (newsreelref10_Made.j1 kq l0 l1 x6_1 x25_7 x473000_1 x473001_1 x473002_1 = some (r1, r2, r3)) ∧ Aside0 (kq ≤ k1) ∧ Aside0 (Kd.V k77 77 wc w.heap.size (fun k_ => (w.heap.size ≤ k_) ∧ some k_ ≠ (u473002 : Value).ownBlock ∧ k_ ≠ gb471 ∧ k_ ≠ gb472) u473000 x473000_1) ∧ Aside0 (Kd.V k77 77 wc w.heap.size (fun k_ => (w.heap.size ≤ k_) ∧ some k_ ≠ (u473002 : Value).ownBlock ∧ k_ ≠ gb471 ∧ k_ ≠ gb472) u473001 x473001_1) ∧ Aside0 (Kd.R k69 69 wc w.heap.size (fun k_ => (w.heap.size ≤ k_)) u473002 x473002_1) ∧ Aside0 (wc.heap[gb471]? = some (.cells #[(.slice none 0 0), (.slice none 0 0), (.slice none 0 0)] 67 (0, 0))) ∧ Aside0 (wc.heap[gb472]? = some (.cells #[u473000, u473001, u473002] 67 (0, 0))) ∧ Aside0 (Below w.heap.size w wc))
 case first =>
  have H := HC8.out
  clear HC8
  by_cases c9 : x6_1 < (l1.length : Int)
  ·rw [if_pos c9] at H
   have c9b0 : decide (x6_1 < (l1.length : Int)) = true := decide_eq_true c9
   clear c9
   (first | rw [c9b0] | (simp only [i64_w, i32_w]; rw [c9b0]) | skip)
   by_cases c10 : 0 ≤ x6_1
   ·rw [if_pos c10] at H
    have c10b0 : decide (0 ≤ x6_1) = true := decide_eq_true c10
    clear c10
    as_aux_lemma =>
     have H' := mkA H
     clear H
     have p473 : 0 ≤ (x6_1 : Int) := odt
     have q473 : x6_1 < (l1.length : Int) := odt
     obtain ⟨ad473, e473, hx473_0⟩ := Kd.at_bool HR1.out x6_1 p473 q473
     cases e473
     replace hx473_0 := (cb HB.out hx473_0).trans hx473_0
     replace p473 := eq_true p473
     replace q473 := eq_true q473
     go_wp2
     go_meet
     case rel => exact ⟨_, (rdOf false l1 x6_1), (by first | rfl | (simp; done) | (simp [*]; done)), H', ⟨by have := HK1.out; first | omega | exact Nat.le_refl _⟩, ⟨by (with_reducible repeat (first | apply Kd.V_alloc | apply Kd.V_drewN | apply Kd.V_drew)); exact HO_473000.out⟩, ⟨by (with_reducible repeat (first | apply Kd.V_alloc | apply Kd.V_drewN | apply Kd.V_drew)); exact HO_473001.out⟩, ⟨by (with_reducible repeat (first | apply Kd.R_alloc | apply Kd.R_drewN | apply Kd.R_drew)); exact HO_473002.out⟩, ⟨by (with_reducible repeat (first | refine blk_drewN ?_ _ | refine blk_drew ?_ | refine blk_alloc ?_ _)); exact BK471.out⟩, ⟨by (with_reducible repeat (first | refine blk_drewN ?_ _ | refine blk_drew ?_ | refine blk_alloc ?_ _)); exact BK472.out⟩, ⟨by repeat (first | (with_reducible first | exact HB.out | apply below_alloc | apply pw_below_drewN | apply below_drew1 | refine below_set ?_ GE471.out | refine below_set ?_ GE472.out) | exact HB.out)⟩⟩
   ·rw [if_neg c10] at H
    exact absurd H (by simp)
  ·rw [if_neg c9] at H
   have c9b0 : decide (x6_1 < (l1.length : Int)) = false := decide_eq_false c9
   clear c9
   (first | rw [c9b0] | (simp only [i64_w, i32_w]; rw [c9b0]) | skip)
   as_aux_lemma =>
    have H' := mkA H
    clear H
    go_wp2
    go_meet
    case rel => exact ⟨_, (false), (by first | rfl | (simp; done) | (simp [*]; done)), H', ⟨by have := HK1.out; first | omega | exact Nat.le_refl _⟩, ⟨by (with_reducible repeat (first | apply Kd.V_alloc | apply Kd.V_drewN | apply Kd.V_drew)); exact HO_473000.out⟩, ⟨by (with_reducible repeat (first | apply Kd.V_alloc | apply Kd.V_drewN | apply Kd.V_drew)); exact HO_473001.out⟩, ⟨by (with_reducible repeat (first | apply Kd.R_alloc | apply Kd.R_drewN | apply Kd.R_drew)); exact HO_473002.out⟩, ⟨by (with_reducible repeat (first | refine blk_drewN ?_ _ | refine blk_drew ?_ | refine blk_alloc ?_ _)); exact BK471.out⟩, ⟨by (with_reducible repeat (first | refine blk_drewN ?_ _ | refine blk_drew ?_ | refine blk_alloc ?_ _)); exact BK472.out⟩, ⟨by repeat (first | (with_reducible first | exact HB.out | apply below_alloc | apply pw_below_drewN | apply below_drew1 | refine below_set ?_ GE471.out | refine below_set ?_ GE472.out) | exact HB.out)⟩⟩
 clear HC8
 try clear c1
 try clear p2
 try clear p4
 try clear q4
 try clear hx4
 try clear c5
 try clear c7
 try clear c7b0
 try clear c9
 try clear c9b0
 try clear c10
 try clear c10b0
 try clear hcz6_0
 try clear hcz6_1
 try clear hcz6_2
 try clear hfz6_0
 try clear hfz6_1
 try clear hfz6_2
 try clear hx473_0
 try clear p2
 try clear p473
 try clear q473
 obtain ⟨kq, x25_7, rfl, HA, HJ7, HO_473000, HO_473001, HO_473002, BK471, BK472, HB⟩ := hcut
 rcases kq with _ | kj7
 ·exact absurd HA.out (by simp [newsreelref10_Made.j1])
 have H := HA.out
 clear HA
 simp only [newsreelref10_Made.j1] at H
 by_cases c11 : x25_7 = true
 rotate_left
 ·replace c11 := Bool.eq_false_iff.mpr c11
  subst c11
  have H1 : (if 0 ≤ x6_1 then (if x6_1 < (l0.length : Int) then ((newsreelref10_Do.f kj7 x473000_1 x473001_1 x473002_1 ((rd_T69 l0 x6_1).f0) ((rd_T69 l0 x6_1).f1) ((rd_T69 l0 x6_1).f2) ((rd_T69 l0 x6_1).f3)).bind fun bt496 => (if bt496.2.2.2 = 0 then (newsreelref10_Made.l0 kj7 l0 l1 (wrap64 (x6_1 + 1)) bt496.1 bt496.2.1 bt496.2.2.1) else (newsreelref10_Made.l0 kj7 l0 l1 (wrap64 (x6_1 + 1)) x473000_1 x473001_1 x473002_1))) else (none)) else (none)) = some (r1, r2, r3) := by rw [if_neg (show ¬ (false = true) by decide)] at H; exact H
  clear H
  have H := H1
  clear H1
  by_cases c63 : 0 ≤ x6_1
  ·rw [if_pos c63] at H
   have c63b0 : decide (0 ≤ x6_1) = true := decide_eq_true c63
   clear c63
   by_cases c64 : x6_1 < (l0.length : Int)
   ·rw [if_pos c64] at H
    have c64b0 : decide (x6_1 < (l0.length : Int)) = true := decide_eq_true c64
    clear c64
    replace H := Option.bind_eq_some_iff.mp H
    obtain ⟨⟨t496, t499, t502, t505⟩, A650, H⟩ := H
    replace H : (if t505 = 0 then (newsreelref10_Made.l0 kj7 l0 l1 (wrap64 (x6_1 + 1)) t496 t499 t502) else (newsreelref10_Made.l0 kj7 l0 l1 (wrap64 (x6_1 + 1)) x473000_1 x473001_1 x473002_1)) = some (r1, r2, r3) := H
    have A65 := mkA A650
    clear A650
    by_cases c66 : t505 = 0
    ·rw [if_pos c66] at H
     have c66b0 : (t505 == 0) = true := beq_iff_eq.mpr c66
     have c66b1 : (t505 != 0) = false := bne_eq_false_iff_eq.mpr c66
     clear c66
     as_aux_lemma =>
      have H' := mkA H
      clear H
      obtain ⟨Ao67, co67, eo67⟩ := Kd.V_slice HO_473000.out
      subst eo67
      obtain ⟨Ao68, co68, eo68⟩ := Kd.V_slice HO_473001.out
      subst eo68
      obtain ⟨Ao69, co69, eo69⟩ := Kd.R_slice HO_473002.out
      subst eo69
      try go_wp2
      have n0_ := mkA (Kd.V_drew HO_473000.out)
      have n1_ := mkA (Kd.V_drew HO_473001.out)
      have n2_ := mkA (Kd.R_drew HO_473002.out)
      have n3_ := mkA (blk_drew BK471.out)
      have n4_ := mkA (blk_drew BK472.out)
      have n5_ := mkA (below_drew1 HB.out)
      clear HO_473000 HO_473001 HO_473002 BK471 BK472 HB
      have HO_473000 := n0_
      have HO_473001 := n1_
      have HO_473002 := n2_
      have BK471 := n3_
      have BK472 := n4_
      have HB := n5_
      clear n0_ n1_ n2_ n3_ n4_ n5_
      have p495 : 0 ≤ (x6_1 : Int) := odt
      have q495 : x6_1 < (l0.length : Int) := odt
      obtain ⟨ad495, e495, hx495_0, hx495_1, hx495_2, hx495_3⟩ := at_T69 HR0.out x6_1 p495 q495
      have hw495_3 := hx495_3
      have hw495_2 := hx495_2
      have hw495_1 := hx495_1
      have hw495_0 := hx495_0
      cases e495
      replace hx495_0 := (cb HB.out hx495_0).trans hx495_0
      replace hx495_1 := (cb HB.out hx495_1).trans hx495_1
      replace hx495_2 := (cb HB.out hx495_2).trans hx495_2
      replace hx495_3 := (cb HB.out hx495_3).trans hx495_3
      replace p495 := eq_true p495
      replace q495 := eq_true q495
      refine start_ (n := 12) (S := fun w' => w'.cell? ⟨gb472, 0, none⟩ = some (.slice Ao67 x473000_1.length co67) ∧ w'.cell? ⟨gb472, 1, none⟩ = some (.slice Ao68 x473001_1.length co68) ∧ w'.cell? ⟨gb472, 2, none⟩ = some (.slice Ao69 x473002_1.length co69) ∧ w'.cell? (ad495.add ((x6_1).toNat * 4)) = some (.int .i64 ((rd_T69 l0 x6_1).f0)) ∧ w'.cell? ⟨(ad495.add ((x6_1).toNat * 4)).block, (ad495.add ((x6_1).toNat * 4)).off + 1, none⟩ = some (.string ((rd_T69 l0 x6_1).f1)) ∧ w'.cell? ⟨(ad495.add ((x6_1).toNat * 4)).block, (ad495.add ((x6_1).toNat * 4)).off + 2, none⟩ = some (.string ((rd_T69 l0 x6_1).f2)) ∧ w'.cell? ⟨(ad495.add ((x6_1).toNat * 4)).block, (ad495.add ((x6_1).toNat * 4)).off + 3, none⟩ = some (.int .i64 ((rd_T69 l0 x6_1).f3))) (ds := []) #[false, false, false, false, false, false, false, false, false, false, false, false] (by kernel_rfl) rfl rfl ⟨(blk_cell BK472.out 0).trans rfl, (blk_cell BK472.out 1).trans rfl, (blk_cell BK472.out 2).trans rfl, ((cb HB.out hw495_0).trans hw495_0), ((cb HB.out hw495_1).trans hw495_1), ((cb HB.out hw495_2).trans hw495_2), ((cb HB.out hw495_3).trans hw495_3)⟩ (fun hHeld => ?_); refine with_tabW newsreelref10_Made.tab7 newsreelref10_Made.bits7 (fun HT_ HW_ => ?_)
      generalize wc.drew = w70 at HO_473000 HO_473001 HO_473002 BK471 BK472 HB hx495_0 hx495_1 hx495_2 hx495_3 hHeld ⊢
      refine pure_ (i := 1) (N := some 30) (v := ?_) (a' := ?_) #[false, true, false, false, false, false, false, false, false, false, false, false] rfl rfl (any_of HT_.out (by kernel_rfl)) (fun _ _ _ h => h) (Or.inl ⟨by rfl, ?_⟩) ?_ ?_
      rotate_left
      ·intro w'
       go_simp
       with_reducible rfl
      rotate_left
      ·simp only [Act.put, sA, s0, sS, i64_w, i32_w]
       rfl
      refine pure_ (i := 2) (N := some 31) (v := ?_) (a' := ?_) #[false, true, true, false, false, false, false, false, false, false, false, false] rfl rfl (any_of HT_.out (by kernel_rfl)) (fun _ _ _ h => h) (Or.inl ⟨by rfl, ?_⟩) ?_ ?_
      rotate_left
      ·intro w'
       go_simp
       with_reducible rfl
      rotate_left
      ·simp only [Act.put, sA, s0, sS, i64_w, i32_w]
       rfl
      refine pure_ (i := 3) (N := some 32) (v := ?_) (a' := ?_) #[false, true, true, true, false, false, false, false, false, false, false, false] rfl rfl (any_of HT_.out (by kernel_rfl)) (fun _ _ _ h => h) (Or.inl ⟨by rfl, ?_⟩) ?_ ?_
      rotate_left
      ·intro w'
       go_simp
       with_reducible rfl
      rotate_left
      ·simp only [Act.put, sA, s0, sS, i64_w, i32_w]
       rfl
      refine take_ (i := 0) (N := some 29) (v := ?_) (a' := ?_) #[true, true, true, true, false, false, false, false, false, false, false, false] rfl rfl (take_ofW HT_.out HW_.out (by kernel_rfl)) (fun _ _ _ h => h) (Or.inl ⟨by rfl, ?_⟩) hHeld ?_ ?_
      rotate_left
      ·rintro w' ⟨s0, s1, s2, s3, s4, s5, s6⟩
       go_simp
       with_reducible rfl
      rotate_left
      ·simp only [Act.put, sA, s0, sS, i64_w, i32_w]
       rfl
      refine take_ (i := 4) (N := some 33) (v := ?_) (a' := ?_) #[true, true, true, true, true, false, false, false, false, false, false, false] rfl rfl (take_ofW HT_.out HW_.out (by kernel_rfl)) (fun _ _ _ h => h) (Or.inl ⟨by rfl, ?_⟩) hHeld ?_ ?_
      rotate_left
      ·rintro w' ⟨s0, s1, s2, s3, s4, s5, s6⟩
       first | (have hz_ := fun (a : Act) (o : Oper) (x : Operand) (ho : o.op = .load 69 x) (hx : a.eval x = _) => exec_load_at (P := Try.prog) (W := w') (cs := [_, _, _]) ho hx Try.underlying69 rfl (by kernel_rfl) s3 ⟨s4, s5, s6, trivial⟩; refine (hz_ _ _ (.tmp 32) ?_ ?_).trans ?_; (focus rfl); (focus (first | (with_reducible rfl) | (go_simp; done))); with_reducible rfl) | (go_simp; with_reducible rfl)
      rotate_left
      ·simp only [Act.put, sA, s0, sS, i64_w, i32_w]
       rfl
      refine join_ (σ := Value × Value × Value × Nat) 2 #[true, true, true, true, true, true, true, true, true, true, false, false] (fun s_ => [(34, .tuple #[.agg #[s_.1, s_.2.1, s_.2.2.1], .int .i64 t505]), (7, .pointer (some ⟨s_.2.2.2, 0, none⟩)), (28, .tuple #[.agg #[s_.1, s_.2.1, s_.2.2.1], .int .i64 t505]), (35, .agg #[s_.1, s_.2.1, s_.2.2.1]), (36, .int .i64 t505)]) (fun s_ w' => (w'.cell? ⟨gb472, 0, none⟩ = some (.slice Ao67 x473000_1.length co67) ∧ w'.cell? ⟨gb472, 1, none⟩ = some (.slice Ao68 x473001_1.length co68) ∧ w'.cell? ⟨gb472, 2, none⟩ = some (.slice Ao69 x473002_1.length co69) ∧ w'.cell? (ad495.add ((x6_1).toNat * 4)) = some (.int .i64 ((rd_T69 l0 x6_1).f0)) ∧ w'.cell? ⟨(ad495.add ((x6_1).toNat * 4)).block, (ad495.add ((x6_1).toNat * 4)).off + 1, none⟩ = some (.string ((rd_T69 l0 x6_1).f1)) ∧ w'.cell? ⟨(ad495.add ((x6_1).toNat * 4)).block, (ad495.add ((x6_1).toNat * 4)).off + 2, none⟩ = some (.string ((rd_T69 l0 x6_1).f2)) ∧ w'.cell? ⟨(ad495.add ((x6_1).toNat * 4)).block, (ad495.add ((x6_1).toNat * 4)).off + 3, none⟩ = some (.int .i64 ((rd_T69 l0 x6_1).f3))) ∧ (Kd.R k77 77 w' w.heap.size (fun k_ => (w.heap.size ≤ k_)) s_.1 t496) ∧ (Kd.V k77 77 w' w.heap.size (fun k_ => (w.heap.size ≤ k_) ∧ some k_ ≠ (s_.1 : Value).ownBlock ∧ some k_ ≠ (s_.2.2.1 : Value).ownBlock ∧ some k_ ≠ (.slice Ao69 x473002_1.length co69 : Value).ownBlock ∧ k_ ≠ gb471 ∧ k_ ≠ gb472 ∧ k_ ≠ s_.2.2.2) s_.2.1 t499) ∧ (Kd.R k69 69 w' w.heap.size (fun k_ => (w.heap.size ≤ k_) ∧ some k_ ≠ (.slice Ao69 x473002_1.length co69 : Value).ownBlock) s_.2.2.1 t502) ∧ (Kd.V k77 77 w' w.heap.size (fun k_ => (w.heap.size ≤ k_) ∧ some k_ ≠ (s_.1 : Value).ownBlock ∧ some k_ ≠ (s_.2.2.1 : Value).ownBlock ∧ some k_ ≠ (.slice Ao69 x473002_1.length co69 : Value).ownBlock ∧ k_ ≠ gb471 ∧ k_ ≠ gb472 ∧ k_ ≠ s_.2.2.2) (.slice Ao67 x473000_1.length co67) x473000_1) ∧ (Kd.V k77 77 w' w.heap.size (fun k_ => (w.heap.size ≤ k_) ∧ some k_ ≠ (s_.1 : Value).ownBlock ∧ some k_ ≠ (s_.2.2.1 : Value).ownBlock ∧ some k_ ≠ (.slice Ao69 x473002_1.length co69 : Value).ownBlock ∧ k_ ≠ gb471 ∧ k_ ≠ gb472 ∧ k_ ≠ s_.2.2.2) (.slice Ao68 x473001_1.length co68) x473001_1) ∧ (Kd.R k69 69 w' w.heap.size (fun k_ => (w.heap.size ≤ k_) ∧ some k_ ≠ (s_.2.2.1 : Value).ownBlock) (.slice Ao69 x473002_1.length co69) x473002_1) ∧ (w'.heap[gb471]? = some (.cells #[.slice none 0 0, .slice none 0 0, .slice none 0 0] 67 (0, 0))) ∧ (w'.heap[gb472]? = some (.cells #[.slice Ao67 x473000_1.length co67, .slice Ao68 x473001_1.length co68, .slice Ao69 x473002_1.length co69] 67 (0, 0))) ∧ (w'.heap[s_.2.2.2]? = some (.cells #[.slice none 0 0, .slice none 0 0, .slice none 0 0] 67 (0, 0))) ∧ (w.heap.size ≤ s_.2.2.2) ∧ (w.heap.size ≤ s_.2.2.2) ∧ (gb471 ≠ s_.2.2.2) ∧ (s_.2.2.2 ≠ gb471) ∧ (gb472 ≠ s_.2.2.2) ∧ (s_.2.2.2 ≠ gb472) ∧ (Below w.heap.size w w')) ?_ ?_
      rotate_left
      ·intro hCont
       refine two_ (i := 5) (j := 9) (Ni := some 34) (Nj := some 7) #[true, true, true, true, true, true, false, false, false, false, false, false] #[true, true, true, true, true, false, false, false, false, true, false, false] rfl rfl rfl rfl (two_of HT_.out (by kernel_rfl)) (by decide) (by decide) (fun K hK => ?_) (fun K hK => ?_)
       ·skip
        refine goes_ Try.func43 (by kernel_rfl) rfl #[.agg #[.slice Ao67 x473000_1.length co67, .slice Ao68 x473001_1.length co68, .slice Ao69 x473002_1.length co69], .agg #[.int .i64 ((rd_T69 l0 x6_1).f0), .string ((rd_T69 l0 x6_1).f1), .string ((rd_T69 l0 x6_1).f2), .int .i64 ((rd_T69 l0 x6_1).f3)]] (by rfl) rfl rfl ca ?_
        with_reducible refine (newsreelref10_Do.calls kj7 _ _ x473000_1 (fun k_ => ((w.heap.size ≤ k_) ∧ (some k_ ≠ (.slice Ao69 x473002_1.length co69 : Value).ownBlock ∧ (k_ ≠ gb471 ∧ k_ ≠ gb472)))) _ _ x473001_1 _ _ x473002_1 ((rd_T69 l0 x6_1).f0) ((rd_T69 l0 x6_1).f1) ((rd_T69 l0 x6_1).f2) ((rd_T69 l0 x6_1).f3) t496 t499 t502 t505 _ ?side1 ?side2 ?side3 ?side4 ?side5 A65.out).mono ?_
        (case side1 => exact Kd.C_y (Kd.V_reads' HO_473000.out).2.2)
        (case side2 => exact (Kd.V_reads' HO_473000.out).2.1)
        (case side3 => exact HO_473001.out)
        (case side4 => exact Kd.C_y (Kd.R_reads' HO_473002.out).2.2)
        (case side5 => exact (Kd.R_reads' HO_473002.out).2.1)
        rintro e w71 ⟨v497, v500, v503, rfl, ho0, ho1, ho2, hb⟩
        refine ⟨_, rfl, ?_⟩
        have n0_ := mkA (Kd.V_mono (Kd.V_told (Kd.V_told (Kd.V_old (Kd.V_y HO_473000.out) hb) (Kd.R_base ho0)) (Kd.R_base ho2)) (fun _ h_ => h_.1))
        have n1_ := mkA (Kd.V_mono (Kd.V_told (Kd.V_told (Kd.V_old (Kd.V_y HO_473001.out) hb) (Kd.R_base ho0)) (Kd.R_base ho2)) (fun _ h_ => h_.1))
        have n2_ := mkA (Kd.R_elder' (Kd.R_y HO_473002.out) (Kd.R_base ho2) hb)
        have n3_ := mkA (Kd.R_lower (Kd.R_newM (M := fun k_ => (w.heap.size ≤ k_)) (Kd.R_mono (ok' := fun k_ => True) ho0 (fun _ hk_ => trivial)) (below_size (below_y HB.out)) (fun k_ h_ => h_)) (below_size (below_y HB.out)))
        have n4_ := mkA (Kd.V_lower (Kd.V_mono (ok' := fun k_ => (w.heap.size ≤ k_) ∧ some k_ ≠ (v497 : Value).ownBlock ∧ some k_ ≠ (v503 : Value).ownBlock ∧ some k_ ≠ (.slice Ao69 x473002_1.length co69 : Value).ownBlock ∧ k_ ≠ gb471 ∧ k_ ≠ gb472) ho1 (fun k_ hk_ => ⟨Or.elim hk_.1 (fun hs_ => hs_.1) (fun hn_ => (Nat.le_trans (below_size (below_y HB.out)) hn_)), hk_.2.1, hk_.2.2, Or.elim hk_.1 (fun hs_ => hs_.2.1) (fun hn_ => (Kd.fresh' (Kd.R_lt (Kd.R_y HO_473002.out)) k_ hn_)), Or.elim hk_.1 (fun hs_ => hs_.2.2.1) (fun hn_ => (Kd.freshB (blk_y BK471.out) k_ hn_)), Or.elim hk_.1 (fun hs_ => hs_.2.2.2) (fun hn_ => (Kd.freshB (blk_y BK472.out) k_ hn_))⟩)) (below_size (below_y HB.out)))
        have n5_ := mkA (Kd.R_lower (Kd.R_new' (Kd.R_newM (M := fun k_ => (w.heap.size ≤ k_)) (Kd.R_mono (ok' := fun k_ => True) ho2 (fun _ hk_ => trivial)) (below_size (below_y HB.out)) (fun k_ h_ => h_)) (Kd.R_lt (Kd.R_y HO_473002.out))) (below_size (below_y HB.out)))
        have n6_ := mkA (blk_below (blk_y BK471.out) hb)
        have n7_ := mkA (blk_below (blk_y BK472.out) hb)
        have n8_ := mkA (below_step (below_y HB.out) hb)
        clear HO_473000 HO_473001 HO_473002 BK471 BK472 HB
        have HO_473000 := n0_
        have HO_473001 := n1_
        have HO_473002 := n2_
        have HO498 := n3_
        have HO501 := n4_
        have HO504 := n5_
        have BK471 := n6_
        have BK472 := n7_
        have HB := n8_
        clear n0_ n1_ n2_ n3_ n4_ n5_ n6_ n7_ n8_
        (try clear hb)
        (try clear hb2)
        (try clear hk)
        (try clear hi)
        (try clear ho0)
        (try clear ho1)
        (try clear ho2)
        refine hK.out _ _ ⟨(blk_cell BK472.out 0).trans rfl, (blk_cell BK472.out 1).trans rfl, (blk_cell BK472.out 2).trans rfl, ((cb HB.out hw495_0).trans hw495_0), ((cb HB.out hw495_1).trans hw495_1), ((cb HB.out hw495_2).trans hw495_2), ((cb HB.out hw495_3).trans hw495_3)⟩ (fun hHeld => ?_)
        clear hK K
        refine norm_ (a' := ?_) ?_ ?_
        rotate_left
        ·show Act.put _ (some 34) _ = _
         simp only [Act.put, sA, s0, sS, i64_w, i32_w]
         rfl
        refine pure_ (i := 6) (N := some 28) (v := ?_) (a' := ?_) #[true, true, true, true, true, true, true, false, false, false, false, false] rfl rfl (any_of HT_.out (by kernel_rfl)) (fun _ _ _ h => h) (Or.inl ⟨by rfl, ?_⟩) ?_ ?_
        rotate_left
        ·intro w'
         go_simp
         with_reducible rfl
        rotate_left
        ·simp only [Act.put, sA, s0, sS, i64_w, i32_w]
         rfl
        refine pure_ (i := 7) (N := some 35) (v := ?_) (a' := ?_) #[true, true, true, true, true, true, true, true, false, false, false, false] rfl rfl (any_of HT_.out (by kernel_rfl)) (fun _ _ _ h => h) (Or.inl ⟨by rfl, ?_⟩) ?_ ?_
        rotate_left
        ·intro w'
         go_simp
         with_reducible rfl
        rotate_left
        ·simp only [Act.put, sA, s0, sS, i64_w, i32_w]
         rfl
        refine pure_ (i := 8) (N := some 36) (v := ?_) (a' := ?_) #[true, true, true, true, true, true, true, true, true, false, false, false] rfl rfl (any_of HT_.out (by kernel_rfl)) (fun _ _ _ h => h) (Or.inl ⟨by rfl, ?_⟩) ?_ ?_
        rotate_left
        ·intro w'
         go_simp
         with_reducible rfl
        rotate_left
        ·simp only [Act.put, sA, s0, sS, i64_w, i32_w]
         rfl
        refine one_ (i := 9) (N := some 7) #[true, true, true, true, true, true, true, true, true, true, false, false] rfl rfl (one_of HT_.out (by kernel_rfl)) (by decide) (fun K hK => ?_)
        refine box_step ?hg (N := 7) ?hd (cs := #[.slice none 0 0, .slice none 0 0, .slice none 0 0]) (t := 67) ?hr ?_; (case hd => rfl); (case hg => rfl); (case hr => first | (go_simp; done) | (go_simp; rfl))
        intro gb506 hg w72 hbox hb
        have n0_ := mkA (Kd.V_below (Kd.V_elderB (Kd.V_y HO_473000.out) gb506 (Nat.le_of_eq hg.symm)) hb)
        have n1_ := mkA (Kd.V_below (Kd.V_elderB (Kd.V_y HO_473001.out) gb506 (Nat.le_of_eq hg.symm)) hb)
        have n2_ := mkA (Kd.R_below (Kd.R_y HO_473002.out) hb)
        have n3_ := mkA (Kd.R_below (Kd.R_y HO498.out) hb)
        have n4_ := mkA (Kd.V_below (Kd.V_elderB (Kd.V_y HO501.out) gb506 (Nat.le_of_eq hg.symm)) hb)
        have n5_ := mkA (Kd.R_below (Kd.R_y HO504.out) hb)
        have n6_ := mkA (blk_below (blk_y BK471.out) hb)
        have n7_ := mkA (blk_below (blk_y BK472.out) hb)
        have n8_ := mkA (below_step (below_y HB.out) hb)
        have n9_ := mkA (hbox)
        have n10_ := mkA ((gz hg HB.out : w.heap.size ≤ gb506))
        have n11_ := mkA ((gz hg HB.out : w.heap.size ≤ gb506))
        have n12_ := mkA ((gn hg BK471.out : gb471 ≠ gb506))
        have n13_ := mkA ((gm hg BK471.out : gb506 ≠ gb471))
        have n14_ := mkA ((gn hg BK472.out : gb472 ≠ gb506))
        have n15_ := mkA ((gm hg BK472.out : gb506 ≠ gb472))
        clear HO_473000 HO_473001 HO_473002 HO498 HO501 HO504 BK471 BK472 HB
        have HO_473000 := n0_
        have HO_473001 := n1_
        have HO_473002 := n2_
        have HO498 := n3_
        have HO501 := n4_
        have HO504 := n5_
        have BK471 := n6_
        have BK472 := n7_
        have HB := n8_
        have BK506 := n9_
        have GW506 := n10_
        have GE506 := n11_
        have NB471_506 := n12_
        have NB506_471 := n13_
        have NB472_506 := n14_
        have NB506_472 := n15_
        clear n0_ n1_ n2_ n3_ n4_ n5_ n6_ n7_ n8_ n9_ n10_ n11_ n12_ n13_ n14_ n15_ hb hbox hg
        refine hK.out _ _ ⟨(blk_cell BK472.out 0).trans rfl, (blk_cell BK472.out 1).trans rfl, (blk_cell BK472.out 2).trans rfl, ((cb HB.out hw495_0).trans hw495_0), ((cb HB.out hw495_1).trans hw495_1), ((cb HB.out hw495_2).trans hw495_2), ((cb HB.out hw495_3).trans hw495_3)⟩ (fun hHeld => ?_)
        clear hK K
        refine norm_ (a' := ?_) ?_ ?_
        rotate_left
        ·show Act.put _ (some 7) _ = _
         simp only [Act.put, sA, s0, sS, i64_w, i32_w]
         rfl
        exact norm_ (by simp only [putAll, Act.put, sA, s0, sS]) (hCont (v497, v500, v503, gb506) _ ⟨hHeld, (by (with_reducible repeat (first | apply Kd.R_alloc | apply Kd.R_drewN | apply Kd.R_drew)); exact Kd.R_mono HO498.out (fun _ hk => hk.1)), (by (with_reducible repeat (first | apply Kd.V_alloc | apply Kd.V_drewN | apply Kd.V_drew)); exact Kd.V_mono HO501.out (fun _ hk => ⟨hk.1.1, ⟨hk.1.2.1, ⟨hk.1.2.2.1, ⟨hk.1.2.2.2.1, ⟨hk.1.2.2.2.2.1, ⟨hk.1.2.2.2.2.2, hk.2⟩⟩⟩⟩⟩⟩)), (by (with_reducible repeat (first | apply Kd.R_alloc | apply Kd.R_drewN | apply Kd.R_drew)); exact Kd.R_mono HO504.out (fun _ hk => ⟨hk.1.1, hk.2⟩)), (by (with_reducible repeat (first | apply Kd.V_alloc | apply Kd.V_drewN | apply Kd.V_drew)); exact Kd.V_mono HO_473000.out (fun _ hk => ⟨hk.1.1.1.1, ⟨hk.1.1.2, ⟨hk.1.2, ⟨hk.1.1.1.2.1, ⟨hk.1.1.1.2.2.1, ⟨hk.1.1.1.2.2.2, hk.2⟩⟩⟩⟩⟩⟩)), (by (with_reducible repeat (first | apply Kd.V_alloc | apply Kd.V_drewN | apply Kd.V_drew)); exact Kd.V_mono HO_473001.out (fun _ hk => ⟨hk.1.1.1.1, ⟨hk.1.1.2, ⟨hk.1.2, ⟨hk.1.1.1.2.1, ⟨hk.1.1.1.2.2.1, ⟨hk.1.1.1.2.2.2, hk.2⟩⟩⟩⟩⟩⟩)), (Kd.R_y HO_473002.out), (blk_y BK471.out), (blk_y BK472.out), (blk_y BK506.out), GW506.out, GE506.out, NB471_506.out, NB506_471.out, NB472_506.out, NB506_472.out, (below_y HB.out)⟩)
       ·skip
        refine box_step ?hg (N := 7) ?hd (cs := #[.slice none 0 0, .slice none 0 0, .slice none 0 0]) (t := 67) ?hr ?_; (case hd => rfl); (case hg => rfl); (case hr => first | (go_simp; done) | (go_simp; rfl))
        intro gb506 hg w71 hbox hb
        have n0_ := mkA (Kd.V_below (Kd.V_elderB (Kd.V_y HO_473000.out) gb506 (Nat.le_of_eq hg.symm)) hb)
        have n1_ := mkA (Kd.V_below (Kd.V_elderB (Kd.V_y HO_473001.out) gb506 (Nat.le_of_eq hg.symm)) hb)
        have n2_ := mkA (Kd.R_below (Kd.R_y HO_473002.out) hb)
        have n3_ := mkA (blk_below (blk_y BK471.out) hb)
        have n4_ := mkA (blk_below (blk_y BK472.out) hb)
        have n5_ := mkA (below_step (below_y HB.out) hb)
        have n6_ := mkA (hbox)
        have n7_ := mkA ((gz hg HB.out : w.heap.size ≤ gb506))
        have n8_ := mkA ((gz hg HB.out : w.heap.size ≤ gb506))
        have n9_ := mkA ((gn hg BK471.out : gb471 ≠ gb506))
        have n10_ := mkA ((gm hg BK471.out : gb506 ≠ gb471))
        have n11_ := mkA ((gn hg BK472.out : gb472 ≠ gb506))
        have n12_ := mkA ((gm hg BK472.out : gb506 ≠ gb472))
        clear HO_473000 HO_473001 HO_473002 BK471 BK472 HB
        have HO_473000 := n0_
        have HO_473001 := n1_
        have HO_473002 := n2_
        have BK471 := n3_
        have BK472 := n4_
        have HB := n5_
        have BK506 := n6_
        have GW506 := n7_
        have GE506 := n8_
        have NB471_506 := n9_
        have NB506_471 := n10_
        have NB472_506 := n11_
        have NB506_472 := n12_
        clear n0_ n1_ n2_ n3_ n4_ n5_ n6_ n7_ n8_ n9_ n10_ n11_ n12_ hb hbox hg
        refine hK.out _ _ ⟨(blk_cell BK472.out 0).trans rfl, (blk_cell BK472.out 1).trans rfl, (blk_cell BK472.out 2).trans rfl, ((cb HB.out hw495_0).trans hw495_0), ((cb HB.out hw495_1).trans hw495_1), ((cb HB.out hw495_2).trans hw495_2), ((cb HB.out hw495_3).trans hw495_3)⟩ (fun hHeld => ?_)
        clear hK K
        refine norm_ (a' := ?_) ?_ ?_
        rotate_left
        ·show Act.put _ (some 7) _ = _
         simp only [Act.put, sA, s0, sS, i64_w, i32_w]
         rfl
        refine one_ (i := 5) (N := some 34) #[true, true, true, true, true, true, false, false, false, true, false, false] rfl rfl (one_of HT_.out (by kernel_rfl)) (by decide) (fun K hK => ?_)
        refine goes_ Try.func43 (by kernel_rfl) rfl #[.agg #[.slice Ao67 x473000_1.length co67, .slice Ao68 x473001_1.length co68, .slice Ao69 x473002_1.length co69], .agg #[.int .i64 ((rd_T69 l0 x6_1).f0), .string ((rd_T69 l0 x6_1).f1), .string ((rd_T69 l0 x6_1).f2), .int .i64 ((rd_T69 l0 x6_1).f3)]] (by rfl) rfl rfl ca ?_
        with_reducible refine (newsreelref10_Do.calls kj7 _ _ x473000_1 (fun k_ => (((w.heap.size ≤ k_) ∧ (some k_ ≠ (.slice Ao69 x473002_1.length co69 : Value).ownBlock ∧ (k_ ≠ gb471 ∧ k_ ≠ gb472))) ∧ k_ ≠ gb506)) _ _ x473001_1 _ _ x473002_1 ((rd_T69 l0 x6_1).f0) ((rd_T69 l0 x6_1).f1) ((rd_T69 l0 x6_1).f2) ((rd_T69 l0 x6_1).f3) t496 t499 t502 t505 _ ?side1 ?side2 ?side3 ?side4 ?side5 A65.out).mono ?_
        (case side1 => exact Kd.C_y (Kd.V_reads' HO_473000.out).2.2)
        (case side2 => exact (Kd.V_reads' HO_473000.out).2.1)
        (case side3 => exact HO_473001.out)
        (case side4 => exact Kd.C_y (Kd.R_reads' HO_473002.out).2.2)
        (case side5 => exact (Kd.R_reads' HO_473002.out).2.1)
        rintro e w72 ⟨v497, v500, v503, rfl, ho0, ho1, ho2, hb⟩
        refine ⟨_, rfl, ?_⟩
        have n0_ := mkA (Kd.V_mono (Kd.V_told (Kd.V_told (Kd.V_old (Kd.V_y HO_473000.out) hb) (Kd.R_base ho0)) (Kd.R_base ho2)) (fun _ h_ => h_.1))
        have n1_ := mkA (Kd.V_mono (Kd.V_told (Kd.V_told (Kd.V_old (Kd.V_y HO_473001.out) hb) (Kd.R_base ho0)) (Kd.R_base ho2)) (fun _ h_ => h_.1))
        have n2_ := mkA (Kd.R_elder' (Kd.R_y HO_473002.out) (Kd.R_base ho2) hb)
        have n3_ := mkA (Kd.R_lower (Kd.R_newM (M := fun k_ => (w.heap.size ≤ k_)) (Kd.R_mono (ok' := fun k_ => True) ho0 (fun _ hk_ => trivial)) (below_size (below_y HB.out)) (fun k_ h_ => h_)) (below_size (below_y HB.out)))
        have n4_ := mkA (Kd.V_lower (Kd.V_mono (ok' := fun k_ => (w.heap.size ≤ k_) ∧ some k_ ≠ (v497 : Value).ownBlock ∧ some k_ ≠ (v503 : Value).ownBlock ∧ some k_ ≠ (.slice Ao69 x473002_1.length co69 : Value).ownBlock ∧ k_ ≠ gb471 ∧ k_ ≠ gb472 ∧ k_ ≠ gb506) ho1 (fun k_ hk_ => ⟨Or.elim hk_.1 (fun hs_ => hs_.1.1) (fun hn_ => (Nat.le_trans (below_size (below_y HB.out)) hn_)), hk_.2.1, hk_.2.2, Or.elim hk_.1 (fun hs_ => hs_.1.2.1) (fun hn_ => (Kd.fresh' (Kd.R_lt (Kd.R_y HO_473002.out)) k_ hn_)), Or.elim hk_.1 (fun hs_ => hs_.1.2.2.1) (fun hn_ => (Kd.freshB (blk_y BK471.out) k_ hn_)), Or.elim hk_.1 (fun hs_ => hs_.1.2.2.2) (fun hn_ => (Kd.freshB (blk_y BK472.out) k_ hn_)), Or.elim hk_.1 (fun hs_ => hs_.2) (fun hn_ => (Kd.freshB (blk_y BK506.out) k_ hn_))⟩)) (below_size (below_y HB.out)))
        have n5_ := mkA (Kd.R_lower (Kd.R_new' (Kd.R_newM (M := fun k_ => (w.heap.size ≤ k_)) (Kd.R_mono (ok' := fun k_ => True) ho2 (fun _ hk_ => trivial)) (below_size (below_y HB.out)) (fun k_ h_ => h_)) (Kd.R_lt (Kd.R_y HO_473002.out))) (below_size (below_y HB.out)))
        have n6_ := mkA (blk_below (blk_y BK471.out) hb)
        have n7_ := mkA (blk_below (blk_y BK472.out) hb)
        have n8_ := mkA (blk_below (blk_y BK506.out) hb)
        have n9_ := mkA (below_step (below_y HB.out) hb)
        clear HO_473000 HO_473001 HO_473002 BK471 BK472 BK506 HB
        have HO_473000 := n0_
        have HO_473001 := n1_
        have HO_473002 := n2_
        have HO498 := n3_
        have HO501 := n4_
        have HO504 := n5_
        have BK471 := n6_
        have BK472 := n7_
        have BK506 := n8_
        have HB := n9_
        clear n0_ n1_ n2_ n3_ n4_ n5_ n6_ n7_ n8_ n9_
        (try clear hb)
        (try clear hb2)
        (try clear hk)
        (try clear hi)
        (try clear ho0)
        (try clear ho1)
        (try clear ho2)
        refine hK.out _ _ ⟨(blk_cell BK472.out 0).trans rfl, (blk_cell BK472.out 1).trans rfl, (blk_cell BK472.out 2).trans rfl, ((cb HB.out hw495_0).trans hw495_0), ((cb HB.out hw495_1).trans hw495_1), ((cb HB.out hw495_2).trans hw495_2), ((cb HB.out hw495_3).trans hw495_3)⟩ (fun hHeld => ?_)
        clear hK K
        refine norm_ (a' := ?_) ?_ ?_
        rotate_left
        ·show Act.put _ (some 34) _ = _
         simp only [Act.put, sA, s0, sS, i64_w, i32_w]
         rfl
        refine pure_ (i := 6) (N := some 28) (v := ?_) (a' := ?_) #[true, true, true, true, true, true, true, false, false, true, false, false] rfl rfl (any_of HT_.out (by kernel_rfl)) (fun _ _ _ h => h) (Or.inl ⟨by rfl, ?_⟩) ?_ ?_
        rotate_left
        ·intro w'
         go_simp
         with_reducible rfl
        rotate_left
        ·simp only [Act.put, sA, s0, sS, i64_w, i32_w]
         rfl
        refine pure_ (i := 7) (N := some 35) (v := ?_) (a' := ?_) #[true, true, true, true, true, true, true, true, false, true, false, false] rfl rfl (any_of HT_.out (by kernel_rfl)) (fun _ _ _ h => h) (Or.inl ⟨by rfl, ?_⟩) ?_ ?_
        rotate_left
        ·intro w'
         go_simp
         with_reducible rfl
        rotate_left
        ·simp only [Act.put, sA, s0, sS, i64_w, i32_w]
         rfl
        refine pure_ (i := 8) (N := some 36) (v := ?_) (a' := ?_) #[true, true, true, true, true, true, true, true, true, true, false, false] rfl rfl (any_of HT_.out (by kernel_rfl)) (fun _ _ _ h => h) (Or.inl ⟨by rfl, ?_⟩) ?_ ?_
        rotate_left
        ·intro w'
         go_simp
         with_reducible rfl
        rotate_left
        ·simp only [Act.put, sA, s0, sS, i64_w, i32_w]
         rfl
        exact norm_ (by simp only [putAll, Act.put, sA, s0, sS]) (hCont (v497, v500, v503, gb506) _ ⟨hHeld, (by (with_reducible repeat (first | apply Kd.R_alloc | apply Kd.R_drewN | apply Kd.R_drew)); exact Kd.R_mono HO498.out (fun _ hk => hk.1)), (Kd.V_y HO501.out), (by (with_reducible repeat (first | apply Kd.R_alloc | apply Kd.R_drewN | apply Kd.R_drew)); exact Kd.R_mono HO504.out (fun _ hk => ⟨hk.1.1, hk.2⟩)), (by (with_reducible repeat (first | apply Kd.V_alloc | apply Kd.V_drewN | apply Kd.V_drew)); exact Kd.V_mono HO_473000.out (fun _ hk => ⟨hk.1.1.1.1, ⟨hk.1.2, ⟨hk.2, ⟨hk.1.1.1.2.1, ⟨hk.1.1.1.2.2.1, ⟨hk.1.1.1.2.2.2, hk.1.1.2⟩⟩⟩⟩⟩⟩)), (by (with_reducible repeat (first | apply Kd.V_alloc | apply Kd.V_drewN | apply Kd.V_drew)); exact Kd.V_mono HO_473001.out (fun _ hk => ⟨hk.1.1.1.1, ⟨hk.1.2, ⟨hk.2, ⟨hk.1.1.1.2.1, ⟨hk.1.1.1.2.2.1, ⟨hk.1.1.1.2.2.2, hk.1.1.2⟩⟩⟩⟩⟩⟩)), (Kd.R_y HO_473002.out), (blk_y BK471.out), (blk_y BK472.out), (blk_y BK506.out), GW506.out, GE506.out, NB471_506.out, NB506_471.out, NB472_506.out, NB506_472.out, (below_y HB.out)⟩)
      rintro ⟨v497, v500, v503, gb506⟩ w73 ⟨hS_, h0_, h1_, h2_, h3_, h4_, h5_, h6_, h7_, h8_, h9_, h10_, h11_, h12_, h13_, h14_, h15_⟩
      have n0_ : Aside0 (Kd.R k77 77 w73 w.heap.size (fun k_ => (w.heap.size ≤ k_)) v497 t496) := ⟨h0_⟩
      have n1_ : Aside0 (Kd.V k77 77 w73 w.heap.size (fun k_ => (w.heap.size ≤ k_) ∧ some k_ ≠ (v497 : Value).ownBlock ∧ some k_ ≠ (v503 : Value).ownBlock ∧ some k_ ≠ (.slice Ao69 x473002_1.length co69 : Value).ownBlock ∧ k_ ≠ gb471 ∧ k_ ≠ gb472 ∧ k_ ≠ gb506) v500 t499) := ⟨h1_⟩
      have n2_ : Aside0 (Kd.R k69 69 w73 w.heap.size (fun k_ => (w.heap.size ≤ k_) ∧ some k_ ≠ (.slice Ao69 x473002_1.length co69 : Value).ownBlock) v503 t502) := ⟨h2_⟩
      have n3_ : Aside0 (Kd.V k77 77 w73 w.heap.size (fun k_ => (w.heap.size ≤ k_) ∧ some k_ ≠ (v497 : Value).ownBlock ∧ some k_ ≠ (v503 : Value).ownBlock ∧ some k_ ≠ (.slice Ao69 x473002_1.length co69 : Value).ownBlock ∧ k_ ≠ gb471 ∧ k_ ≠ gb472 ∧ k_ ≠ gb506) (.slice Ao67 x473000_1.length co67) x473000_1) := ⟨h3_⟩
      have n4_ : Aside0 (Kd.V k77 77 w73 w.heap.size (fun k_ => (w.heap.size ≤ k_) ∧ some k_ ≠ (v497 : Value).ownBlock ∧ some k_ ≠ (v503 : Value).ownBlock ∧ some k_ ≠ (.slice Ao69 x473002_1.length co69 : Value).ownBlock ∧ k_ ≠ gb471 ∧ k_ ≠ gb472 ∧ k_ ≠ gb506) (.slice Ao68 x473001_1.length co68) x473001_1) := ⟨h4_⟩
      have n5_ : Aside0 (Kd.R k69 69 w73 w.heap.size (fun k_ => (w.heap.size ≤ k_) ∧ some k_ ≠ (v503 : Value).ownBlock) (.slice Ao69 x473002_1.length co69) x473002_1) := ⟨h5_⟩
      have n6_ : Aside0 (w73.heap[gb471]? = some (.cells #[.slice none 0 0, .slice none 0 0, .slice none 0 0] 67 (0, 0))) := ⟨h6_⟩
      have n7_ : Aside0 (w73.heap[gb472]? = some (.cells #[.slice Ao67 x473000_1.length co67, .slice Ao68 x473001_1.length co68, .slice Ao69 x473002_1.length co69] 67 (0, 0))) := ⟨h7_⟩
      have n8_ : Aside0 (w73.heap[gb506]? = some (.cells #[.slice none 0 0, .slice none 0 0, .slice none 0 0] 67 (0, 0))) := ⟨h8_⟩
      have n9_ : Aside0 (w.heap.size ≤ gb506) := ⟨h9_⟩
      have n10_ : Aside0 (w.heap.size ≤ gb506) := ⟨h10_⟩
      have n11_ : Aside0 (gb471 ≠ gb506) := ⟨h11_⟩
      have n12_ : Aside0 (gb506 ≠ gb471) := ⟨h12_⟩
      have n13_ : Aside0 (gb472 ≠ gb506) := ⟨h13_⟩
      have n14_ : Aside0 (gb506 ≠ gb472) := ⟨h14_⟩
      have n15_ : Aside0 (Below w.heap.size w w73) := ⟨h15_⟩
      clear HO_473000 HO_473001 HO_473002 BK471 BK472 HB h0_ h1_ h2_ h3_ h4_ h5_ h6_ h7_ h8_ h9_ h10_ h11_ h12_ h13_ h14_ h15_
      have HO498 := n0_
      have HO501 := n1_
      have HO504 := n2_
      have HO_473000 := n3_
      have HO_473001 := n4_
      have HO_473002 := n5_
      have BK471 := n6_
      have BK472 := n7_
      have BK506 := n8_
      have GW506 := n9_
      have GE506 := n10_
      have NB471_506 := n11_
      have NB506_471 := n12_
      have NB472_506 := n13_
      have NB506_472 := n14_
      have HB := n15_
      clear n0_ n1_ n2_ n3_ n4_ n5_ n6_ n7_ n8_ n9_ n10_ n11_ n12_ n13_ n14_ n15_
      have hHeld : w73.cell? ⟨gb472, 0, none⟩ = some (.slice Ao67 x473000_1.length co67) ∧ w73.cell? ⟨gb472, 1, none⟩ = some (.slice Ao68 x473001_1.length co68) ∧ w73.cell? ⟨gb472, 2, none⟩ = some (.slice Ao69 x473002_1.length co69) ∧ w73.cell? (ad495.add ((x6_1).toNat * 4)) = some (.int .i64 ((rd_T69 l0 x6_1).f0)) ∧ w73.cell? ⟨(ad495.add ((x6_1).toNat * 4)).block, (ad495.add ((x6_1).toNat * 4)).off + 1, none⟩ = some (.string ((rd_T69 l0 x6_1).f1)) ∧ w73.cell? ⟨(ad495.add ((x6_1).toNat * 4)).block, (ad495.add ((x6_1).toNat * 4)).off + 2, none⟩ = some (.string ((rd_T69 l0 x6_1).f2)) ∧ w73.cell? ⟨(ad495.add ((x6_1).toNat * 4)).block, (ad495.add ((x6_1).toNat * 4)).off + 3, none⟩ = some (.int .i64 ((rd_T69 l0 x6_1).f3)) := hS_
      obtain ⟨Ao74, co74, eo74⟩ := Kd.R_slice HO498.out
      (first | subst eo74 | (injection eo74 with f1_ f2_ f3_; have f4_ := f1_.symm; have f5_ := f3_.symm; clear f1_ f2_ f3_; subst f4_; subst f5_))
      obtain ⟨Ao76, co76, eo76⟩ := Kd.V_slice HO501.out
      (first | subst eo76 | (injection eo76 with f1_ f2_ f3_; have f4_ := f1_.symm; have f5_ := f3_.symm; clear f1_ f2_ f3_; subst f4_; subst f5_))
      obtain ⟨Ao78, co78, eo78⟩ := Kd.R_slice HO504.out
      (first | subst eo78 | (injection eo78 with f1_ f2_ f3_; have f4_ := f1_.symm; have f5_ := f3_.symm; clear f1_ f2_ f3_; subst f4_; subst f5_))
      refine norm_ (a' := ?_) ?_ ?_
      rotate_left
      ·simp only [putAll, Act.put, sA, s0, sS]
       rfl
      refine one_ (i := 10) (N := none) #[true, true, true, true, true, true, true, true, true, true, true, false] rfl rfl (one_of HT_.out (by kernel_rfl)) (by decide) (fun K hK => ?_)
      have hs75 : w73.cell? ⟨gb506, 0, none⟩ = some (.slice none 0 0) := (blk_cell BK506.out 0).trans rfl
      have hfs75 := blk_frozen BK506.out 0
      have hns75_0 := NB471_506.out
      have hns75_1 := NB472_506.out
      have hms75_0 := NB506_471.out
      have hms75_1 := NB506_472.out
      have hs77 : w73.cell? ⟨gb506, 1, none⟩ = some (.slice none 0 0) := (blk_cell BK506.out 1).trans rfl
      have hfs77 := blk_frozen BK506.out 1
      have hns77_0 := NB471_506.out
      have hns77_1 := NB472_506.out
      have hms77_0 := NB506_471.out
      have hms77_1 := NB506_472.out
      have hs79 : w73.cell? ⟨gb506, 2, none⟩ = some (.slice none 0 0) := (blk_cell BK506.out 2).trans rfl
      have hfs79 := blk_frozen BK506.out 2
      have hns79_0 := NB471_506.out
      have hns79_1 := NB472_506.out
      have hms79_0 := NB506_471.out
      have hms79_1 := NB506_472.out
      refine skip_ (w1 := ?_) (by rfl) rfl ?_ ?_
      rotate_left
      ·go_simp
       rfl
      refine hK.out _ _ ⟨((cell_far (p := ⟨gb506, _, none⟩) NB472_506.out _).trans (((cell_far (p := ⟨gb506, _, none⟩) NB472_506.out _).trans (((cell_far (p := ⟨gb506, _, none⟩) NB472_506.out _).trans (hHeld.1)))))), ((cell_far (p := ⟨gb506, _, none⟩) NB472_506.out _).trans (((cell_far (p := ⟨gb506, _, none⟩) NB472_506.out _).trans (((cell_far (p := ⟨gb506, _, none⟩) NB472_506.out _).trans (hHeld.2.1)))))), ((cell_far (p := ⟨gb506, _, none⟩) NB472_506.out _).trans (((cell_far (p := ⟨gb506, _, none⟩) NB472_506.out _).trans (((cell_far (p := ⟨gb506, _, none⟩) NB472_506.out _).trans (hHeld.2.2.1)))))), ((cell_far (p := ⟨gb506, _, none⟩) (nf hw495_0 GW506.out) _).trans (((cell_far (p := ⟨gb506, _, none⟩) (nf hw495_0 GW506.out) _).trans (((cell_far (p := ⟨gb506, _, none⟩) (nf hw495_0 GW506.out) _).trans (hHeld.2.2.2.1)))))), ((cell_far (p := ⟨gb506, _, none⟩) (nf hw495_1 GW506.out) _).trans (((cell_far (p := ⟨gb506, _, none⟩) (nf hw495_1 GW506.out) _).trans (((cell_far (p := ⟨gb506, _, none⟩) (nf hw495_1 GW506.out) _).trans (hHeld.2.2.2.2.1)))))), ((cell_far (p := ⟨gb506, _, none⟩) (nf hw495_2 GW506.out) _).trans (((cell_far (p := ⟨gb506, _, none⟩) (nf hw495_2 GW506.out) _).trans (((cell_far (p := ⟨gb506, _, none⟩) (nf hw495_2 GW506.out) _).trans (hHeld.2.2.2.2.2.1)))))), ((cell_far (p := ⟨gb506, _, none⟩) (nf hw495_3 GW506.out) _).trans (((cell_far (p := ⟨gb506, _, none⟩) (nf hw495_3 GW506.out) _).trans (((cell_far (p := ⟨gb506, _, none⟩) (nf hw495_3 GW506.out) _).trans (hHeld.2.2.2.2.2.2))))))⟩ (fun hHeld => ?_)
      clear hK K
      refine pure_ (i := 11) (N := some 8) (v := ?_) (a' := ?_) #[true, true, true, true, true, true, true, true, true, true, true, true] rfl rfl (any_of HT_.out (by kernel_rfl)) (fun _ _ _ h => h) (Or.inl ⟨by rfl, ?_⟩) ?_ ?_
      rotate_left
      ·intro w'
       go_simp
       with_reducible rfl
      rotate_left
      ·simp only [Act.put, sA, s0, sS, i64_w, i32_w]
       rfl
      refine done_ (done_of HT_.out (by kernel_rfl)) ?_
      have hnb80 := NB506_471.out
      have hnc80 := NB471_506.out
      have hnb81 := NB506_472.out
      have hnc81 := NB472_506.out
      have hcz82_0 := bc BK506.out 0 (.slice none 0 0) rfl
      have hcz82_1 := bc BK506.out 1 (.slice none 0 0) rfl
      have hcz82_2 := bc BK506.out 2 (.slice none 0 0) rfl
      have hfz82_0 := blk_frozen BK506.out 0
      have hfz82_1 := blk_frozen BK506.out 1
      have hfz82_2 := blk_frozen BK506.out 2
      have hnb83 := NB472_471.out
      have hnc83 := NB471_472.out
      have hcz84_0 := bc BK472.out 0 (.slice Ao67 x473000_1.length co67) rfl
      have hcz84_1 := bc BK472.out 1 (.slice Ao68 x473001_1.length co68) rfl
      have hcz84_2 := bc BK472.out 2 (.slice Ao69 x473002_1.length co69) rfl
      have hfz84_0 := blk_frozen BK472.out 0
      have hfz84_1 := blk_frozen BK472.out 1
      have hfz84_2 := blk_frozen BK472.out 2
      try go_wp2_with (first | ((with_reducible refine gate_load (t := 69) rfl ?_); refine load_at2 (t := 69) ?hg ?ho (c0 := _) (cs := [_, _, _]) Try.underlying69 rfl (by kernel_rfl) hx495_0 ⟨hx495_1, hx495_2, hx495_3, trivial⟩ ?_; (case hg => rfl); (case ho => refine ⟨_, rfl, ?_⟩; first | (with_reducible rfl) | (go_simp; done))))
      go_roundg kj7
      case measure => have := HK1.out; have := HJ7.out; omega
      case rel => exact ⟨(wrap64 (x6_1 + 1)), (t496), (t499), (t502), (.slice Ao74 t496.length co74), (.slice Ao76 t499.length co76), (.slice Ao78 t502.length co78), (by first | rfl | (simp; done) | (simp [*]; done)), H', ⟨by have := HK1.out; have := HJ7.out; omega⟩, ⟨Kd.R_V (by (with_reducible repeat (first | apply Kd.R_alloc | apply Kd.R_drewN | apply Kd.R_drew)); exact Kd.R_mono (Kd.R_far (p := ⟨gb472, 2, none⟩) (Kd.R_far (p := ⟨gb472, 1, none⟩) (Kd.R_far (p := ⟨gb472, 0, none⟩) (Kd.R_far (p := ⟨gb506, 2, none⟩) (Kd.R_far (p := ⟨gb506, 1, none⟩) (Kd.R_far (p := ⟨gb506, 0, none⟩) (Kd.R_types (Kd.R_types (Kd.R_types (Kd.R_types (Kd.R_apart' HO498.out (Kd.R_typed HO504.out) (by decide)) BK471.out (by decide)) BK472.out (by decide)) BK506.out (by decide)) BK472.out (by decide)) (fun _ hk => hk.1.2) (.slice Ao74 t496.length co74)) (fun _ hk => hk.1.2) (.slice Ao76 t499.length co76)) (fun _ hk => hk.1.2) (.slice Ao78 t502.length co78)) (fun _ hk => hk.2) (.slice Ao74 t496.length co74)) (fun _ hk => hk.2) (.slice Ao76 t499.length co76)) (fun _ hk => hk.2) (.slice Ao78 t502.length co78)) (fun _ hk => ⟨hk.1.1.1.1.1, ⟨hk.1.1.1.1.2, ⟨hk.1.1.1.2, hk.1.1.2⟩⟩⟩))⟩, ⟨by (with_reducible repeat (first | apply Kd.V_alloc | apply Kd.V_drewN | apply Kd.V_drew)); exact Kd.V_mono (Kd.V_far (p := ⟨gb472, 2, none⟩) (Kd.V_far (p := ⟨gb472, 1, none⟩) (Kd.V_far (p := ⟨gb472, 0, none⟩) (Kd.V_far (p := ⟨gb506, 2, none⟩) (Kd.V_far (p := ⟨gb506, 1, none⟩) (Kd.V_far (p := ⟨gb506, 0, none⟩) (Kd.V_mono (Kd.V_mono HO501.out (fun k_ hk => (⟨hk, hk.2.2.2.2.2.2⟩ : _ ∧ k_ ≠ gb506))) (fun k_ hk => (⟨hk, hk.1.2.2.2.2.2.1⟩ : _ ∧ k_ ≠ gb472))) (fun _ hk => hk.1.2) (.slice Ao74 t496.length co74)) (fun _ hk => hk.1.2) (.slice Ao76 t499.length co76)) (fun _ hk => hk.1.2) (.slice Ao78 t502.length co78)) (fun _ hk => hk.2) (.slice Ao74 t496.length co74)) (fun _ hk => hk.2) (.slice Ao76 t499.length co76)) (fun _ hk => hk.2) (.slice Ao78 t502.length co78)) (fun _ hk => ⟨hk.1.1.1, ⟨hk.1.1.2.2.1, ⟨hk.1.1.2.2.2.2.1, hk.1.1.2.2.2.2.2.1⟩⟩⟩)⟩, ⟨by (with_reducible repeat (first | apply Kd.R_alloc | apply Kd.R_drewN | apply Kd.R_drew)); exact Kd.R_mono (Kd.R_far (p := ⟨gb472, 2, none⟩) (Kd.R_far (p := ⟨gb472, 1, none⟩) (Kd.R_far (p := ⟨gb472, 0, none⟩) (Kd.R_far (p := ⟨gb506, 2, none⟩) (Kd.R_far (p := ⟨gb506, 1, none⟩) (Kd.R_far (p := ⟨gb506, 0, none⟩) (Kd.R_types (Kd.R_types HO504.out BK506.out (by decide)) BK472.out (by decide)) (fun _ hk => hk.1.2) (.slice Ao74 t496.length co74)) (fun _ hk => hk.1.2) (.slice Ao76 t499.length co76)) (fun _ hk => hk.1.2) (.slice Ao78 t502.length co78)) (fun _ hk => hk.2) (.slice Ao74 t496.length co74)) (fun _ hk => hk.2) (.slice Ao76 t499.length co76)) (fun _ hk => hk.2) (.slice Ao78 t502.length co78)) (fun _ hk => hk.1.1.1)⟩, ⟨by (iterate 3 ((with_reducible repeat (first | refine blk_drewN ?_ _ | refine blk_drew ?_ | refine blk_alloc ?_ _)); refine blk_far ?_ NB471_472.out _)); (with_reducible repeat (first | refine blk_drewN ?_ _ | refine blk_drew ?_ | refine blk_alloc ?_ _)); refine blk_far ?_ NB471_506.out _; (iterate 2 ((with_reducible repeat (first | refine blk_drewN ?_ _ | refine blk_drew ?_ | refine blk_alloc ?_ _)); refine blk_far ?_ NB471_506.out _)); (with_reducible repeat (first | refine blk_drewN ?_ _ | refine blk_drew ?_ | refine blk_alloc ?_ _)); exact BK471.out⟩, ⟨by (with_reducible repeat (first | refine blk_drewN ?_ _ | refine blk_drew ?_ | refine blk_alloc ?_ _)); refine blk_put (cs := #[.slice Ao74 t496.length co74, .slice Ao76 t499.length co76, .slice Ao69 x473002_1.length co69]) ?_ 2 _ rfl; (with_reducible repeat (first | refine blk_drewN ?_ _ | refine blk_drew ?_ | refine blk_alloc ?_ _)); refine blk_put (cs := #[.slice Ao74 t496.length co74, .slice Ao68 x473001_1.length co68, .slice Ao69 x473002_1.length co69]) ?_ 1 _ rfl; (with_reducible repeat (first | refine blk_drewN ?_ _ | refine blk_drew ?_ | refine blk_alloc ?_ _)); refine blk_put (cs := #[.slice Ao67 x473000_1.length co67, .slice Ao68 x473001_1.length co68, .slice Ao69 x473002_1.length co69]) ?_ 0 _ rfl; (iterate 3 ((with_reducible repeat (first | refine blk_drewN ?_ _ | refine blk_drew ?_ | refine blk_alloc ?_ _)); refine blk_far ?_ NB472_506.out _)); (with_reducible repeat (first | refine blk_drewN ?_ _ | refine blk_drew ?_ | refine blk_alloc ?_ _)); exact BK472.out⟩, ⟨by repeat (first | (with_reducible first | exact HB.out | apply below_alloc | apply pw_below_drewN | apply below_drew1 | refine below_set ?_ GE471.out | refine below_set ?_ GE472.out | refine below_set ?_ GE506.out) | exact HB.out)⟩⟩
    ·rw [if_neg c66] at H
     have c66b0 : (t505 == 0) = false := beq_eq_false_iff_ne.mpr c66
     have c66b1 : (t505 != 0) = true := bne_iff_ne.mpr c66
     as_aux_lemma =>
      have H' := mkA H
      clear H
      obtain ⟨Ao85, co85, eo85⟩ := Kd.V_slice HO_473000.out
      subst eo85
      obtain ⟨Ao86, co86, eo86⟩ := Kd.V_slice HO_473001.out
      subst eo86
      obtain ⟨Ao87, co87, eo87⟩ := Kd.R_slice HO_473002.out
      subst eo87
      try go_wp2
      have n0_ := mkA (Kd.V_drew HO_473000.out)
      have n1_ := mkA (Kd.V_drew HO_473001.out)
      have n2_ := mkA (Kd.R_drew HO_473002.out)
      have n3_ := mkA (blk_drew BK471.out)
      have n4_ := mkA (blk_drew BK472.out)
      have n5_ := mkA (below_drew1 HB.out)
      clear HO_473000 HO_473001 HO_473002 BK471 BK472 HB
      have HO_473000 := n0_
      have HO_473001 := n1_
      have HO_473002 := n2_
      have BK471 := n3_
      have BK472 := n4_
      have HB := n5_
      clear n0_ n1_ n2_ n3_ n4_ n5_
      have p495 : 0 ≤ (x6_1 : Int) := odt
      have q495 : x6_1 < (l0.length : Int) := odt
      obtain ⟨ad495, e495, hx495_0, hx495_1, hx495_2, hx495_3⟩ := at_T69 HR0.out x6_1 p495 q495
      have hw495_3 := hx495_3
      have hw495_2 := hx495_2
      have hw495_1 := hx495_1
      have hw495_0 := hx495_0
      cases e495
      replace hx495_0 := (cb HB.out hx495_0).trans hx495_0
      replace hx495_1 := (cb HB.out hx495_1).trans hx495_1
      replace hx495_2 := (cb HB.out hx495_2).trans hx495_2
      replace hx495_3 := (cb HB.out hx495_3).trans hx495_3
      replace p495 := eq_true p495
      replace q495 := eq_true q495
      refine start_ (n := 12) (S := fun w' => w'.cell? ⟨gb472, 0, none⟩ = some (.slice Ao85 x473000_1.length co85) ∧ w'.cell? ⟨gb472, 1, none⟩ = some (.slice Ao86 x473001_1.length co86) ∧ w'.cell? ⟨gb472, 2, none⟩ = some (.slice Ao87 x473002_1.length co87) ∧ w'.cell? (ad495.add ((x6_1).toNat * 4)) = some (.int .i64 ((rd_T69 l0 x6_1).f0)) ∧ w'.cell? ⟨(ad495.add ((x6_1).toNat * 4)).block, (ad495.add ((x6_1).toNat * 4)).off + 1, none⟩ = some (.string ((rd_T69 l0 x6_1).f1)) ∧ w'.cell? ⟨(ad495.add ((x6_1).toNat * 4)).block, (ad495.add ((x6_1).toNat * 4)).off + 2, none⟩ = some (.string ((rd_T69 l0 x6_1).f2)) ∧ w'.cell? ⟨(ad495.add ((x6_1).toNat * 4)).block, (ad495.add ((x6_1).toNat * 4)).off + 3, none⟩ = some (.int .i64 ((rd_T69 l0 x6_1).f3))) (ds := []) #[false, false, false, false, false, false, false, false, false, false, false, false] (by kernel_rfl) rfl rfl ⟨(blk_cell BK472.out 0).trans rfl, (blk_cell BK472.out 1).trans rfl, (blk_cell BK472.out 2).trans rfl, ((cb HB.out hw495_0).trans hw495_0), ((cb HB.out hw495_1).trans hw495_1), ((cb HB.out hw495_2).trans hw495_2), ((cb HB.out hw495_3).trans hw495_3)⟩ (fun hHeld => ?_); refine with_tabW newsreelref10_Made.tab7 newsreelref10_Made.bits7 (fun HT_ HW_ => ?_)
      generalize wc.drew = w88 at HO_473000 HO_473001 HO_473002 BK471 BK472 HB hx495_0 hx495_1 hx495_2 hx495_3 hHeld ⊢
      refine pure_ (i := 1) (N := some 30) (v := ?_) (a' := ?_) #[false, true, false, false, false, false, false, false, false, false, false, false] rfl rfl (any_of HT_.out (by kernel_rfl)) (fun _ _ _ h => h) (Or.inl ⟨by rfl, ?_⟩) ?_ ?_
      rotate_left
      ·intro w'
       go_simp
       with_reducible rfl
      rotate_left
      ·simp only [Act.put, sA, s0, sS, i64_w, i32_w]
       rfl
      refine pure_ (i := 2) (N := some 31) (v := ?_) (a' := ?_) #[false, true, true, false, false, false, false, false, false, false, false, false] rfl rfl (any_of HT_.out (by kernel_rfl)) (fun _ _ _ h => h) (Or.inl ⟨by rfl, ?_⟩) ?_ ?_
      rotate_left
      ·intro w'
       go_simp
       with_reducible rfl
      rotate_left
      ·simp only [Act.put, sA, s0, sS, i64_w, i32_w]
       rfl
      refine pure_ (i := 3) (N := some 32) (v := ?_) (a' := ?_) #[false, true, true, true, false, false, false, false, false, false, false, false] rfl rfl (any_of HT_.out (by kernel_rfl)) (fun _ _ _ h => h) (Or.inl ⟨by rfl, ?_⟩) ?_ ?_
      rotate_left
      ·intro w'
       go_simp
       with_reducible rfl
      rotate_left
      ·simp only [Act.put, sA, s0, sS, i64_w, i32_w]
       rfl
      refine take_ (i := 0) (N := some 29) (v := ?_) (a' := ?_) #[true, true, true, true, false, false, false, false, false, false, false, false] rfl rfl (take_ofW HT_.out HW_.out (by kernel_rfl)) (fun _ _ _ h => h) (Or.inl ⟨by rfl, ?_⟩) hHeld ?_ ?_
      rotate_left
      ·rintro w' ⟨s0, s1, s2, s3, s4, s5, s6⟩
       go_simp
       with_reducible rfl
      rotate_left
      ·simp only [Act.put, sA, s0, sS, i64_w, i32_w]
       rfl
      refine take_ (i := 4) (N := some 33) (v := ?_) (a' := ?_) #[true, true, true, true, true, false, false, false, false, false, false, false] rfl rfl (take_ofW HT_.out HW_.out (by kernel_rfl)) (fun _ _ _ h => h) (Or.inl ⟨by rfl, ?_⟩) hHeld ?_ ?_
      rotate_left
      ·rintro w' ⟨s0, s1, s2, s3, s4, s5, s6⟩
       first | (have hz_ := fun (a : Act) (o : Oper) (x : Operand) (ho : o.op = .load 69 x) (hx : a.eval x = _) => exec_load_at (P := Try.prog) (W := w') (cs := [_, _, _]) ho hx Try.underlying69 rfl (by kernel_rfl) s3 ⟨s4, s5, s6, trivial⟩; refine (hz_ _ _ (.tmp 32) ?_ ?_).trans ?_; (focus rfl); (focus (first | (with_reducible rfl) | (go_simp; done))); with_reducible rfl) | (go_simp; with_reducible rfl)
      rotate_left
      ·simp only [Act.put, sA, s0, sS, i64_w, i32_w]
       rfl
      refine join_ (σ := Value × Value × Value × Nat) 2 #[true, true, true, true, true, true, true, true, true, true, false, false] (fun s_ => [(34, .tuple #[.agg #[s_.1, s_.2.1, s_.2.2.1], .int .i64 t505]), (7, .pointer (some ⟨s_.2.2.2, 0, none⟩)), (28, .tuple #[.agg #[s_.1, s_.2.1, s_.2.2.1], .int .i64 t505]), (35, .agg #[s_.1, s_.2.1, s_.2.2.1]), (36, .int .i64 t505)]) (fun s_ w' => (w'.cell? ⟨gb472, 0, none⟩ = some (.slice Ao85 x473000_1.length co85) ∧ w'.cell? ⟨gb472, 1, none⟩ = some (.slice Ao86 x473001_1.length co86) ∧ w'.cell? ⟨gb472, 2, none⟩ = some (.slice Ao87 x473002_1.length co87) ∧ w'.cell? (ad495.add ((x6_1).toNat * 4)) = some (.int .i64 ((rd_T69 l0 x6_1).f0)) ∧ w'.cell? ⟨(ad495.add ((x6_1).toNat * 4)).block, (ad495.add ((x6_1).toNat * 4)).off + 1, none⟩ = some (.string ((rd_T69 l0 x6_1).f1)) ∧ w'.cell? ⟨(ad495.add ((x6_1).toNat * 4)).block, (ad495.add ((x6_1).toNat * 4)).off + 2, none⟩ = some (.string ((rd_T69 l0 x6_1).f2)) ∧ w'.cell? ⟨(ad495.add ((x6_1).toNat * 4)).block, (ad495.add ((x6_1).toNat * 4)).off + 3, none⟩ = some (.int .i64 ((rd_T69 l0 x6_1).f3))) ∧ (Kd.R k77 77 w' w.heap.size (fun k_ => (w.heap.size ≤ k_)) s_.1 t496) ∧ (Kd.V k77 77 w' w.heap.size (fun k_ => (w.heap.size ≤ k_) ∧ some k_ ≠ (s_.1 : Value).ownBlock ∧ some k_ ≠ (s_.2.2.1 : Value).ownBlock ∧ some k_ ≠ (.slice Ao87 x473002_1.length co87 : Value).ownBlock ∧ k_ ≠ gb471 ∧ k_ ≠ gb472 ∧ k_ ≠ s_.2.2.2) s_.2.1 t499) ∧ (Kd.R k69 69 w' w.heap.size (fun k_ => (w.heap.size ≤ k_) ∧ some k_ ≠ (.slice Ao87 x473002_1.length co87 : Value).ownBlock) s_.2.2.1 t502) ∧ (Kd.V k77 77 w' w.heap.size (fun k_ => (w.heap.size ≤ k_) ∧ some k_ ≠ (s_.1 : Value).ownBlock ∧ some k_ ≠ (s_.2.2.1 : Value).ownBlock ∧ some k_ ≠ (.slice Ao87 x473002_1.length co87 : Value).ownBlock ∧ k_ ≠ gb471 ∧ k_ ≠ gb472 ∧ k_ ≠ s_.2.2.2) (.slice Ao85 x473000_1.length co85) x473000_1) ∧ (Kd.V k77 77 w' w.heap.size (fun k_ => (w.heap.size ≤ k_) ∧ some k_ ≠ (s_.1 : Value).ownBlock ∧ some k_ ≠ (s_.2.2.1 : Value).ownBlock ∧ some k_ ≠ (.slice Ao87 x473002_1.length co87 : Value).ownBlock ∧ k_ ≠ gb471 ∧ k_ ≠ gb472 ∧ k_ ≠ s_.2.2.2) (.slice Ao86 x473001_1.length co86) x473001_1) ∧ (Kd.R k69 69 w' w.heap.size (fun k_ => (w.heap.size ≤ k_) ∧ some k_ ≠ (s_.2.2.1 : Value).ownBlock) (.slice Ao87 x473002_1.length co87) x473002_1) ∧ (w'.heap[gb471]? = some (.cells #[.slice none 0 0, .slice none 0 0, .slice none 0 0] 67 (0, 0))) ∧ (w'.heap[gb472]? = some (.cells #[.slice Ao85 x473000_1.length co85, .slice Ao86 x473001_1.length co86, .slice Ao87 x473002_1.length co87] 67 (0, 0))) ∧ (w'.heap[s_.2.2.2]? = some (.cells #[.slice none 0 0, .slice none 0 0, .slice none 0 0] 67 (0, 0))) ∧ (w.heap.size ≤ s_.2.2.2) ∧ (w.heap.size ≤ s_.2.2.2) ∧ (gb471 ≠ s_.2.2.2) ∧ (s_.2.2.2 ≠ gb471) ∧ (gb472 ≠ s_.2.2.2) ∧ (s_.2.2.2 ≠ gb472) ∧ (Below w.heap.size w w')) ?_ ?_
      rotate_left
      ·intro hCont
       refine two_ (i := 5) (j := 9) (Ni := some 34) (Nj := some 7) #[true, true, true, true, true, true, false, false, false, false, false, false] #[true, true, true, true, true, false, false, false, false, true, false, false] rfl rfl rfl rfl (two_of HT_.out (by kernel_rfl)) (by decide) (by decide) (fun K hK => ?_) (fun K hK => ?_)
       ·skip
        refine goes_ Try.func43 (by kernel_rfl) rfl #[.agg #[.slice Ao85 x473000_1.length co85, .slice Ao86 x473001_1.length co86, .slice Ao87 x473002_1.length co87], .agg #[.int .i64 ((rd_T69 l0 x6_1).f0), .string ((rd_T69 l0 x6_1).f1), .string ((rd_T69 l0 x6_1).f2), .int .i64 ((rd_T69 l0 x6_1).f3)]] (by rfl) rfl rfl ca ?_
        with_reducible refine (newsreelref10_Do.calls kj7 _ _ x473000_1 (fun k_ => ((w.heap.size ≤ k_) ∧ (some k_ ≠ (.slice Ao87 x473002_1.length co87 : Value).ownBlock ∧ (k_ ≠ gb471 ∧ k_ ≠ gb472)))) _ _ x473001_1 _ _ x473002_1 ((rd_T69 l0 x6_1).f0) ((rd_T69 l0 x6_1).f1) ((rd_T69 l0 x6_1).f2) ((rd_T69 l0 x6_1).f3) t496 t499 t502 t505 _ ?side1 ?side2 ?side3 ?side4 ?side5 A65.out).mono ?_
        (case side1 => exact Kd.C_y (Kd.V_reads' HO_473000.out).2.2)
        (case side2 => exact (Kd.V_reads' HO_473000.out).2.1)
        (case side3 => exact HO_473001.out)
        (case side4 => exact Kd.C_y (Kd.R_reads' HO_473002.out).2.2)
        (case side5 => exact (Kd.R_reads' HO_473002.out).2.1)
        rintro e w89 ⟨v497, v500, v503, rfl, ho0, ho1, ho2, hb⟩
        refine ⟨_, rfl, ?_⟩
        have n0_ := mkA (Kd.V_mono (Kd.V_told (Kd.V_told (Kd.V_old (Kd.V_y HO_473000.out) hb) (Kd.R_base ho0)) (Kd.R_base ho2)) (fun _ h_ => h_.1))
        have n1_ := mkA (Kd.V_mono (Kd.V_told (Kd.V_told (Kd.V_old (Kd.V_y HO_473001.out) hb) (Kd.R_base ho0)) (Kd.R_base ho2)) (fun _ h_ => h_.1))
        have n2_ := mkA (Kd.R_elder' (Kd.R_y HO_473002.out) (Kd.R_base ho2) hb)
        have n3_ := mkA (Kd.R_lower (Kd.R_newM (M := fun k_ => (w.heap.size ≤ k_)) (Kd.R_mono (ok' := fun k_ => True) ho0 (fun _ hk_ => trivial)) (below_size (below_y HB.out)) (fun k_ h_ => h_)) (below_size (below_y HB.out)))
        have n4_ := mkA (Kd.V_lower (Kd.V_mono (ok' := fun k_ => (w.heap.size ≤ k_) ∧ some k_ ≠ (v497 : Value).ownBlock ∧ some k_ ≠ (v503 : Value).ownBlock ∧ some k_ ≠ (.slice Ao87 x473002_1.length co87 : Value).ownBlock ∧ k_ ≠ gb471 ∧ k_ ≠ gb472) ho1 (fun k_ hk_ => ⟨Or.elim hk_.1 (fun hs_ => hs_.1) (fun hn_ => (Nat.le_trans (below_size (below_y HB.out)) hn_)), hk_.2.1, hk_.2.2, Or.elim hk_.1 (fun hs_ => hs_.2.1) (fun hn_ => (Kd.fresh' (Kd.R_lt (Kd.R_y HO_473002.out)) k_ hn_)), Or.elim hk_.1 (fun hs_ => hs_.2.2.1) (fun hn_ => (Kd.freshB (blk_y BK471.out) k_ hn_)), Or.elim hk_.1 (fun hs_ => hs_.2.2.2) (fun hn_ => (Kd.freshB (blk_y BK472.out) k_ hn_))⟩)) (below_size (below_y HB.out)))
        have n5_ := mkA (Kd.R_lower (Kd.R_new' (Kd.R_newM (M := fun k_ => (w.heap.size ≤ k_)) (Kd.R_mono (ok' := fun k_ => True) ho2 (fun _ hk_ => trivial)) (below_size (below_y HB.out)) (fun k_ h_ => h_)) (Kd.R_lt (Kd.R_y HO_473002.out))) (below_size (below_y HB.out)))
        have n6_ := mkA (blk_below (blk_y BK471.out) hb)
        have n7_ := mkA (blk_below (blk_y BK472.out) hb)
        have n8_ := mkA (below_step (below_y HB.out) hb)
        clear HO_473000 HO_473001 HO_473002 BK471 BK472 HB
        have HO_473000 := n0_
        have HO_473001 := n1_
        have HO_473002 := n2_
        have HO498 := n3_
        have HO501 := n4_
        have HO504 := n5_
        have BK471 := n6_
        have BK472 := n7_
        have HB := n8_
        clear n0_ n1_ n2_ n3_ n4_ n5_ n6_ n7_ n8_
        (try clear hb)
        (try clear hb2)
        (try clear hk)
        (try clear hi)
        (try clear ho0)
        (try clear ho1)
        (try clear ho2)
        refine hK.out _ _ ⟨(blk_cell BK472.out 0).trans rfl, (blk_cell BK472.out 1).trans rfl, (blk_cell BK472.out 2).trans rfl, ((cb HB.out hw495_0).trans hw495_0), ((cb HB.out hw495_1).trans hw495_1), ((cb HB.out hw495_2).trans hw495_2), ((cb HB.out hw495_3).trans hw495_3)⟩ (fun hHeld => ?_)
        clear hK K
        refine norm_ (a' := ?_) ?_ ?_
        rotate_left
        ·show Act.put _ (some 34) _ = _
         simp only [Act.put, sA, s0, sS, i64_w, i32_w]
         rfl
        refine pure_ (i := 6) (N := some 28) (v := ?_) (a' := ?_) #[true, true, true, true, true, true, true, false, false, false, false, false] rfl rfl (any_of HT_.out (by kernel_rfl)) (fun _ _ _ h => h) (Or.inl ⟨by rfl, ?_⟩) ?_ ?_
        rotate_left
        ·intro w'
         go_simp
         with_reducible rfl
        rotate_left
        ·simp only [Act.put, sA, s0, sS, i64_w, i32_w]
         rfl
        refine pure_ (i := 7) (N := some 35) (v := ?_) (a' := ?_) #[true, true, true, true, true, true, true, true, false, false, false, false] rfl rfl (any_of HT_.out (by kernel_rfl)) (fun _ _ _ h => h) (Or.inl ⟨by rfl, ?_⟩) ?_ ?_
        rotate_left
        ·intro w'
         go_simp
         with_reducible rfl
        rotate_left
        ·simp only [Act.put, sA, s0, sS, i64_w, i32_w]
         rfl
        refine pure_ (i := 8) (N := some 36) (v := ?_) (a' := ?_) #[true, true, true, true, true, true, true, true, true, false, false, false] rfl rfl (any_of HT_.out (by kernel_rfl)) (fun _ _ _ h => h) (Or.inl ⟨by rfl, ?_⟩) ?_ ?_
        rotate_left
        ·intro w'
         go_simp
         with_reducible rfl
        rotate_left
        ·simp only [Act.put, sA, s0, sS, i64_w, i32_w]
         rfl
        refine one_ (i := 9) (N := some 7) #[true, true, true, true, true, true, true, true, true, true, false, false] rfl rfl (one_of HT_.out (by kernel_rfl)) (by decide) (fun K hK => ?_)
        refine box_step ?hg (N := 7) ?hd (cs := #[.slice none 0 0, .slice none 0 0, .slice none 0 0]) (t := 67) ?hr ?_; (case hd => rfl); (case hg => rfl); (case hr => first | (go_simp; done) | (go_simp; rfl))
        intro gb506 hg w90 hbox hb
        have n0_ := mkA (Kd.V_below (Kd.V_elderB (Kd.V_y HO_473000.out) gb506 (Nat.le_of_eq hg.symm)) hb)
        have n1_ := mkA (Kd.V_below (Kd.V_elderB (Kd.V_y HO_473001.out) gb506 (Nat.le_of_eq hg.symm)) hb)
        have n2_ := mkA (Kd.R_below (Kd.R_y HO_473002.out) hb)
        have n3_ := mkA (Kd.R_below (Kd.R_y HO498.out) hb)
        have n4_ := mkA (Kd.V_below (Kd.V_elderB (Kd.V_y HO501.out) gb506 (Nat.le_of_eq hg.symm)) hb)
        have n5_ := mkA (Kd.R_below (Kd.R_y HO504.out) hb)
        have n6_ := mkA (blk_below (blk_y BK471.out) hb)
        have n7_ := mkA (blk_below (blk_y BK472.out) hb)
        have n8_ := mkA (below_step (below_y HB.out) hb)
        have n9_ := mkA (hbox)
        have n10_ := mkA ((gz hg HB.out : w.heap.size ≤ gb506))
        have n11_ := mkA ((gz hg HB.out : w.heap.size ≤ gb506))
        have n12_ := mkA ((gn hg BK471.out : gb471 ≠ gb506))
        have n13_ := mkA ((gm hg BK471.out : gb506 ≠ gb471))
        have n14_ := mkA ((gn hg BK472.out : gb472 ≠ gb506))
        have n15_ := mkA ((gm hg BK472.out : gb506 ≠ gb472))
        clear HO_473000 HO_473001 HO_473002 HO498 HO501 HO504 BK471 BK472 HB
        have HO_473000 := n0_
        have HO_473001 := n1_
        have HO_473002 := n2_
        have HO498 := n3_
        have HO501 := n4_
        have HO504 := n5_
        have BK471 := n6_
        have BK472 := n7_
        have HB := n8_
        have BK506 := n9_
        have GW506 := n10_
        have GE506 := n11_
        have NB471_506 := n12_
        have NB506_471 := n13_
        have NB472_506 := n14_
        have NB506_472 := n15_
        clear n0_ n1_ n2_ n3_ n4_ n5_ n6_ n7_ n8_ n9_ n10_ n11_ n12_ n13_ n14_ n15_ hb hbox hg
        refine hK.out _ _ ⟨(blk_cell BK472.out 0).trans rfl, (blk_cell BK472.out 1).trans rfl, (blk_cell BK472.out 2).trans rfl, ((cb HB.out hw495_0).trans hw495_0), ((cb HB.out hw495_1).trans hw495_1), ((cb HB.out hw495_2).trans hw495_2), ((cb HB.out hw495_3).trans hw495_3)⟩ (fun hHeld => ?_)
        clear hK K
        refine norm_ (a' := ?_) ?_ ?_
        rotate_left
        ·show Act.put _ (some 7) _ = _
         simp only [Act.put, sA, s0, sS, i64_w, i32_w]
         rfl
        exact norm_ (by simp only [putAll, Act.put, sA, s0, sS]) (hCont (v497, v500, v503, gb506) _ ⟨hHeld, (by (with_reducible repeat (first | apply Kd.R_alloc | apply Kd.R_drewN | apply Kd.R_drew)); exact Kd.R_mono HO498.out (fun _ hk => hk.1)), (by (with_reducible repeat (first | apply Kd.V_alloc | apply Kd.V_drewN | apply Kd.V_drew)); exact Kd.V_mono HO501.out (fun _ hk => ⟨hk.1.1, ⟨hk.1.2.1, ⟨hk.1.2.2.1, ⟨hk.1.2.2.2.1, ⟨hk.1.2.2.2.2.1, ⟨hk.1.2.2.2.2.2, hk.2⟩⟩⟩⟩⟩⟩)), (by (with_reducible repeat (first | apply Kd.R_alloc | apply Kd.R_drewN | apply Kd.R_drew)); exact Kd.R_mono HO504.out (fun _ hk => ⟨hk.1.1, hk.2⟩)), (by (with_reducible repeat (first | apply Kd.V_alloc | apply Kd.V_drewN | apply Kd.V_drew)); exact Kd.V_mono HO_473000.out (fun _ hk => ⟨hk.1.1.1.1, ⟨hk.1.1.2, ⟨hk.1.2, ⟨hk.1.1.1.2.1, ⟨hk.1.1.1.2.2.1, ⟨hk.1.1.1.2.2.2, hk.2⟩⟩⟩⟩⟩⟩)), (by (with_reducible repeat (first | apply Kd.V_alloc | apply Kd.V_drewN | apply Kd.V_drew)); exact Kd.V_mono HO_473001.out (fun _ hk => ⟨hk.1.1.1.1, ⟨hk.1.1.2, ⟨hk.1.2, ⟨hk.1.1.1.2.1, ⟨hk.1.1.1.2.2.1, ⟨hk.1.1.1.2.2.2, hk.2⟩⟩⟩⟩⟩⟩)), (Kd.R_y HO_473002.out), (blk_y BK471.out), (blk_y BK472.out), (blk_y BK506.out), GW506.out, GE506.out, NB471_506.out, NB506_471.out, NB472_506.out, NB506_472.out, (below_y HB.out)⟩)
       ·skip
        refine box_step ?hg (N := 7) ?hd (cs := #[.slice none 0 0, .slice none 0 0, .slice none 0 0]) (t := 67) ?hr ?_; (case hd => rfl); (case hg => rfl); (case hr => first | (go_simp; done) | (go_simp; rfl))
        intro gb506 hg w89 hbox hb
        have n0_ := mkA (Kd.V_below (Kd.V_elderB (Kd.V_y HO_473000.out) gb506 (Nat.le_of_eq hg.symm)) hb)
        have n1_ := mkA (Kd.V_below (Kd.V_elderB (Kd.V_y HO_473001.out) gb506 (Nat.le_of_eq hg.symm)) hb)
        have n2_ := mkA (Kd.R_below (Kd.R_y HO_473002.out) hb)
        have n3_ := mkA (blk_below (blk_y BK471.out) hb)
        have n4_ := mkA (blk_below (blk_y BK472.out) hb)
        have n5_ := mkA (below_step (below_y HB.out) hb)
        have n6_ := mkA (hbox)
        have n7_ := mkA ((gz hg HB.out : w.heap.size ≤ gb506))
        have n8_ := mkA ((gz hg HB.out : w.heap.size ≤ gb506))
        have n9_ := mkA ((gn hg BK471.out : gb471 ≠ gb506))
        have n10_ := mkA ((gm hg BK471.out : gb506 ≠ gb471))
        have n11_ := mkA ((gn hg BK472.out : gb472 ≠ gb506))
        have n12_ := mkA ((gm hg BK472.out : gb506 ≠ gb472))
        clear HO_473000 HO_473001 HO_473002 BK471 BK472 HB
        have HO_473000 := n0_
        have HO_473001 := n1_
        have HO_473002 := n2_
        have BK471 := n3_
        have BK472 := n4_
        have HB := n5_
        have BK506 := n6_
        have GW506 := n7_
        have GE506 := n8_
        have NB471_506 := n9_
        have NB506_471 := n10_
        have NB472_506 := n11_
        have NB506_472 := n12_
        clear n0_ n1_ n2_ n3_ n4_ n5_ n6_ n7_ n8_ n9_ n10_ n11_ n12_ hb hbox hg
        refine hK.out _ _ ⟨(blk_cell BK472.out 0).trans rfl, (blk_cell BK472.out 1).trans rfl, (blk_cell BK472.out 2).trans rfl, ((cb HB.out hw495_0).trans hw495_0), ((cb HB.out hw495_1).trans hw495_1), ((cb HB.out hw495_2).trans hw495_2), ((cb HB.out hw495_3).trans hw495_3)⟩ (fun hHeld => ?_)
        clear hK K
        refine norm_ (a' := ?_) ?_ ?_
        rotate_left
        ·show Act.put _ (some 7) _ = _
         simp only [Act.put, sA, s0, sS, i64_w, i32_w]
         rfl
        refine one_ (i := 5) (N := some 34) #[true, true, true, true, true, true, false, false, false, true, false, false] rfl rfl (one_of HT_.out (by kernel_rfl)) (by decide) (fun K hK => ?_)
        refine goes_ Try.func43 (by kernel_rfl) rfl #[.agg #[.slice Ao85 x473000_1.length co85, .slice Ao86 x473001_1.length co86, .slice Ao87 x473002_1.length co87], .agg #[.int .i64 ((rd_T69 l0 x6_1).f0), .string ((rd_T69 l0 x6_1).f1), .string ((rd_T69 l0 x6_1).f2), .int .i64 ((rd_T69 l0 x6_1).f3)]] (by rfl) rfl rfl ca ?_
        with_reducible refine (newsreelref10_Do.calls kj7 _ _ x473000_1 (fun k_ => (((w.heap.size ≤ k_) ∧ (some k_ ≠ (.slice Ao87 x473002_1.length co87 : Value).ownBlock ∧ (k_ ≠ gb471 ∧ k_ ≠ gb472))) ∧ k_ ≠ gb506)) _ _ x473001_1 _ _ x473002_1 ((rd_T69 l0 x6_1).f0) ((rd_T69 l0 x6_1).f1) ((rd_T69 l0 x6_1).f2) ((rd_T69 l0 x6_1).f3) t496 t499 t502 t505 _ ?side1 ?side2 ?side3 ?side4 ?side5 A65.out).mono ?_
        (case side1 => exact Kd.C_y (Kd.V_reads' HO_473000.out).2.2)
        (case side2 => exact (Kd.V_reads' HO_473000.out).2.1)
        (case side3 => exact HO_473001.out)
        (case side4 => exact Kd.C_y (Kd.R_reads' HO_473002.out).2.2)
        (case side5 => exact (Kd.R_reads' HO_473002.out).2.1)
        rintro e w90 ⟨v497, v500, v503, rfl, ho0, ho1, ho2, hb⟩
        refine ⟨_, rfl, ?_⟩
        have n0_ := mkA (Kd.V_mono (Kd.V_told (Kd.V_told (Kd.V_old (Kd.V_y HO_473000.out) hb) (Kd.R_base ho0)) (Kd.R_base ho2)) (fun _ h_ => h_.1))
        have n1_ := mkA (Kd.V_mono (Kd.V_told (Kd.V_told (Kd.V_old (Kd.V_y HO_473001.out) hb) (Kd.R_base ho0)) (Kd.R_base ho2)) (fun _ h_ => h_.1))
        have n2_ := mkA (Kd.R_elder' (Kd.R_y HO_473002.out) (Kd.R_base ho2) hb)
        have n3_ := mkA (Kd.R_lower (Kd.R_newM (M := fun k_ => (w.heap.size ≤ k_)) (Kd.R_mono (ok' := fun k_ => True) ho0 (fun _ hk_ => trivial)) (below_size (below_y HB.out)) (fun k_ h_ => h_)) (below_size (below_y HB.out)))
        have n4_ := mkA (Kd.V_lower (Kd.V_mono (ok' := fun k_ => (w.heap.size ≤ k_) ∧ some k_ ≠ (v497 : Value).ownBlock ∧ some k_ ≠ (v503 : Value).ownBlock ∧ some k_ ≠ (.slice Ao87 x473002_1.length co87 : Value).ownBlock ∧ k_ ≠ gb471 ∧ k_ ≠ gb472 ∧ k_ ≠ gb506) ho1 (fun k_ hk_ => ⟨Or.elim hk_.1 (fun hs_ => hs_.1.1) (fun hn_ => (Nat.le_trans (below_size (below_y HB.out)) hn_)), hk_.2.1, hk_.2.2, Or.elim hk_.1 (fun hs_ => hs_.1.2.1) (fun hn_ => (Kd.fresh' (Kd.R_lt (Kd.R_y HO_473002.out)) k_ hn_)), Or.elim hk_.1 (fun hs_ => hs_.1.2.2.1) (fun hn_ => (Kd.freshB (blk_y BK471.out) k_ hn_)), Or.elim hk_.1 (fun hs_ => hs_.1.2.2.2) (fun hn_ => (Kd.freshB (blk_y BK472.out) k_ hn_)), Or.elim hk_.1 (fun hs_ => hs_.2) (fun hn_ => (Kd.freshB (blk_y BK506.out) k_ hn_))⟩)) (below_size (below_y HB.out)))
        have n5_ := mkA (Kd.R_lower (Kd.R_new' (Kd.R_newM (M := fun k_ => (w.heap.size ≤ k_)) (Kd.R_mono (ok' := fun k_ => True) ho2 (fun _ hk_ => trivial)) (below_size (below_y HB.out)) (fun k_ h_ => h_)) (Kd.R_lt (Kd.R_y HO_473002.out))) (below_size (below_y HB.out)))
        have n6_ := mkA (blk_below (blk_y BK471.out) hb)
        have n7_ := mkA (blk_below (blk_y BK472.out) hb)
        have n8_ := mkA (blk_below (blk_y BK506.out) hb)
        have n9_ := mkA (below_step (below_y HB.out) hb)
        clear HO_473000 HO_473001 HO_473002 BK471 BK472 BK506 HB
        have HO_473000 := n0_
        have HO_473001 := n1_
        have HO_473002 := n2_
        have HO498 := n3_
        have HO501 := n4_
        have HO504 := n5_
        have BK471 := n6_
        have BK472 := n7_
        have BK506 := n8_
        have HB := n9_
        clear n0_ n1_ n2_ n3_ n4_ n5_ n6_ n7_ n8_ n9_
        (try clear hb)
        (try clear hb2)
        (try clear hk)
        (try clear hi)
        (try clear ho0)
        (try clear ho1)
        (try clear ho2)
        refine hK.out _ _ ⟨(blk_cell BK472.out 0).trans rfl, (blk_cell BK472.out 1).trans rfl, (blk_cell BK472.out 2).trans rfl, ((cb HB.out hw495_0).trans hw495_0), ((cb HB.out hw495_1).trans hw495_1), ((cb HB.out hw495_2).trans hw495_2), ((cb HB.out hw495_3).trans hw495_3)⟩ (fun hHeld => ?_)
        clear hK K
        refine norm_ (a' := ?_) ?_ ?_
        rotate_left
        ·show Act.put _ (some 34) _ = _
         simp only [Act.put, sA, s0, sS, i64_w, i32_w]
         rfl
        refine pure_ (i := 6) (N := some 28) (v := ?_) (a' := ?_) #[true, true, true, true, true, true, true, false, false, true, false, false] rfl rfl (any_of HT_.out (by kernel_rfl)) (fun _ _ _ h => h) (Or.inl ⟨by rfl, ?_⟩) ?_ ?_
        rotate_left
        ·intro w'
         go_simp
         with_reducible rfl
        rotate_left
        ·simp only [Act.put, sA, s0, sS, i64_w, i32_w]
         rfl
        refine pure_ (i := 7) (N := some 35) (v := ?_) (a' := ?_) #[true, true, true, true, true, true, true, true, false, true, false, false] rfl rfl (any_of HT_.out (by kernel_rfl)) (fun _ _ _ h => h) (Or.inl ⟨by rfl, ?_⟩) ?_ ?_
        rotate_left
        ·intro w'
         go_simp
         with_reducible rfl
        rotate_left
        ·simp only [Act.put, sA, s0, sS, i64_w, i32_w]
         rfl
        refine pure_ (i := 8) (N := some 36) (v := ?_) (a' := ?_) #[true, true, true, true, true, true, true, true, true, true, false, false] rfl rfl (any_of HT_.out (by kernel_rfl)) (fun _ _ _ h => h) (Or.inl ⟨by rfl, ?_⟩) ?_ ?_
        rotate_left
        ·intro w'
         go_simp
         with_reducible rfl
        rotate_left
        ·simp only [Act.put, sA, s0, sS, i64_w, i32_w]
         rfl
        exact norm_ (by simp only [putAll, Act.put, sA, s0, sS]) (hCont (v497, v500, v503, gb506) _ ⟨hHeld, (by (with_reducible repeat (first | apply Kd.R_alloc | apply Kd.R_drewN | apply Kd.R_drew)); exact Kd.R_mono HO498.out (fun _ hk => hk.1)), (Kd.V_y HO501.out), (by (with_reducible repeat (first | apply Kd.R_alloc | apply Kd.R_drewN | apply Kd.R_drew)); exact Kd.R_mono HO504.out (fun _ hk => ⟨hk.1.1, hk.2⟩)), (by (with_reducible repeat (first | apply Kd.V_alloc | apply Kd.V_drewN | apply Kd.V_drew)); exact Kd.V_mono HO_473000.out (fun _ hk => ⟨hk.1.1.1.1, ⟨hk.1.2, ⟨hk.2, ⟨hk.1.1.1.2.1, ⟨hk.1.1.1.2.2.1, ⟨hk.1.1.1.2.2.2, hk.1.1.2⟩⟩⟩⟩⟩⟩)), (by (with_reducible repeat (first | apply Kd.V_alloc | apply Kd.V_drewN | apply Kd.V_drew)); exact Kd.V_mono HO_473001.out (fun _ hk => ⟨hk.1.1.1.1, ⟨hk.1.2, ⟨hk.2, ⟨hk.1.1.1.2.1, ⟨hk.1.1.1.2.2.1, ⟨hk.1.1.1.2.2.2, hk.1.1.2⟩⟩⟩⟩⟩⟩)), (Kd.R_y HO_473002.out), (blk_y BK471.out), (blk_y BK472.out), (blk_y BK506.out), GW506.out, GE506.out, NB471_506.out, NB506_471.out, NB472_506.out, NB506_472.out, (below_y HB.out)⟩)
      rintro ⟨v497, v500, v503, gb506⟩ w91 ⟨hS_, h0_, h1_, h2_, h3_, h4_, h5_, h6_, h7_, h8_, h9_, h10_, h11_, h12_, h13_, h14_, h15_⟩
      have n0_ : Aside0 (Kd.R k77 77 w91 w.heap.size (fun k_ => (w.heap.size ≤ k_)) v497 t496) := ⟨h0_⟩
      have n1_ : Aside0 (Kd.V k77 77 w91 w.heap.size (fun k_ => (w.heap.size ≤ k_) ∧ some k_ ≠ (v497 : Value).ownBlock ∧ some k_ ≠ (v503 : Value).ownBlock ∧ some k_ ≠ (.slice Ao87 x473002_1.length co87 : Value).ownBlock ∧ k_ ≠ gb471 ∧ k_ ≠ gb472 ∧ k_ ≠ gb506) v500 t499) := ⟨h1_⟩
      have n2_ : Aside0 (Kd.R k69 69 w91 w.heap.size (fun k_ => (w.heap.size ≤ k_) ∧ some k_ ≠ (.slice Ao87 x473002_1.length co87 : Value).ownBlock) v503 t502) := ⟨h2_⟩
      have n3_ : Aside0 (Kd.V k77 77 w91 w.heap.size (fun k_ => (w.heap.size ≤ k_) ∧ some k_ ≠ (v497 : Value).ownBlock ∧ some k_ ≠ (v503 : Value).ownBlock ∧ some k_ ≠ (.slice Ao87 x473002_1.length co87 : Value).ownBlock ∧ k_ ≠ gb471 ∧ k_ ≠ gb472 ∧ k_ ≠ gb506) (.slice Ao85 x473000_1.length co85) x473000_1) := ⟨h3_⟩
      have n4_ : Aside0 (Kd.V k77 77 w91 w.heap.size (fun k_ => (w.heap.size ≤ k_) ∧ some k_ ≠ (v497 : Value).ownBlock ∧ some k_ ≠ (v503 : Value).ownBlock ∧ some k_ ≠ (.slice Ao87 x473002_1.length co87 : Value).ownBlock ∧ k_ ≠ gb471 ∧ k_ ≠ gb472 ∧ k_ ≠ gb506) (.slice Ao86 x473001_1.length co86) x473001_1) := ⟨h4_⟩
      have n5_ : Aside0 (Kd.R k69 69 w91 w.heap.size (fun k_ => (w.heap.size ≤ k_) ∧ some k_ ≠ (v503 : Value).ownBlock) (.slice Ao87 x473002_1.length co87) x473002_1) := ⟨h5_⟩
      have n6_ : Aside0 (w91.heap[gb471]? = some (.cells #[.slice none 0 0, .slice none 0 0, .slice none 0 0] 67 (0, 0))) := ⟨h6_⟩
      have n7_ : Aside0 (w91.heap[gb472]? = some (.cells #[.slice Ao85 x473000_1.length co85, .slice Ao86 x473001_1.length co86, .slice Ao87 x473002_1.length co87] 67 (0, 0))) := ⟨h7_⟩
      have n8_ : Aside0 (w91.heap[gb506]? = some (.cells #[.slice none 0 0, .slice none 0 0, .slice none 0 0] 67 (0, 0))) := ⟨h8_⟩
      have n9_ : Aside0 (w.heap.size ≤ gb506) := ⟨h9_⟩
      have n10_ : Aside0 (w.heap.size ≤ gb506) := ⟨h10_⟩
      have n11_ : Aside0 (gb471 ≠ gb506) := ⟨h11_⟩
      have n12_ : Aside0 (gb506 ≠ gb471) := ⟨h12_⟩
      have n13_ : Aside0 (gb472 ≠ gb506) := ⟨h13_⟩
      have n14_ : Aside0 (gb506 ≠ gb472) := ⟨h14_⟩
      have n15_ : Aside0 (Below w.heap.size w w91) := ⟨h15_⟩
      clear HO_473000 HO_473001 HO_473002 BK471 BK472 HB h0_ h1_ h2_ h3_ h4_ h5_ h6_ h7_ h8_ h9_ h10_ h11_ h12_ h13_ h14_ h15_
      have HO498 := n0_
      have HO501 := n1_
      have HO504 := n2_
      have HO_473000 := n3_
      have HO_473001 := n4_
      have HO_473002 := n5_
      have BK471 := n6_
      have BK472 := n7_
      have BK506 := n8_
      have GW506 := n9_
      have GE506 := n10_
      have NB471_506 := n11_
      have NB506_471 := n12_
      have NB472_506 := n13_
      have NB506_472 := n14_
      have HB := n15_
      clear n0_ n1_ n2_ n3_ n4_ n5_ n6_ n7_ n8_ n9_ n10_ n11_ n12_ n13_ n14_ n15_
      have hHeld : w91.cell? ⟨gb472, 0, none⟩ = some (.slice Ao85 x473000_1.length co85) ∧ w91.cell? ⟨gb472, 1, none⟩ = some (.slice Ao86 x473001_1.length co86) ∧ w91.cell? ⟨gb472, 2, none⟩ = some (.slice Ao87 x473002_1.length co87) ∧ w91.cell? (ad495.add ((x6_1).toNat * 4)) = some (.int .i64 ((rd_T69 l0 x6_1).f0)) ∧ w91.cell? ⟨(ad495.add ((x6_1).toNat * 4)).block, (ad495.add ((x6_1).toNat * 4)).off + 1, none⟩ = some (.string ((rd_T69 l0 x6_1).f1)) ∧ w91.cell? ⟨(ad495.add ((x6_1).toNat * 4)).block, (ad495.add ((x6_1).toNat * 4)).off + 2, none⟩ = some (.string ((rd_T69 l0 x6_1).f2)) ∧ w91.cell? ⟨(ad495.add ((x6_1).toNat * 4)).block, (ad495.add ((x6_1).toNat * 4)).off + 3, none⟩ = some (.int .i64 ((rd_T69 l0 x6_1).f3)) := hS_
      obtain ⟨Ao92, co92, eo92⟩ := Kd.R_slice HO498.out
      (first | subst eo92 | (injection eo92 with f1_ f2_ f3_; have f4_ := f1_.symm; have f5_ := f3_.symm; clear f1_ f2_ f3_; subst f4_; subst f5_))
      obtain ⟨Ao94, co94, eo94⟩ := Kd.V_slice HO501.out
      (first | subst eo94 | (injection eo94 with f1_ f2_ f3_; have f4_ := f1_.symm; have f5_ := f3_.symm; clear f1_ f2_ f3_; subst f4_; subst f5_))
      obtain ⟨Ao96, co96, eo96⟩ := Kd.R_slice HO504.out
      (first | subst eo96 | (injection eo96 with f1_ f2_ f3_; have f4_ := f1_.symm; have f5_ := f3_.symm; clear f1_ f2_ f3_; subst f4_; subst f5_))
      refine norm_ (a' := ?_) ?_ ?_
      rotate_left
      ·simp only [putAll, Act.put, sA, s0, sS]
       rfl
      refine one_ (i := 10) (N := none) #[true, true, true, true, true, true, true, true, true, true, true, false] rfl rfl (one_of HT_.out (by kernel_rfl)) (by decide) (fun K hK => ?_)
      have hs93 : w91.cell? ⟨gb506, 0, none⟩ = some (.slice none 0 0) := (blk_cell BK506.out 0).trans rfl
      have hfs93 := blk_frozen BK506.out 0
      have hns93_0 := NB471_506.out
      have hns93_1 := NB472_506.out
      have hms93_0 := NB506_471.out
      have hms93_1 := NB506_472.out
      have hs95 : w91.cell? ⟨gb506, 1, none⟩ = some (.slice none 0 0) := (blk_cell BK506.out 1).trans rfl
      have hfs95 := blk_frozen BK506.out 1
      have hns95_0 := NB471_506.out
      have hns95_1 := NB472_506.out
      have hms95_0 := NB506_471.out
      have hms95_1 := NB506_472.out
      have hs97 : w91.cell? ⟨gb506, 2, none⟩ = some (.slice none 0 0) := (blk_cell BK506.out 2).trans rfl
      have hfs97 := blk_frozen BK506.out 2
      have hns97_0 := NB471_506.out
      have hns97_1 := NB472_506.out
      have hms97_0 := NB506_471.out
      have hms97_1 := NB506_472.out
      refine skip_ (w1 := ?_) (by rfl) rfl ?_ ?_
      rotate_left
      ·go_simp
       rfl
      refine hK.out _ _ ⟨((cell_far (p := ⟨gb506, _, none⟩) NB472_506.out _).trans (((cell_far (p := ⟨gb506, _, none⟩) NB472_506.out _).trans (((cell_far (p := ⟨gb506, _, none⟩) NB472_506.out _).trans (hHeld.1)))))), ((cell_far (p := ⟨gb506, _, none⟩) NB472_506.out _).trans (((cell_far (p := ⟨gb506, _, none⟩) NB472_506.out _).trans (((cell_far (p := ⟨gb506, _, none⟩) NB472_506.out _).trans (hHeld.2.1)))))), ((cell_far (p := ⟨gb506, _, none⟩) NB472_506.out _).trans (((cell_far (p := ⟨gb506, _, none⟩) NB472_506.out _).trans (((cell_far (p := ⟨gb506, _, none⟩) NB472_506.out _).trans (hHeld.2.2.1)))))), ((cell_far (p := ⟨gb506, _, none⟩) (nf hw495_0 GW506.out) _).trans (((cell_far (p := ⟨gb506, _, none⟩) (nf hw495_0 GW506.out) _).trans (((cell_far (p := ⟨gb506, _, none⟩) (nf hw495_0 GW506.out) _).trans (hHeld.2.2.2.1)))))), ((cell_far (p := ⟨gb506, _, none⟩) (nf hw495_1 GW506.out) _).trans (((cell_far (p := ⟨gb506, _, none⟩) (nf hw495_1 GW506.out) _).trans (((cell_far (p := ⟨gb506, _, none⟩) (nf hw495_1 GW506.out) _).trans (hHeld.2.2.2.2.1)))))), ((cell_far (p := ⟨gb506, _, none⟩) (nf hw495_2 GW506.out) _).trans (((cell_far (p := ⟨gb506, _, none⟩) (nf hw495_2 GW506.out) _).trans (((cell_far (p := ⟨gb506, _, none⟩) (nf hw495_2 GW506.out) _).trans (hHeld.2.2.2.2.2.1)))))), ((cell_far (p := ⟨gb506, _, none⟩) (nf hw495_3 GW506.out) _).trans (((cell_far (p := ⟨gb506, _, none⟩) (nf hw495_3 GW506.out) _).trans (((cell_far (p := ⟨gb506, _, none⟩) (nf hw495_3 GW506.out) _).trans (hHeld.2.2.2.2.2.2))))))⟩ (fun hHeld => ?_)
      clear hK K
      refine pure_ (i := 11) (N := some 8) (v := ?_) (a' := ?_) #[true, true, true, true, true, true, true, true, true, true, true, true] rfl rfl (any_of HT_.out (by kernel_rfl)) (fun _ _ _ h => h) (Or.inl ⟨by rfl, ?_⟩) ?_ ?_
      rotate_left
      ·intro w'
       go_simp
       with_reducible rfl
      rotate_left
      ·simp only [Act.put, sA, s0, sS, i64_w, i32_w]
       rfl
      refine done_ (done_of HT_.out (by kernel_rfl)) ?_
      try go_wp2_with (first | ((with_reducible refine gate_load (t := 69) rfl ?_); refine load_at2 (t := 69) ?hg ?ho (c0 := _) (cs := [_, _, _]) Try.underlying69 rfl (by kernel_rfl) hx495_0 ⟨hx495_1, hx495_2, hx495_3, trivial⟩ ?_; (case hg => rfl); (case ho => refine ⟨_, rfl, ?_⟩; first | (with_reducible rfl) | (go_simp; done))))
      go_roundg kj7
      case measure => have := HK1.out; have := HJ7.out; omega
      case rel => exact ⟨(wrap64 (x6_1 + 1)), (x473000_1), (x473001_1), (x473002_1), (.slice Ao85 x473000_1.length co85), (.slice Ao86 x473001_1.length co86), (.slice Ao87 x473002_1.length co87), (by first | rfl | (simp; done) | (simp [*]; done)), H', ⟨by have := HK1.out; have := HJ7.out; omega⟩, ⟨by (with_reducible repeat (first | apply Kd.V_alloc | apply Kd.V_drewN | apply Kd.V_drew)); exact Kd.V_mono (Kd.V_far (p := ⟨gb506, 2, none⟩) (Kd.V_far (p := ⟨gb506, 1, none⟩) (Kd.V_far (p := ⟨gb506, 0, none⟩) (Kd.V_mono HO_473000.out (fun k_ hk => (⟨hk, hk.2.2.2.2.2.2⟩ : _ ∧ k_ ≠ gb506))) (fun _ hk => hk.2) (.slice Ao92 t496.length co92)) (fun _ hk => hk.2) (.slice Ao94 t499.length co94)) (fun _ hk => hk.2) (.slice Ao96 t502.length co96)) (fun _ hk => ⟨hk.1.1, ⟨hk.1.2.2.2.1, ⟨hk.1.2.2.2.2.1, hk.1.2.2.2.2.2.1⟩⟩⟩)⟩, ⟨by (with_reducible repeat (first | apply Kd.V_alloc | apply Kd.V_drewN | apply Kd.V_drew)); exact Kd.V_mono (Kd.V_far (p := ⟨gb506, 2, none⟩) (Kd.V_far (p := ⟨gb506, 1, none⟩) (Kd.V_far (p := ⟨gb506, 0, none⟩) (Kd.V_mono HO_473001.out (fun k_ hk => (⟨hk, hk.2.2.2.2.2.2⟩ : _ ∧ k_ ≠ gb506))) (fun _ hk => hk.2) (.slice Ao92 t496.length co92)) (fun _ hk => hk.2) (.slice Ao94 t499.length co94)) (fun _ hk => hk.2) (.slice Ao96 t502.length co96)) (fun _ hk => ⟨hk.1.1, ⟨hk.1.2.2.2.1, ⟨hk.1.2.2.2.2.1, hk.1.2.2.2.2.2.1⟩⟩⟩)⟩, ⟨by (with_reducible repeat (first | apply Kd.R_alloc | apply Kd.R_drewN | apply Kd.R_drew)); exact Kd.R_mono (Kd.R_far (p := ⟨gb506, 2, none⟩) (Kd.R_far (p := ⟨gb506, 1, none⟩) (Kd.R_far (p := ⟨gb506, 0, none⟩) (Kd.R_types HO_473002.out BK506.out (by decide)) (fun _ hk => hk.2) (.slice Ao92 t496.length co92)) (fun _ hk => hk.2) (.slice Ao94 t499.length co94)) (fun _ hk => hk.2) (.slice Ao96 t502.length co96)) (fun _ hk => hk.1.1)⟩, ⟨by (iterate 3 ((with_reducible repeat (first | refine blk_drewN ?_ _ | refine blk_drew ?_ | refine blk_alloc ?_ _)); refine blk_far ?_ NB471_506.out _)); (with_reducible repeat (first | refine blk_drewN ?_ _ | refine blk_drew ?_ | refine blk_alloc ?_ _)); exact BK471.out⟩, ⟨by (iterate 3 ((with_reducible repeat (first | refine blk_drewN ?_ _ | refine blk_drew ?_ | refine blk_alloc ?_ _)); refine blk_far ?_ NB472_506.out _)); (with_reducible repeat (first | refine blk_drewN ?_ _ | refine blk_drew ?_ | refine blk_alloc ?_ _)); exact BK472.out⟩, ⟨by repeat (first | (with_reducible first | exact HB.out | apply below_alloc | apply pw_below_drewN | apply below_drew1 | refine below_set ?_ GE471.out | refine below_set ?_ GE472.out | refine below_set ?_ GE506.out) | exact HB.out)⟩⟩
   ·rw [if_neg c64] at H
    exact absurd H (by simp)
  ·rw [if_neg c63] at H
   exact absurd H (by simp)
 subst c11
 have H1 : ((newsreelref10_Sync.f kj7 x473000_1 x473001_1 x473002_1).bind fun bt474 => (if 0 ≤ x6_1 then (if x6_1 < (l0.length : Int) then ((newsreelref10_Do.f kj7 bt474.1 bt474.2.1 bt474.2.2 ((rd_T69 l0 x6_1).f0) ((rd_T69 l0 x6_1).f1) ((rd_T69 l0 x6_1).f2) ((rd_T69 l0 x6_1).f3)).bind fun bt484 => (if bt484.2.2.2 = 0 then (newsreelref10_Made.l0 kj7 l0 l1 (wrap64 (x6_1 + 1)) bt484.1 bt484.2.1 bt484.2.2.1) else (newsreelref10_Made.l0 kj7 l0 l1 (wrap64 (x6_1 + 1)) bt474.1 bt474.2.1 bt474.2.2))) else (none)) else (none))) = some (r1, r2, r3) := by rw [if_pos rfl] at H; exact H
 clear H
 have H := H1
 clear H1
 replace H := Option.bind_eq_some_iff.mp H
 obtain ⟨⟨t474, t477, t480⟩, A120, H⟩ := H
 replace H : (if 0 ≤ x6_1 then (if x6_1 < (l0.length : Int) then ((newsreelref10_Do.f kj7 t474 t477 t480 ((rd_T69 l0 x6_1).f0) ((rd_T69 l0 x6_1).f1) ((rd_T69 l0 x6_1).f2) ((rd_T69 l0 x6_1).f3)).bind fun bt484 => (if bt484.2.2.2 = 0 then (newsreelref10_Made.l0 kj7 l0 l1 (wrap64 (x6_1 + 1)) bt484.1 bt484.2.1 bt484.2.2.1) else (newsreelref10_Made.l0 kj7 l0 l1 (wrap64 (x6_1 + 1)) t474 t477 t480))) else (none)) else (none)) = some (r1, r2, r3) := H
 have A12 := mkA A120
 clear A120
 by_cases c13 : 0 ≤ x6_1
 rotate_left
 ·rw [if_neg c13] at H
  exact absurd H (by simp)
 rw [if_pos c13] at H
 have c13b0 : decide (0 ≤ x6_1) = true := decide_eq_true c13
 clear c13
 by_cases c14 : x6_1 < (l0.length : Int)
 rotate_left
 ·rw [if_neg c14] at H
  exact absurd H (by simp)
 rw [if_pos c14] at H
 have c14b0 : decide (x6_1 < (l0.length : Int)) = true := decide_eq_true c14
 clear c14
 replace H := Option.bind_eq_some_iff.mp H
 obtain ⟨⟨t484, t487, t490, t493⟩, A150, H⟩ := H
 replace H : (if t493 = 0 then (newsreelref10_Made.l0 kj7 l0 l1 (wrap64 (x6_1 + 1)) t484 t487 t490) else (newsreelref10_Made.l0 kj7 l0 l1 (wrap64 (x6_1 + 1)) t474 t477 t480)) = some (r1, r2, r3) := H
 have A15 := mkA A150
 clear A150
 by_cases c16 : t493 = 0
 rotate_left
 ·rw [if_neg c16] at H
  have c16b0 : (t493 == 0) = false := beq_eq_false_iff_ne.mpr c16
  have c16b1 : (t493 != 0) = true := bne_iff_ne.mpr c16
  as_aux_lemma =>
   have H' := mkA H
   clear H
   have hnb42 := NB472_471.out
   have hnc42 := NB471_472.out
   have hcz43_0 := bc BK472.out 0 (u473000) rfl
   have hcz43_1 := bc BK472.out 1 (u473001) rfl
   have hcz43_2 := bc BK472.out 2 (u473002) rfl
   have hfz43_0 := blk_frozen BK472.out 0
   have hfz43_1 := blk_frozen BK472.out 1
   have hfz43_2 := blk_frozen BK472.out 2
   obtain ⟨Ao44, co44, eo44⟩ := Kd.V_slice HO_473000.out
   subst eo44
   obtain ⟨Ao45, co45, eo45⟩ := Kd.V_slice HO_473001.out
   subst eo45
   obtain ⟨Ao46, co46, eo46⟩ := Kd.R_slice HO_473002.out
   subst eo46
   try go_wp2_with (first | ((with_reducible refine gate_callee (f := 52) rfl ?_); refine goesL_ (some 27) rfl rfl Try.func52 (by kernel_rfl) rfl #[.agg #[.slice Ao44 x473000_1.length co44, .slice Ao45 x473001_1.length co45, .slice Ao46 x473002_1.length co46]] rfl ca ?_; (with_reducible refine (newsreelref10_Sync.calls kj7 (fun k_ => ((w.heap.size ≤ k_) ∧ (some k_ ≠ (.slice Ao46 x473002_1.length co46 : Value).ownBlock ∧ (k_ ≠ gb471 ∧ k_ ≠ gb472)))) _ _ x473000_1 _ _ x473001_1 _ _ x473002_1 t474 t477 t480 _ ?side1 ?side2 ?side3 ?side4 ?side5 A12.out).mono ?_); (case side1 => exact HO_473000.out); (case side2 => exact Kd.C_y (Kd.V_reads' HO_473001.out).2.2); (case side3 => exact (Kd.V_reads' HO_473001.out).2.1); (case side4 => exact Kd.C_y (Kd.R_reads' HO_473002.out).2.2); (case side5 => exact (Kd.R_reads' HO_473002.out).2.1); rintro e w47 ⟨v475, v478, v481, rfl, ho0, ho1, ho2, hb⟩; refine ⟨_, rfl, ?_⟩; have n0_ := mkA (Kd.V_elder' (Kd.V_y HO_473000.out) (Kd.R_base ho2) hb); have n1_ := mkA (Kd.V_elder' (Kd.V_y HO_473001.out) (Kd.R_base ho2) hb); have n2_ := mkA (Kd.R_elder' (Kd.R_y HO_473002.out) (Kd.R_base ho2) hb); have n3_ := mkA (Kd.V_lower (Kd.V_mono (ok' := fun k_ => (w.heap.size ≤ k_) ∧ some k_ ≠ (v481 : Value).ownBlock ∧ some k_ ≠ (.slice Ao46 x473002_1.length co46 : Value).ownBlock ∧ k_ ≠ gb471 ∧ k_ ≠ gb472) ho0 (fun k_ hk_ => ⟨Or.elim hk_.1 (fun hs_ => hs_.1) (fun hn_ => (Nat.le_trans (below_size (below_y HB.out)) hn_)), hk_.2, Or.elim hk_.1 (fun hs_ => hs_.2.1) (fun hn_ => (Kd.fresh' (Kd.R_lt (Kd.R_y HO_473002.out)) k_ hn_)), Or.elim hk_.1 (fun hs_ => hs_.2.2.1) (fun hn_ => (Kd.freshB (blk_y BK471.out) k_ hn_)), Or.elim hk_.1 (fun hs_ => hs_.2.2.2) (fun hn_ => (Kd.freshB (blk_y BK472.out) k_ hn_))⟩)) (below_size (below_y HB.out))); have n4_ := mkA (Kd.V_lower (Kd.V_mono (ok' := fun k_ => (w.heap.size ≤ k_) ∧ some k_ ≠ (v481 : Value).ownBlock ∧ some k_ ≠ (.slice Ao46 x473002_1.length co46 : Value).ownBlock ∧ k_ ≠ gb471 ∧ k_ ≠ gb472) ho1 (fun k_ hk_ => ⟨Or.elim hk_.1 (fun hs_ => hs_.1) (fun hn_ => (Nat.le_trans (below_size (below_y HB.out)) hn_)), hk_.2, Or.elim hk_.1 (fun hs_ => hs_.2.1) (fun hn_ => (Kd.fresh' (Kd.R_lt (Kd.R_y HO_473002.out)) k_ hn_)), Or.elim hk_.1 (fun hs_ => hs_.2.2.1) (fun hn_ => (Kd.freshB (blk_y BK471.out) k_ hn_)), Or.elim hk_.1 (fun hs_ => hs_.2.2.2) (fun hn_ => (Kd.freshB (blk_y BK472.out) k_ hn_))⟩)) (below_size (below_y HB.out))); have n5_ := mkA (Kd.R_lower (Kd.R_new' (Kd.R_newM (M := fun k_ => (w.heap.size ≤ k_)) (Kd.R_mono (ok' := fun k_ => True) ho2 (fun _ hk_ => trivial)) (below_size (below_y HB.out)) (fun k_ h_ => h_)) (Kd.R_lt (Kd.R_y HO_473002.out))) (below_size (below_y HB.out))); have n6_ := mkA (blk_below (blk_y BK471.out) hb); have n7_ := mkA (blk_below (blk_y BK472.out) hb); have n8_ := mkA (below_step (below_y HB.out) hb); clear HO_473000; clear HO_473001; clear HO_473002; clear BK471; clear BK472; clear HB; have HO_473000 := n0_; have HO_473001 := n1_; have HO_473002 := n2_; have HO476 := n3_; have HO479 := n4_; have HO482 := n5_; have BK471 := n6_; have BK472 := n7_; have HB := n8_; clear n0_ n1_ n2_ n3_ n4_ n5_ n6_ n7_ n8_; (try clear hb); (try clear hb2); (try clear hk); (try clear hi); (try clear ho0); (try clear ho1); (try clear ho2); obtain ⟨Ao48, co48, eo48⟩ := Kd.V_slice HO476.out; subst eo48; have hcz49_0 := bc BK472.out 0 (.slice Ao44 x473000_1.length co44) rfl; have hcz49_1 := bc BK472.out 1 (.slice Ao45 x473001_1.length co45) rfl; have hcz49_2 := bc BK472.out 2 (.slice Ao46 x473002_1.length co46) rfl; have hfz49_0 := blk_frozen BK472.out 0; have hfz49_1 := blk_frozen BK472.out 1; have hfz49_2 := blk_frozen BK472.out 2; obtain ⟨Ao50, co50, eo50⟩ := Kd.V_slice HO479.out; subst eo50; obtain ⟨Ao51, co51, eo51⟩ := Kd.R_slice HO482.out; subst eo51))
   have n0_ : Aside0 (Kd.V k77 77 (((w47.setCell ⟨gb472, 0, none⟩ (.slice Ao48 t474.length co48)).setCell ⟨gb472, 1, none⟩ (.slice Ao50 t477.length co50)).setCell ⟨gb472, 2, none⟩ (.slice Ao51 t480.length co51)) w.heap.size (fun k_ => (w.heap.size ≤ k_) ∧ some k_ ≠ (.slice Ao46 x473002_1.length co46 : Value).ownBlock ∧ some k_ ≠ (.slice Ao51 t480.length co51 : Value).ownBlock ∧ k_ ≠ gb471 ∧ k_ ≠ gb472) (.slice Ao44 x473000_1.length co44) x473000_1) := ⟨by (with_reducible repeat (first | apply Kd.V_alloc | apply Kd.V_drewN | apply Kd.V_drew)); exact Kd.V_mono (Kd.V_far (p := ⟨gb472, 2, none⟩) (Kd.V_far (p := ⟨gb472, 1, none⟩) (Kd.V_far (p := ⟨gb472, 0, none⟩) (Kd.V_mono HO_473000.out (fun k_ hk => (⟨hk, hk.1.2.2.2⟩ : _ ∧ k_ ≠ gb472))) (fun _ hk => hk.2) (.slice Ao48 t474.length co48)) (fun _ hk => hk.2) (.slice Ao50 t477.length co50)) (fun _ hk => hk.2) (.slice Ao51 t480.length co51)) (fun _ hk => ⟨hk.1.1.1, ⟨hk.1.1.2.1, ⟨hk.1.2, ⟨hk.1.1.2.2.1, hk.1.1.2.2.2⟩⟩⟩⟩)⟩
   have n1_ : Aside0 (Kd.V k77 77 (((w47.setCell ⟨gb472, 0, none⟩ (.slice Ao48 t474.length co48)).setCell ⟨gb472, 1, none⟩ (.slice Ao50 t477.length co50)).setCell ⟨gb472, 2, none⟩ (.slice Ao51 t480.length co51)) w.heap.size (fun k_ => (w.heap.size ≤ k_) ∧ some k_ ≠ (.slice Ao46 x473002_1.length co46 : Value).ownBlock ∧ some k_ ≠ (.slice Ao51 t480.length co51 : Value).ownBlock ∧ k_ ≠ gb471 ∧ k_ ≠ gb472) (.slice Ao45 x473001_1.length co45) x473001_1) := ⟨by (with_reducible repeat (first | apply Kd.V_alloc | apply Kd.V_drewN | apply Kd.V_drew)); exact Kd.V_mono (Kd.V_far (p := ⟨gb472, 2, none⟩) (Kd.V_far (p := ⟨gb472, 1, none⟩) (Kd.V_far (p := ⟨gb472, 0, none⟩) (Kd.V_mono HO_473001.out (fun k_ hk => (⟨hk, hk.1.2.2.2⟩ : _ ∧ k_ ≠ gb472))) (fun _ hk => hk.2) (.slice Ao48 t474.length co48)) (fun _ hk => hk.2) (.slice Ao50 t477.length co50)) (fun _ hk => hk.2) (.slice Ao51 t480.length co51)) (fun _ hk => ⟨hk.1.1.1, ⟨hk.1.1.2.1, ⟨hk.1.2, ⟨hk.1.1.2.2.1, hk.1.1.2.2.2⟩⟩⟩⟩)⟩
   have n2_ : Aside0 (Kd.R k69 69 (((w47.setCell ⟨gb472, 0, none⟩ (.slice Ao48 t474.length co48)).setCell ⟨gb472, 1, none⟩ (.slice Ao50 t477.length co50)).setCell ⟨gb472, 2, none⟩ (.slice Ao51 t480.length co51)) w.heap.size (fun k_ => (w.heap.size ≤ k_) ∧ some k_ ≠ (.slice Ao51 t480.length co51 : Value).ownBlock) (.slice Ao46 x473002_1.length co46) x473002_1) := ⟨by (with_reducible repeat (first | apply Kd.R_alloc | apply Kd.R_drewN | apply Kd.R_drew)); exact Kd.R_mono (Kd.R_far (p := ⟨gb472, 2, none⟩) (Kd.R_far (p := ⟨gb472, 1, none⟩) (Kd.R_far (p := ⟨gb472, 0, none⟩) (Kd.R_types HO_473002.out BK472.out (by decide)) (fun _ hk => hk.2) (.slice Ao48 t474.length co48)) (fun _ hk => hk.2) (.slice Ao50 t477.length co50)) (fun _ hk => hk.2) (.slice Ao51 t480.length co51)) (fun _ hk => ⟨hk.1.1, hk.1.2⟩)⟩
   have n3_ : Aside0 (Kd.V k77 77 (((w47.setCell ⟨gb472, 0, none⟩ (.slice Ao48 t474.length co48)).setCell ⟨gb472, 1, none⟩ (.slice Ao50 t477.length co50)).setCell ⟨gb472, 2, none⟩ (.slice Ao51 t480.length co51)) w.heap.size (fun k_ => (w.heap.size ≤ k_) ∧ some k_ ≠ (.slice Ao46 x473002_1.length co46 : Value).ownBlock ∧ some k_ ≠ (.slice Ao51 t480.length co51 : Value).ownBlock ∧ k_ ≠ gb471 ∧ k_ ≠ gb472) (.slice Ao48 t474.length co48) t474) := ⟨by (with_reducible repeat (first | apply Kd.V_alloc | apply Kd.V_drewN | apply Kd.V_drew)); exact Kd.V_mono (Kd.V_far (p := ⟨gb472, 2, none⟩) (Kd.V_far (p := ⟨gb472, 1, none⟩) (Kd.V_far (p := ⟨gb472, 0, none⟩) (Kd.V_mono HO476.out (fun k_ hk => (⟨hk, hk.2.2.2.2⟩ : _ ∧ k_ ≠ gb472))) (fun _ hk => hk.2) (.slice Ao48 t474.length co48)) (fun _ hk => hk.2) (.slice Ao50 t477.length co50)) (fun _ hk => hk.2) (.slice Ao51 t480.length co51)) (fun _ hk => ⟨hk.1.1, ⟨hk.1.2.2.1, ⟨hk.1.2.1, ⟨hk.1.2.2.2.1, hk.1.2.2.2.2⟩⟩⟩⟩)⟩
   have n4_ : Aside0 (Kd.V k77 77 (((w47.setCell ⟨gb472, 0, none⟩ (.slice Ao48 t474.length co48)).setCell ⟨gb472, 1, none⟩ (.slice Ao50 t477.length co50)).setCell ⟨gb472, 2, none⟩ (.slice Ao51 t480.length co51)) w.heap.size (fun k_ => (w.heap.size ≤ k_) ∧ some k_ ≠ (.slice Ao46 x473002_1.length co46 : Value).ownBlock ∧ some k_ ≠ (.slice Ao51 t480.length co51 : Value).ownBlock ∧ k_ ≠ gb471 ∧ k_ ≠ gb472) (.slice Ao50 t477.length co50) t477) := ⟨by (with_reducible repeat (first | apply Kd.V_alloc | apply Kd.V_drewN | apply Kd.V_drew)); exact Kd.V_mono (Kd.V_far (p := ⟨gb472, 2, none⟩) (Kd.V_far (p := ⟨gb472, 1, none⟩) (Kd.V_far (p := ⟨gb472, 0, none⟩) (Kd.V_mono HO479.out (fun k_ hk => (⟨hk, hk.2.2.2.2⟩ : _ ∧ k_ ≠ gb472))) (fun _ hk => hk.2) (.slice Ao48 t474.length co48)) (fun _ hk => hk.2) (.slice Ao50 t477.length co50)) (fun _ hk => hk.2) (.slice Ao51 t480.length co51)) (fun _ hk => ⟨hk.1.1, ⟨hk.1.2.2.1, ⟨hk.1.2.1, ⟨hk.1.2.2.2.1, hk.1.2.2.2.2⟩⟩⟩⟩)⟩
   have n5_ : Aside0 (Kd.R k69 69 (((w47.setCell ⟨gb472, 0, none⟩ (.slice Ao48 t474.length co48)).setCell ⟨gb472, 1, none⟩ (.slice Ao50 t477.length co50)).setCell ⟨gb472, 2, none⟩ (.slice Ao51 t480.length co51)) w.heap.size (fun k_ => (w.heap.size ≤ k_) ∧ some k_ ≠ (.slice Ao46 x473002_1.length co46 : Value).ownBlock) (.slice Ao51 t480.length co51) t480) := ⟨by (with_reducible repeat (first | apply Kd.R_alloc | apply Kd.R_drewN | apply Kd.R_drew)); exact Kd.R_mono (Kd.R_far (p := ⟨gb472, 2, none⟩) (Kd.R_far (p := ⟨gb472, 1, none⟩) (Kd.R_far (p := ⟨gb472, 0, none⟩) (Kd.R_types HO482.out BK472.out (by decide)) (fun _ hk => hk.2) (.slice Ao48 t474.length co48)) (fun _ hk => hk.2) (.slice Ao50 t477.length co50)) (fun _ hk => hk.2) (.slice Ao51 t480.length co51)) (fun _ hk => ⟨hk.1.1.1, hk.1.2⟩)⟩
   have n6_ : Aside0 ((((w47.setCell ⟨gb472, 0, none⟩ (.slice Ao48 t474.length co48)).setCell ⟨gb472, 1, none⟩ (.slice Ao50 t477.length co50)).setCell ⟨gb472, 2, none⟩ (.slice Ao51 t480.length co51)).heap[gb471]? = some (.cells #[.slice none 0 0, .slice none 0 0, .slice none 0 0] 67 (0, 0))) := ⟨by (iterate 3 ((with_reducible repeat (first | refine blk_drewN ?_ _ | refine blk_drew ?_ | refine blk_alloc ?_ _)); refine blk_far ?_ NB471_472.out _)); (with_reducible repeat (first | refine blk_drewN ?_ _ | refine blk_drew ?_ | refine blk_alloc ?_ _)); exact BK471.out⟩
   have n7_ : Aside0 ((((w47.setCell ⟨gb472, 0, none⟩ (.slice Ao48 t474.length co48)).setCell ⟨gb472, 1, none⟩ (.slice Ao50 t477.length co50)).setCell ⟨gb472, 2, none⟩ (.slice Ao51 t480.length co51)).heap[gb472]? = some (.cells #[.slice Ao48 t474.length co48, .slice Ao50 t477.length co50, .slice Ao51 t480.length co51] 67 (0, 0))) := ⟨by (with_reducible repeat (first | refine blk_drewN ?_ _ | refine blk_drew ?_ | refine blk_alloc ?_ _)); refine blk_put (cs := #[.slice Ao48 t474.length co48, .slice Ao50 t477.length co50, .slice Ao46 x473002_1.length co46]) ?_ 2 _ rfl; (with_reducible repeat (first | refine blk_drewN ?_ _ | refine blk_drew ?_ | refine blk_alloc ?_ _)); refine blk_put (cs := #[.slice Ao48 t474.length co48, .slice Ao45 x473001_1.length co45, .slice Ao46 x473002_1.length co46]) ?_ 1 _ rfl; (with_reducible repeat (first | refine blk_drewN ?_ _ | refine blk_drew ?_ | refine blk_alloc ?_ _)); refine blk_put (cs := #[.slice Ao44 x473000_1.length co44, .slice Ao45 x473001_1.length co45, .slice Ao46 x473002_1.length co46]) ?_ 0 _ rfl; (with_reducible repeat (first | refine blk_drewN ?_ _ | refine blk_drew ?_ | refine blk_alloc ?_ _)); exact BK472.out⟩
   have n8_ : Aside0 (Below w.heap.size w (((w47.setCell ⟨gb472, 0, none⟩ (.slice Ao48 t474.length co48)).setCell ⟨gb472, 1, none⟩ (.slice Ao50 t477.length co50)).setCell ⟨gb472, 2, none⟩ (.slice Ao51 t480.length co51))) := ⟨by repeat (first | (with_reducible first | exact HB.out | apply below_alloc | apply pw_below_drewN | apply below_drew1 | refine below_set ?_ GE471.out | refine below_set ?_ GE472.out) | exact HB.out)⟩
   (try clear HO_473000)
   (try clear HO_473001)
   (try clear HO_473002)
   (try clear HO476)
   (try clear HO479)
   (try clear HO482)
   (try clear BK471)
   (try clear BK472)
   (try clear HB)
   generalize (((w47.setCell ⟨gb472, 0, none⟩ (.slice Ao48 t474.length co48)).setCell ⟨gb472, 1, none⟩ (.slice Ao50 t477.length co50)).setCell ⟨gb472, 2, none⟩ (.slice Ao51 t480.length co51)) = w52 at n0_ n1_ n2_ n3_ n4_ n5_ n6_ n7_ n8_ ⊢
   have HO_473000 := n0_
   have HO_473001 := n1_
   have HO_473002 := n2_
   have HO476 := n3_
   have HO479 := n4_
   have HO482 := n5_
   have BK471 := n6_
   have BK472 := n7_
   have HB := n8_
   clear n0_ n1_ n2_ n3_ n4_ n5_ n6_ n7_ n8_
   have n0_ := mkA (Kd.V_drew HO_473000.out)
   have n1_ := mkA (Kd.V_drew HO_473001.out)
   have n2_ := mkA (Kd.R_drew HO_473002.out)
   have n3_ := mkA (Kd.V_drew HO476.out)
   have n4_ := mkA (Kd.V_drew HO479.out)
   have n5_ := mkA (Kd.R_drew HO482.out)
   have n6_ := mkA (blk_drew BK471.out)
   have n7_ := mkA (blk_drew BK472.out)
   have n8_ := mkA (below_drew1 HB.out)
   clear HO_473000 HO_473001 HO_473002 HO476 HO479 HO482 BK471 BK472 HB
   have HO_473000 := n0_
   have HO_473001 := n1_
   have HO_473002 := n2_
   have HO476 := n3_
   have HO479 := n4_
   have HO482 := n5_
   have BK471 := n6_
   have BK472 := n7_
   have HB := n8_
   clear n0_ n1_ n2_ n3_ n4_ n5_ n6_ n7_ n8_
   have p483 : 0 ≤ (x6_1 : Int) := odt
   have q483 : x6_1 < (l0.length : Int) := odt
   obtain ⟨ad483, e483, hx483_0, hx483_1, hx483_2, hx483_3⟩ := at_T69 HR0.out x6_1 p483 q483
   have hw483_3 := hx483_3
   have hw483_2 := hx483_2
   have hw483_1 := hx483_1
   have hw483_0 := hx483_0
   cases e483
   replace hx483_0 := (cb HB.out hx483_0).trans hx483_0
   replace hx483_1 := (cb HB.out hx483_1).trans hx483_1
   replace hx483_2 := (cb HB.out hx483_2).trans hx483_2
   replace hx483_3 := (cb HB.out hx483_3).trans hx483_3
   replace p483 := eq_true p483
   replace q483 := eq_true q483
   refine start_ (n := 12) (S := fun w' => w'.cell? ⟨gb472, 0, none⟩ = some (.slice Ao48 t474.length co48) ∧ w'.cell? ⟨gb472, 1, none⟩ = some (.slice Ao50 t477.length co50) ∧ w'.cell? ⟨gb472, 2, none⟩ = some (.slice Ao51 t480.length co51) ∧ w'.cell? (ad483.add ((x6_1).toNat * 4)) = some (.int .i64 ((rd_T69 l0 x6_1).f0)) ∧ w'.cell? ⟨(ad483.add ((x6_1).toNat * 4)).block, (ad483.add ((x6_1).toNat * 4)).off + 1, none⟩ = some (.string ((rd_T69 l0 x6_1).f1)) ∧ w'.cell? ⟨(ad483.add ((x6_1).toNat * 4)).block, (ad483.add ((x6_1).toNat * 4)).off + 2, none⟩ = some (.string ((rd_T69 l0 x6_1).f2)) ∧ w'.cell? ⟨(ad483.add ((x6_1).toNat * 4)).block, (ad483.add ((x6_1).toNat * 4)).off + 3, none⟩ = some (.int .i64 ((rd_T69 l0 x6_1).f3))) (ds := []) #[false, false, false, false, false, false, false, false, false, false, false, false] (by kernel_rfl) rfl rfl ⟨(blk_cell BK472.out 0).trans rfl, (blk_cell BK472.out 1).trans rfl, (blk_cell BK472.out 2).trans rfl, ((cb HB.out hw483_0).trans hw483_0), ((cb HB.out hw483_1).trans hw483_1), ((cb HB.out hw483_2).trans hw483_2), ((cb HB.out hw483_3).trans hw483_3)⟩ (fun hHeld => ?_); refine with_tabW newsreelref10_Made.tab7 newsreelref10_Made.bits7 (fun HT_ HW_ => ?_)
   generalize w52.drew = w53 at HO_473000 HO_473001 HO_473002 HO476 HO479 HO482 BK471 BK472 HB hx483_0 hx483_1 hx483_2 hx483_3 hHeld ⊢
   refine pure_ (i := 1) (N := some 30) (v := ?_) (a' := ?_) #[false, true, false, false, false, false, false, false, false, false, false, false] rfl rfl (any_of HT_.out (by kernel_rfl)) (fun _ _ _ h => h) (Or.inl ⟨by rfl, ?_⟩) ?_ ?_
   rotate_left
   ·intro w'
    go_simp
    with_reducible rfl
   rotate_left
   ·simp only [Act.put, sA, s0, sS, i64_w, i32_w]
    rfl
   refine pure_ (i := 2) (N := some 31) (v := ?_) (a' := ?_) #[false, true, true, false, false, false, false, false, false, false, false, false] rfl rfl (any_of HT_.out (by kernel_rfl)) (fun _ _ _ h => h) (Or.inl ⟨by rfl, ?_⟩) ?_ ?_
   rotate_left
   ·intro w'
    go_simp
    with_reducible rfl
   rotate_left
   ·simp only [Act.put, sA, s0, sS, i64_w, i32_w]
    rfl
   refine pure_ (i := 3) (N := some 32) (v := ?_) (a' := ?_) #[false, true, true, true, false, false, false, false, false, false, false, false] rfl rfl (any_of HT_.out (by kernel_rfl)) (fun _ _ _ h => h) (Or.inl ⟨by rfl, ?_⟩) ?_ ?_
   rotate_left
   ·intro w'
    go_simp
    with_reducible rfl
   rotate_left
   ·simp only [Act.put, sA, s0, sS, i64_w, i32_w]
    rfl
   refine take_ (i := 0) (N := some 29) (v := ?_) (a' := ?_) #[true, true, true, true, false, false, false, false, false, false, false, false] rfl rfl (take_ofW HT_.out HW_.out (by kernel_rfl)) (fun _ _ _ h => h) (Or.inl ⟨by rfl, ?_⟩) hHeld ?_ ?_
   rotate_left
   ·rintro w' ⟨s0, s1, s2, s3, s4, s5, s6⟩
    go_simp
    with_reducible rfl
   rotate_left
   ·simp only [Act.put, sA, s0, sS, i64_w, i32_w]
    rfl
   refine take_ (i := 4) (N := some 33) (v := ?_) (a' := ?_) #[true, true, true, true, true, false, false, false, false, false, false, false] rfl rfl (take_ofW HT_.out HW_.out (by kernel_rfl)) (fun _ _ _ h => h) (Or.inl ⟨by rfl, ?_⟩) hHeld ?_ ?_
   rotate_left
   ·rintro w' ⟨s0, s1, s2, s3, s4, s5, s6⟩
    first | (have hz_ := fun (a : Act) (o : Oper) (x : Operand) (ho : o.op = .load 69 x) (hx : a.eval x = _) => exec_load_at (P := Try.prog) (W := w') (cs := [_, _, _]) ho hx Try.underlying69 rfl (by kernel_rfl) s3 ⟨s4, s5, s6, trivial⟩; refine (hz_ _ _ (.tmp 32) ?_ ?_).trans ?_; (focus rfl); (focus (first | (with_reducible rfl) | (go_simp; done))); with_reducible rfl) | (go_simp; with_reducible rfl)
   rotate_left
   ·simp only [Act.put, sA, s0, sS, i64_w, i32_w]
    rfl
   refine join_ (σ := Value × Value × Value × Nat) 2 #[true, true, true, true, true, true, true, true, true, true, false, false] (fun s_ => [(34, .tuple #[.agg #[s_.1, s_.2.1, s_.2.2.1], .int .i64 t493]), (7, .pointer (some ⟨s_.2.2.2, 0, none⟩)), (28, .tuple #[.agg #[s_.1, s_.2.1, s_.2.2.1], .int .i64 t493]), (35, .agg #[s_.1, s_.2.1, s_.2.2.1]), (36, .int .i64 t493)]) (fun s_ w' => (w'.cell? ⟨gb472, 0, none⟩ = some (.slice Ao48 t474.length co48) ∧ w'.cell? ⟨gb472, 1, none⟩ = some (.slice Ao50 t477.length co50) ∧ w'.cell? ⟨gb472, 2, none⟩ = some (.slice Ao51 t480.length co51) ∧ w'.cell? (ad483.add ((x6_1).toNat * 4)) = some (.int .i64 ((rd_T69 l0 x6_1).f0)) ∧ w'.cell? ⟨(ad483.add ((x6_1).toNat * 4)).block, (ad483.add ((x6_1).toNat * 4)).off + 1, none⟩ = some (.string ((rd_T69 l0 x6_1).f1)) ∧ w'.cell? ⟨(ad483.add ((x6_1).toNat * 4)).block, (ad483.add ((x6_1).toNat * 4)).off + 2, none⟩ = some (.string ((rd_T69 l0 x6_1).f2)) ∧ w'.cell? ⟨(ad483.add ((x6_1).toNat * 4)).block, (ad483.add ((x6_1).toNat * 4)).off + 3, none⟩ = some (.int .i64 ((rd_T69 l0 x6_1).f3))) ∧ (Kd.V k77 77 w' w.heap.size (fun k_ => (w.heap.size ≤ k_) ∧ some k_ ≠ (.slice Ao51 t480.length co51 : Value).ownBlock ∧ some k_ ≠ (s_.1 : Value).ownBlock ∧ some k_ ≠ (s_.2.2.1 : Value).ownBlock ∧ some k_ ≠ (.slice Ao46 x473002_1.length co46 : Value).ownBlock ∧ k_ ≠ gb471 ∧ k_ ≠ gb472 ∧ k_ ≠ s_.2.2.2) (.slice Ao48 t474.length co48) t474) ∧ (Kd.V k77 77 w' w.heap.size (fun k_ => (w.heap.size ≤ k_) ∧ some k_ ≠ (.slice Ao51 t480.length co51 : Value).ownBlock ∧ some k_ ≠ (s_.1 : Value).ownBlock ∧ some k_ ≠ (s_.2.2.1 : Value).ownBlock ∧ some k_ ≠ (.slice Ao46 x473002_1.length co46 : Value).ownBlock ∧ k_ ≠ gb471 ∧ k_ ≠ gb472 ∧ k_ ≠ s_.2.2.2) (.slice Ao50 t477.length co50) t477) ∧ (Kd.R k69 69 w' w.heap.size (fun k_ => (w.heap.size ≤ k_) ∧ some k_ ≠ (s_.2.2.1 : Value).ownBlock ∧ some k_ ≠ (.slice Ao46 x473002_1.length co46 : Value).ownBlock) (.slice Ao51 t480.length co51) t480) ∧ (Kd.R k77 77 w' w.heap.size (fun k_ => (w.heap.size ≤ k_)) s_.1 t484) ∧ (Kd.V k77 77 w' w.heap.size (fun k_ => (w.heap.size ≤ k_) ∧ some k_ ≠ (.slice Ao51 t480.length co51 : Value).ownBlock ∧ some k_ ≠ (s_.1 : Value).ownBlock ∧ some k_ ≠ (s_.2.2.1 : Value).ownBlock ∧ some k_ ≠ (.slice Ao46 x473002_1.length co46 : Value).ownBlock ∧ k_ ≠ gb471 ∧ k_ ≠ gb472 ∧ k_ ≠ s_.2.2.2) s_.2.1 t487) ∧ (Kd.R k69 69 w' w.heap.size (fun k_ => (w.heap.size ≤ k_) ∧ some k_ ≠ (.slice Ao51 t480.length co51 : Value).ownBlock ∧ some k_ ≠ (.slice Ao46 x473002_1.length co46 : Value).ownBlock) s_.2.2.1 t490) ∧ (Kd.V k77 77 w' w.heap.size (fun k_ => (w.heap.size ≤ k_) ∧ some k_ ≠ (.slice Ao51 t480.length co51 : Value).ownBlock ∧ some k_ ≠ (s_.1 : Value).ownBlock ∧ some k_ ≠ (s_.2.2.1 : Value).ownBlock ∧ some k_ ≠ (.slice Ao46 x473002_1.length co46 : Value).ownBlock ∧ k_ ≠ gb471 ∧ k_ ≠ gb472 ∧ k_ ≠ s_.2.2.2) (.slice Ao44 x473000_1.length co44) x473000_1) ∧ (Kd.V k77 77 w' w.heap.size (fun k_ => (w.heap.size ≤ k_) ∧ some k_ ≠ (.slice Ao51 t480.length co51 : Value).ownBlock ∧ some k_ ≠ (s_.1 : Value).ownBlock ∧ some k_ ≠ (s_.2.2.1 : Value).ownBlock ∧ some k_ ≠ (.slice Ao46 x473002_1.length co46 : Value).ownBlock ∧ k_ ≠ gb471 ∧ k_ ≠ gb472 ∧ k_ ≠ s_.2.2.2) (.slice Ao45 x473001_1.length co45) x473001_1) ∧ (Kd.R k69 69 w' w.heap.size (fun k_ => (w.heap.size ≤ k_) ∧ some k_ ≠ (.slice Ao51 t480.length co51 : Value).ownBlock ∧ some k_ ≠ (s_.2.2.1 : Value).ownBlock) (.slice Ao46 x473002_1.length co46) x473002_1) ∧ (w'.heap[gb471]? = some (.cells #[.slice none 0 0, .slice none 0 0, .slice none 0 0] 67 (0, 0))) ∧ (w'.heap[gb472]? = some (.cells #[.slice Ao48 t474.length co48, .slice Ao50 t477.length co50, .slice Ao51 t480.length co51] 67 (0, 0))) ∧ (w'.heap[s_.2.2.2]? = some (.cells #[.slice none 0 0, .slice none 0 0, .slice none 0 0] 67 (0, 0))) ∧ (w.heap.size ≤ s_.2.2.2) ∧ (w.heap.size ≤ s_.2.2.2) ∧ (gb471 ≠ s_.2.2.2) ∧ (s_.2.2.2 ≠ gb471) ∧ (gb472 ≠ s_.2.2.2) ∧ (s_.2.2.2 ≠ gb472) ∧ (Below w.heap.size w w')) ?_ ?_
   rotate_left
   ·intro hCont
    refine two_ (i := 5) (j := 9) (Ni := some 34) (Nj := some 7) #[true, true, true, true, true, true, false, false, false, false, false, false] #[true, true, true, true, true, false, false, false, false, true, false, false] rfl rfl rfl rfl (two_of HT_.out (by kernel_rfl)) (by decide) (by decide) (fun K hK => ?_) (fun K hK => ?_)
    ·skip
     refine goes_ Try.func43 (by kernel_rfl) rfl #[.agg #[.slice Ao48 t474.length co48, .slice Ao50 t477.length co50, .slice Ao51 t480.length co51], .agg #[.int .i64 ((rd_T69 l0 x6_1).f0), .string ((rd_T69 l0 x6_1).f1), .string ((rd_T69 l0 x6_1).f2), .int .i64 ((rd_T69 l0 x6_1).f3)]] (by rfl) rfl rfl ca ?_
     with_reducible refine (newsreelref10_Do.calls kj7 _ _ t474 (fun k_ => ((w.heap.size ≤ k_) ∧ (some k_ ≠ (.slice Ao46 x473002_1.length co46 : Value).ownBlock ∧ (some k_ ≠ (.slice Ao51 t480.length co51 : Value).ownBlock ∧ (k_ ≠ gb471 ∧ k_ ≠ gb472))))) _ _ t477 _ _ t480 ((rd_T69 l0 x6_1).f0) ((rd_T69 l0 x6_1).f1) ((rd_T69 l0 x6_1).f2) ((rd_T69 l0 x6_1).f3) t484 t487 t490 t493 _ ?side1 ?side2 ?side3 ?side4 ?side5 A15.out).mono ?_
     (case side1 => exact Kd.C_y (Kd.V_reads' HO476.out).2.2)
     (case side2 => exact (Kd.V_reads' HO476.out).2.1)
     (case side3 => exact HO479.out)
     (case side4 => exact Kd.C_y (Kd.R_reads' HO482.out).2.2)
     (case side5 => exact (Kd.R_reads' HO482.out).2.1)
     rintro e w54 ⟨v485, v488, v491, rfl, ho0, ho1, ho2, hb⟩
     refine ⟨_, rfl, ?_⟩
     have n0_ := mkA (Kd.V_mono (Kd.V_told (Kd.V_told (Kd.V_old (Kd.V_y HO_473000.out) hb) (Kd.R_base ho0)) (Kd.R_base ho2)) (fun _ h_ => h_.1))
     have n1_ := mkA (Kd.V_mono (Kd.V_told (Kd.V_told (Kd.V_old (Kd.V_y HO_473001.out) hb) (Kd.R_base ho0)) (Kd.R_base ho2)) (fun _ h_ => h_.1))
     have n2_ := mkA (Kd.R_elder' (Kd.R_y HO_473002.out) (Kd.R_base ho2) hb)
     have n3_ := mkA (Kd.V_mono (Kd.V_told (Kd.V_told (Kd.V_old (Kd.V_y HO476.out) hb) (Kd.R_base ho0)) (Kd.R_base ho2)) (fun _ h_ => h_.1))
     have n4_ := mkA (Kd.V_mono (Kd.V_told (Kd.V_told (Kd.V_old (Kd.V_y HO479.out) hb) (Kd.R_base ho0)) (Kd.R_base ho2)) (fun _ h_ => h_.1))
     have n5_ := mkA (Kd.R_elder' (Kd.R_y HO482.out) (Kd.R_base ho2) hb)
     have n6_ := mkA (Kd.R_lower (Kd.R_newM (M := fun k_ => (w.heap.size ≤ k_)) (Kd.R_mono (ok' := fun k_ => True) ho0 (fun _ hk_ => trivial)) (below_size (below_y HB.out)) (fun k_ h_ => h_)) (below_size (below_y HB.out)))
     have n7_ := mkA (Kd.V_lower (Kd.V_mono (ok' := fun k_ => (w.heap.size ≤ k_) ∧ some k_ ≠ (v485 : Value).ownBlock ∧ some k_ ≠ (v491 : Value).ownBlock ∧ some k_ ≠ (.slice Ao46 x473002_1.length co46 : Value).ownBlock ∧ some k_ ≠ (.slice Ao51 t480.length co51 : Value).ownBlock ∧ k_ ≠ gb471 ∧ k_ ≠ gb472) ho1 (fun k_ hk_ => ⟨Or.elim hk_.1 (fun hs_ => hs_.1) (fun hn_ => (Nat.le_trans (below_size (below_y HB.out)) hn_)), hk_.2.1, hk_.2.2, Or.elim hk_.1 (fun hs_ => hs_.2.1) (fun hn_ => (Kd.fresh' (Kd.R_lt (Kd.R_y HO_473002.out)) k_ hn_)), Or.elim hk_.1 (fun hs_ => hs_.2.2.1) (fun hn_ => (Kd.fresh' (Kd.R_lt (Kd.R_y HO482.out)) k_ hn_)), Or.elim hk_.1 (fun hs_ => hs_.2.2.2.1) (fun hn_ => (Kd.freshB (blk_y BK471.out) k_ hn_)), Or.elim hk_.1 (fun hs_ => hs_.2.2.2.2) (fun hn_ => (Kd.freshB (blk_y BK472.out) k_ hn_))⟩)) (below_size (below_y HB.out)))
     have n8_ := mkA (Kd.R_lower (Kd.R_new' (Kd.R_new' (Kd.R_newM (M := fun k_ => (w.heap.size ≤ k_)) (Kd.R_mono (ok' := fun k_ => True) ho2 (fun _ hk_ => trivial)) (below_size (below_y HB.out)) (fun k_ h_ => h_)) (Kd.R_lt (Kd.R_y HO_473002.out))) (Kd.R_lt (Kd.R_y HO482.out))) (below_size (below_y HB.out)))
     have n9_ := mkA (blk_below (blk_y BK471.out) hb)
     have n10_ := mkA (blk_below (blk_y BK472.out) hb)
     have n11_ := mkA (below_step (below_y HB.out) hb)
     clear HO_473000 HO_473001 HO_473002 HO476 HO479 HO482 BK471 BK472 HB
     have HO_473000 := n0_
     have HO_473001 := n1_
     have HO_473002 := n2_
     have HO476 := n3_
     have HO479 := n4_
     have HO482 := n5_
     have HO486 := n6_
     have HO489 := n7_
     have HO492 := n8_
     have BK471 := n9_
     have BK472 := n10_
     have HB := n11_
     clear n0_ n1_ n2_ n3_ n4_ n5_ n6_ n7_ n8_ n9_ n10_ n11_
     (try clear hb)
     (try clear hb2)
     (try clear hk)
     (try clear hi)
     (try clear ho0)
     (try clear ho1)
     (try clear ho2)
     refine hK.out _ _ ⟨(blk_cell BK472.out 0).trans rfl, (blk_cell BK472.out 1).trans rfl, (blk_cell BK472.out 2).trans rfl, ((cb HB.out hw483_0).trans hw483_0), ((cb HB.out hw483_1).trans hw483_1), ((cb HB.out hw483_2).trans hw483_2), ((cb HB.out hw483_3).trans hw483_3)⟩ (fun hHeld => ?_)
     clear hK K
     refine norm_ (a' := ?_) ?_ ?_
     rotate_left
     ·show Act.put _ (some 34) _ = _
      simp only [Act.put, sA, s0, sS, i64_w, i32_w]
      rfl
     refine pure_ (i := 6) (N := some 28) (v := ?_) (a' := ?_) #[true, true, true, true, true, true, true, false, false, false, false, false] rfl rfl (any_of HT_.out (by kernel_rfl)) (fun _ _ _ h => h) (Or.inl ⟨by rfl, ?_⟩) ?_ ?_
     rotate_left
     ·intro w'
      go_simp
      with_reducible rfl
     rotate_left
     ·simp only [Act.put, sA, s0, sS, i64_w, i32_w]
      rfl
     refine pure_ (i := 7) (N := some 35) (v := ?_) (a' := ?_) #[true, true, true, true, true, true, true, true, false, false, false, false] rfl rfl (any_of HT_.out (by kernel_rfl)) (fun _ _ _ h => h) (Or.inl ⟨by rfl, ?_⟩) ?_ ?_
     rotate_left
     ·intro w'
      go_simp
      with_reducible rfl
     rotate_left
     ·simp only [Act.put, sA, s0, sS, i64_w, i32_w]
      rfl
     refine pure_ (i := 8) (N := some 36) (v := ?_) (a' := ?_) #[true, true, true, true, true, true, true, true, true, false, false, false] rfl rfl (any_of HT_.out (by kernel_rfl)) (fun _ _ _ h => h) (Or.inl ⟨by rfl, ?_⟩) ?_ ?_
     rotate_left
     ·intro w'
      go_simp
      with_reducible rfl
     rotate_left
     ·simp only [Act.put, sA, s0, sS, i64_w, i32_w]
      rfl
     refine one_ (i := 9) (N := some 7) #[true, true, true, true, true, true, true, true, true, true, false, false] rfl rfl (one_of HT_.out (by kernel_rfl)) (by decide) (fun K hK => ?_)
     refine box_step ?hg (N := 7) ?hd (cs := #[.slice none 0 0, .slice none 0 0, .slice none 0 0]) (t := 67) ?hr ?_; (case hd => rfl); (case hg => rfl); (case hr => first | (go_simp; done) | (go_simp; rfl))
     intro gb494 hg w55 hbox hb
     have n0_ := mkA (Kd.V_below (Kd.V_elderB (Kd.V_y HO_473000.out) gb494 (Nat.le_of_eq hg.symm)) hb)
     have n1_ := mkA (Kd.V_below (Kd.V_elderB (Kd.V_y HO_473001.out) gb494 (Nat.le_of_eq hg.symm)) hb)
     have n2_ := mkA (Kd.R_below (Kd.R_y HO_473002.out) hb)
     have n3_ := mkA (Kd.V_below (Kd.V_elderB (Kd.V_y HO476.out) gb494 (Nat.le_of_eq hg.symm)) hb)
     have n4_ := mkA (Kd.V_below (Kd.V_elderB (Kd.V_y HO479.out) gb494 (Nat.le_of_eq hg.symm)) hb)
     have n5_ := mkA (Kd.R_below (Kd.R_y HO482.out) hb)
     have n6_ := mkA (Kd.R_below (Kd.R_y HO486.out) hb)
     have n7_ := mkA (Kd.V_below (Kd.V_elderB (Kd.V_y HO489.out) gb494 (Nat.le_of_eq hg.symm)) hb)
     have n8_ := mkA (Kd.R_below (Kd.R_y HO492.out) hb)
     have n9_ := mkA (blk_below (blk_y BK471.out) hb)
     have n10_ := mkA (blk_below (blk_y BK472.out) hb)
     have n11_ := mkA (below_step (below_y HB.out) hb)
     have n12_ := mkA (hbox)
     have n13_ := mkA ((gz hg HB.out : w.heap.size ≤ gb494))
     have n14_ := mkA ((gz hg HB.out : w.heap.size ≤ gb494))
     have n15_ := mkA ((gn hg BK471.out : gb471 ≠ gb494))
     have n16_ := mkA ((gm hg BK471.out : gb494 ≠ gb471))
     have n17_ := mkA ((gn hg BK472.out : gb472 ≠ gb494))
     have n18_ := mkA ((gm hg BK472.out : gb494 ≠ gb472))
     clear HO_473000 HO_473001 HO_473002 HO476 HO479 HO482 HO486 HO489 HO492 BK471 BK472 HB
     have HO_473000 := n0_
     have HO_473001 := n1_
     have HO_473002 := n2_
     have HO476 := n3_
     have HO479 := n4_
     have HO482 := n5_
     have HO486 := n6_
     have HO489 := n7_
     have HO492 := n8_
     have BK471 := n9_
     have BK472 := n10_
     have HB := n11_
     have BK494 := n12_
     have GW494 := n13_
     have GE494 := n14_
     have NB471_494 := n15_
     have NB494_471 := n16_
     have NB472_494 := n17_
     have NB494_472 := n18_
     clear n0_ n1_ n2_ n3_ n4_ n5_ n6_ n7_ n8_ n9_ n10_ n11_ n12_ n13_ n14_ n15_ n16_ n17_ n18_ hb hbox hg
     refine hK.out _ _ ⟨(blk_cell BK472.out 0).trans rfl, (blk_cell BK472.out 1).trans rfl, (blk_cell BK472.out 2).trans rfl, ((cb HB.out hw483_0).trans hw483_0), ((cb HB.out hw483_1).trans hw483_1), ((cb HB.out hw483_2).trans hw483_2), ((cb HB.out hw483_3).trans hw483_3)⟩ (fun hHeld => ?_)
     clear hK K
     refine norm_ (a' := ?_) ?_ ?_
     rotate_left
     ·show Act.put _ (some 7) _ = _
      simp only [Act.put, sA, s0, sS, i64_w, i32_w]
      rfl
     exact norm_ (by simp only [putAll, Act.put, sA, s0, sS]) (hCont (v485, v488, v491, gb494) _ ⟨hHeld, (by (with_reducible repeat (first | apply Kd.V_alloc | apply Kd.V_drewN | apply Kd.V_drew)); exact Kd.V_mono HO476.out (fun _ hk => ⟨hk.1.1.1.1, ⟨hk.1.1.1.2.2.1, ⟨hk.1.1.2, ⟨hk.1.2, ⟨hk.1.1.1.2.1, ⟨hk.1.1.1.2.2.2.1, ⟨hk.1.1.1.2.2.2.2, hk.2⟩⟩⟩⟩⟩⟩⟩)), (by (with_reducible repeat (first | apply Kd.V_alloc | apply Kd.V_drewN | apply Kd.V_drew)); exact Kd.V_mono HO479.out (fun _ hk => ⟨hk.1.1.1.1, ⟨hk.1.1.1.2.2.1, ⟨hk.1.1.2, ⟨hk.1.2, ⟨hk.1.1.1.2.1, ⟨hk.1.1.1.2.2.2.1, ⟨hk.1.1.1.2.2.2.2, hk.2⟩⟩⟩⟩⟩⟩⟩)), (by (with_reducible repeat (first | apply Kd.R_alloc | apply Kd.R_drewN | apply Kd.R_drew)); exact Kd.R_mono HO482.out (fun _ hk => ⟨hk.1.1, ⟨hk.2, hk.1.2⟩⟩)), (by (with_reducible repeat (first | apply Kd.R_alloc | apply Kd.R_drewN | apply Kd.R_drew)); exact Kd.R_mono HO486.out (fun _ hk => hk.1)), (by (with_reducible repeat (first | apply Kd.V_alloc | apply Kd.V_drewN | apply Kd.V_drew)); exact Kd.V_mono HO489.out (fun _ hk => ⟨hk.1.1, ⟨hk.1.2.2.2.2.1, ⟨hk.1.2.1, ⟨hk.1.2.2.1, ⟨hk.1.2.2.2.1, ⟨hk.1.2.2.2.2.2.1, ⟨hk.1.2.2.2.2.2.2, hk.2⟩⟩⟩⟩⟩⟩⟩)), (by (with_reducible repeat (first | apply Kd.R_alloc | apply Kd.R_drewN | apply Kd.R_drew)); exact Kd.R_mono HO492.out (fun _ hk => ⟨hk.1.1.1, ⟨hk.2, hk.1.2⟩⟩)), (by (with_reducible repeat (first | apply Kd.V_alloc | apply Kd.V_drewN | apply Kd.V_drew)); exact Kd.V_mono HO_473000.out (fun _ hk => ⟨hk.1.1.1.1, ⟨hk.1.1.1.2.2.1, ⟨hk.1.1.2, ⟨hk.1.2, ⟨hk.1.1.1.2.1, ⟨hk.1.1.1.2.2.2.1, ⟨hk.1.1.1.2.2.2.2, hk.2⟩⟩⟩⟩⟩⟩⟩)), (by (with_reducible repeat (first | apply Kd.V_alloc | apply Kd.V_drewN | apply Kd.V_drew)); exact Kd.V_mono HO_473001.out (fun _ hk => ⟨hk.1.1.1.1, ⟨hk.1.1.1.2.2.1, ⟨hk.1.1.2, ⟨hk.1.2, ⟨hk.1.1.1.2.1, ⟨hk.1.1.1.2.2.2.1, ⟨hk.1.1.1.2.2.2.2, hk.2⟩⟩⟩⟩⟩⟩⟩)), (by (with_reducible repeat (first | apply Kd.R_alloc | apply Kd.R_drewN | apply Kd.R_drew)); exact Kd.R_mono HO_473002.out (fun _ hk => ⟨hk.1.1, ⟨hk.1.2, hk.2⟩⟩)), (blk_y BK471.out), (blk_y BK472.out), (blk_y BK494.out), GW494.out, GE494.out, NB471_494.out, NB494_471.out, NB472_494.out, NB494_472.out, (below_y HB.out)⟩)
    ·skip
     refine box_step ?hg (N := 7) ?hd (cs := #[.slice none 0 0, .slice none 0 0, .slice none 0 0]) (t := 67) ?hr ?_; (case hd => rfl); (case hg => rfl); (case hr => first | (go_simp; done) | (go_simp; rfl))
     intro gb494 hg w54 hbox hb
     have n0_ := mkA (Kd.V_below (Kd.V_elderB (Kd.V_y HO_473000.out) gb494 (Nat.le_of_eq hg.symm)) hb)
     have n1_ := mkA (Kd.V_below (Kd.V_elderB (Kd.V_y HO_473001.out) gb494 (Nat.le_of_eq hg.symm)) hb)
     have n2_ := mkA (Kd.R_below (Kd.R_y HO_473002.out) hb)
     have n3_ := mkA (Kd.V_below (Kd.V_elderB (Kd.V_y HO476.out) gb494 (Nat.le_of_eq hg.symm)) hb)
     have n4_ := mkA (Kd.V_below (Kd.V_elderB (Kd.V_y HO479.out) gb494 (Nat.le_of_eq hg.symm)) hb)
     have n5_ := mkA (Kd.R_below (Kd.R_y HO482.out) hb)
     have n6_ := mkA (blk_below (blk_y BK471.out) hb)
     have n7_ := mkA (blk_below (blk_y BK472.out) hb)
     have n8_ := mkA (below_step (below_y HB.out) hb)
     have n9_ := mkA (hbox)
     have n10_ := mkA ((gz hg HB.out : w.heap.size ≤ gb494))
     have n11_ := mkA ((gz hg HB.out : w.heap.size ≤ gb494))
     have n12_ := mkA ((gn hg BK471.out : gb471 ≠ gb494))
     have n13_ := mkA ((gm hg BK471.out : gb494 ≠ gb471))
     have n14_ := mkA ((gn hg BK472.out : gb472 ≠ gb494))
     have n15_ := mkA ((gm hg BK472.out : gb494 ≠ gb472))
     clear HO_473000 HO_473001 HO_473002 HO476 HO479 HO482 BK471 BK472 HB
     have HO_473000 := n0_
     have HO_473001 := n1_
     have HO_473002 := n2_
     have HO476 := n3_
     have HO479 := n4_
     have HO482 := n5_
     have BK471 := n6_
     have BK472 := n7_
     have HB := n8_
     have BK494 := n9_
     have GW494 := n10_
     have GE494 := n11_
     have NB471_494 := n12_
     have NB494_471 := n13_
     have NB472_494 := n14_
     have NB494_472 := n15_
     clear n0_ n1_ n2_ n3_ n4_ n5_ n6_ n7_ n8_ n9_ n10_ n11_ n12_ n13_ n14_ n15_ hb hbox hg
     refine hK.out _ _ ⟨(blk_cell BK472.out 0).trans rfl, (blk_cell BK472.out 1).trans rfl, (blk_cell BK472.out 2).trans rfl, ((cb HB.out hw483_0).trans hw483_0), ((cb HB.out hw483_1).trans hw483_1), ((cb HB.out hw483_2).trans hw483_2), ((cb HB.out hw483_3).trans hw483_3)⟩ (fun hHeld => ?_)
     clear hK K
     refine norm_ (a' := ?_) ?_ ?_
     rotate_left
     ·show Act.put _ (some 7) _ = _
      simp only [Act.put, sA, s0, sS, i64_w, i32_w]
      rfl
     refine one_ (i := 5) (N := some 34) #[true, true, true, true, true, true, false, false, false, true, false, false] rfl rfl (one_of HT_.out (by kernel_rfl)) (by decide) (fun K hK => ?_)
     refine goes_ Try.func43 (by kernel_rfl) rfl #[.agg #[.slice Ao48 t474.length co48, .slice Ao50 t477.length co50, .slice Ao51 t480.length co51], .agg #[.int .i64 ((rd_T69 l0 x6_1).f0), .string ((rd_T69 l0 x6_1).f1), .string ((rd_T69 l0 x6_1).f2), .int .i64 ((rd_T69 l0 x6_1).f3)]] (by rfl) rfl rfl ca ?_
     with_reducible refine (newsreelref10_Do.calls kj7 _ _ t474 (fun k_ => (((w.heap.size ≤ k_) ∧ (some k_ ≠ (.slice Ao46 x473002_1.length co46 : Value).ownBlock ∧ (some k_ ≠ (.slice Ao51 t480.length co51 : Value).ownBlock ∧ (k_ ≠ gb471 ∧ k_ ≠ gb472)))) ∧ k_ ≠ gb494)) _ _ t477 _ _ t480 ((rd_T69 l0 x6_1).f0) ((rd_T69 l0 x6_1).f1) ((rd_T69 l0 x6_1).f2) ((rd_T69 l0 x6_1).f3) t484 t487 t490 t493 _ ?side1 ?side2 ?side3 ?side4 ?side5 A15.out).mono ?_
     (case side1 => exact Kd.C_y (Kd.V_reads' HO476.out).2.2)
     (case side2 => exact (Kd.V_reads' HO476.out).2.1)
     (case side3 => exact HO479.out)
     (case side4 => exact Kd.C_y (Kd.R_reads' HO482.out).2.2)
     (case side5 => exact (Kd.R_reads' HO482.out).2.1)
     rintro e w55 ⟨v485, v488, v491, rfl, ho0, ho1, ho2, hb⟩
     refine ⟨_, rfl, ?_⟩
     have n0_ := mkA (Kd.V_mono (Kd.V_told (Kd.V_told (Kd.V_old (Kd.V_y HO_473000.out) hb) (Kd.R_base ho0)) (Kd.R_base ho2)) (fun _ h_ => h_.1))
     have n1_ := mkA (Kd.V_mono (Kd.V_told (Kd.V_told (Kd.V_old (Kd.V_y HO_473001.out) hb) (Kd.R_base ho0)) (Kd.R_base ho2)) (fun _ h_ => h_.1))
     have n2_ := mkA (Kd.R_elder' (Kd.R_y HO_473002.out) (Kd.R_base ho2) hb)
     have n3_ := mkA (Kd.V_mono (Kd.V_told (Kd.V_told (Kd.V_old (Kd.V_y HO476.out) hb) (Kd.R_base ho0)) (Kd.R_base ho2)) (fun _ h_ => h_.1))
     have n4_ := mkA (Kd.V_mono (Kd.V_told (Kd.V_told (Kd.V_old (Kd.V_y HO479.out) hb) (Kd.R_base ho0)) (Kd.R_base ho2)) (fun _ h_ => h_.1))
     have n5_ := mkA (Kd.R_elder' (Kd.R_y HO482.out) (Kd.R_base ho2) hb)
     have n6_ := mkA (Kd.R_lower (Kd.R_newM (M := fun k_ => (w.heap.size ≤ k_)) (Kd.R_mono (ok' := fun k_ => True) ho0 (fun _ hk_ => trivial)) (below_size (below_y HB.out)) (fun k_ h_ => h_)) (below_size (below_y HB.out)))
     have n7_ := mkA (Kd.V_lower (Kd.V_mono (ok' := fun k_ => (w.heap.size ≤ k_) ∧ some k_ ≠ (v485 : Value).ownBlock ∧ some k_ ≠ (v491 : Value).ownBlock ∧ some k_ ≠ (.slice Ao46 x473002_1.length co46 : Value).ownBlock ∧ some k_ ≠ (.slice Ao51 t480.length co51 : Value).ownBlock ∧ k_ ≠ gb471 ∧ k_ ≠ gb472 ∧ k_ ≠ gb494) ho1 (fun k_ hk_ => ⟨Or.elim hk_.1 (fun hs_ => hs_.1.1) (fun hn_ => (Nat.le_trans (below_size (below_y HB.out)) hn_)), hk_.2.1, hk_.2.2, Or.elim hk_.1 (fun hs_ => hs_.1.2.1) (fun hn_ => (Kd.fresh' (Kd.R_lt (Kd.R_y HO_473002.out)) k_ hn_)), Or.elim hk_.1 (fun hs_ => hs_.1.2.2.1) (fun hn_ => (Kd.fresh' (Kd.R_lt (Kd.R_y HO482.out)) k_ hn_)), Or.elim hk_.1 (fun hs_ => hs_.1.2.2.2.1) (fun hn_ => (Kd.freshB (blk_y BK471.out) k_ hn_)), Or.elim hk_.1 (fun hs_ => hs_.1.2.2.2.2) (fun hn_ => (Kd.freshB (blk_y BK472.out) k_ hn_)), Or.elim hk_.1 (fun hs_ => hs_.2) (fun hn_ => (Kd.freshB (blk_y BK494.out) k_ hn_))⟩)) (below_size (below_y HB.out)))
     have n8_ := mkA (Kd.R_lower (Kd.R_new' (Kd.R_new' (Kd.R_newM (M := fun k_ => (w.heap.size ≤ k_)) (Kd.R_mono (ok' := fun k_ => True) ho2 (fun _ hk_ => trivial)) (below_size (below_y HB.out)) (fun k_ h_ => h_)) (Kd.R_lt (Kd.R_y HO_473002.out))) (Kd.R_lt (Kd.R_y HO482.out))) (below_size (below_y HB.out)))
     have n9_ := mkA (blk_below (blk_y BK471.out) hb)
     have n10_ := mkA (blk_below (blk_y BK472.out) hb)
     have n11_ := mkA (blk_below (blk_y BK494.out) hb)
     have n12_ := mkA (below_step (below_y HB.out) hb)
     clear HO_473000 HO_473001 HO_473002 HO476 HO479 HO482 BK471 BK472 BK494 HB
     have HO_473000 := n0_
     have HO_473001 := n1_
     have HO_473002 := n2_
     have HO476 := n3_
     have HO479 := n4_
     have HO482 := n5_
     have HO486 := n6_
     have HO489 := n7_
     have HO492 := n8_
     have BK471 := n9_
     have BK472 := n10_
     have BK494 := n11_
     have HB := n12_
     clear n0_ n1_ n2_ n3_ n4_ n5_ n6_ n7_ n8_ n9_ n10_ n11_ n12_
     (try clear hb)
     (try clear hb2)
     (try clear hk)
     (try clear hi)
     (try clear ho0)
     (try clear ho1)
     (try clear ho2)
     refine hK.out _ _ ⟨(blk_cell BK472.out 0).trans rfl, (blk_cell BK472.out 1).trans rfl, (blk_cell BK472.out 2).trans rfl, ((cb HB.out hw483_0).trans hw483_0), ((cb HB.out hw483_1).trans hw483_1), ((cb HB.out hw483_2).trans hw483_2), ((cb HB.out hw483_3).trans hw483_3)⟩ (fun hHeld => ?_)
     clear hK K
     refine norm_ (a' := ?_) ?_ ?_
     rotate_left
     ·show Act.put _ (some 34) _ = _
      simp only [Act.put, sA, s0, sS, i64_w, i32_w]
      rfl
     refine pure_ (i := 6) (N := some 28) (v := ?_) (a' := ?_) #[true, true, true, true, true, true, true, false, false, true, false, false] rfl rfl (any_of HT_.out (by kernel_rfl)) (fun _ _ _ h => h) (Or.inl ⟨by rfl, ?_⟩) ?_ ?_
     rotate_left
     ·intro w'
      go_simp
      with_reducible rfl
     rotate_left
     ·simp only [Act.put, sA, s0, sS, i64_w, i32_w]
      rfl
     refine pure_ (i := 7) (N := some 35) (v := ?_) (a' := ?_) #[true, true, true, true, true, true, true, true, false, true, false, false] rfl rfl (any_of HT_.out (by kernel_rfl)) (fun _ _ _ h => h) (Or.inl ⟨by rfl, ?_⟩) ?_ ?_
     rotate_left
     ·intro w'
      go_simp
      with_reducible rfl
     rotate_left
     ·simp only [Act.put, sA, s0, sS, i64_w, i32_w]
      rfl
     refine pure_ (i := 8) (N := some 36) (v := ?_) (a' := ?_) #[true, true, true, true, true, true, true, true, true, true, false, false] rfl rfl (any_of HT_.out (by kernel_rfl)) (fun _ _ _ h => h) (Or.inl ⟨by rfl, ?_⟩) ?_ ?_
     rotate_left
     ·intro w'
      go_simp
      with_reducible rfl
     rotate_left
     ·simp only [Act.put, sA, s0, sS, i64_w, i32_w]
      rfl
     exact norm_ (by simp only [putAll, Act.put, sA, s0, sS]) (hCont (v485, v488, v491, gb494) _ ⟨hHeld, (by (with_reducible repeat (first | apply Kd.V_alloc | apply Kd.V_drewN | apply Kd.V_drew)); exact Kd.V_mono HO476.out (fun _ hk => ⟨hk.1.1.1.1, ⟨hk.1.1.1.2.2.1, ⟨hk.1.2, ⟨hk.2, ⟨hk.1.1.1.2.1, ⟨hk.1.1.1.2.2.2.1, ⟨hk.1.1.1.2.2.2.2, hk.1.1.2⟩⟩⟩⟩⟩⟩⟩)), (by (with_reducible repeat (first | apply Kd.V_alloc | apply Kd.V_drewN | apply Kd.V_drew)); exact Kd.V_mono HO479.out (fun _ hk => ⟨hk.1.1.1.1, ⟨hk.1.1.1.2.2.1, ⟨hk.1.2, ⟨hk.2, ⟨hk.1.1.1.2.1, ⟨hk.1.1.1.2.2.2.1, ⟨hk.1.1.1.2.2.2.2, hk.1.1.2⟩⟩⟩⟩⟩⟩⟩)), (by (with_reducible repeat (first | apply Kd.R_alloc | apply Kd.R_drewN | apply Kd.R_drew)); exact Kd.R_mono HO482.out (fun _ hk => ⟨hk.1.1, ⟨hk.2, hk.1.2⟩⟩)), (by (with_reducible repeat (first | apply Kd.R_alloc | apply Kd.R_drewN | apply Kd.R_drew)); exact Kd.R_mono HO486.out (fun _ hk => hk.1)), (by (with_reducible repeat (first | apply Kd.V_alloc | apply Kd.V_drewN | apply Kd.V_drew)); exact Kd.V_mono HO489.out (fun _ hk => ⟨hk.1, ⟨hk.2.2.2.2.1, ⟨hk.2.1, ⟨hk.2.2.1, ⟨hk.2.2.2.1, ⟨hk.2.2.2.2.2.1, ⟨hk.2.2.2.2.2.2.1, hk.2.2.2.2.2.2.2⟩⟩⟩⟩⟩⟩⟩)), (by (with_reducible repeat (first | apply Kd.R_alloc | apply Kd.R_drewN | apply Kd.R_drew)); exact Kd.R_mono HO492.out (fun _ hk => ⟨hk.1.1.1, ⟨hk.2, hk.1.2⟩⟩)), (by (with_reducible repeat (first | apply Kd.V_alloc | apply Kd.V_drewN | apply Kd.V_drew)); exact Kd.V_mono HO_473000.out (fun _ hk => ⟨hk.1.1.1.1, ⟨hk.1.1.1.2.2.1, ⟨hk.1.2, ⟨hk.2, ⟨hk.1.1.1.2.1, ⟨hk.1.1.1.2.2.2.1, ⟨hk.1.1.1.2.2.2.2, hk.1.1.2⟩⟩⟩⟩⟩⟩⟩)), (by (with_reducible repeat (first | apply Kd.V_alloc | apply Kd.V_drewN | apply Kd.V_drew)); exact Kd.V_mono HO_473001.out (fun _ hk => ⟨hk.1.1.1.1, ⟨hk.1.1.1.2.2.1, ⟨hk.1.2, ⟨hk.2, ⟨hk.1.1.1.2.1, ⟨hk.1.1.1.2.2.2.1, ⟨hk.1.1.1.2.2.2.2, hk.1.1.2⟩⟩⟩⟩⟩⟩⟩)), (by (with_reducible repeat (first | apply Kd.R_alloc | apply Kd.R_drewN | apply Kd.R_drew)); exact Kd.R_mono HO_473002.out (fun _ hk => ⟨hk.1.1, ⟨hk.1.2, hk.2⟩⟩)), (blk_y BK471.out), (blk_y BK472.out), (blk_y BK494.out), GW494.out, GE494.out, NB471_494.out, NB494_471.out, NB472_494.out, NB494_472.out, (below_y HB.out)⟩)
   rintro ⟨v485, v488, v491, gb494⟩ w56 ⟨hS_, h0_, h1_, h2_, h3_, h4_, h5_, h6_, h7_, h8_, h9_, h10_, h11_, h12_, h13_, h14_, h15_, h16_, h17_, h18_⟩
   have n0_ : Aside0 (Kd.V k77 77 w56 w.heap.size (fun k_ => (w.heap.size ≤ k_) ∧ some k_ ≠ (.slice Ao51 t480.length co51 : Value).ownBlock ∧ some k_ ≠ (v485 : Value).ownBlock ∧ some k_ ≠ (v491 : Value).ownBlock ∧ some k_ ≠ (.slice Ao46 x473002_1.length co46 : Value).ownBlock ∧ k_ ≠ gb471 ∧ k_ ≠ gb472 ∧ k_ ≠ gb494) (.slice Ao48 t474.length co48) t474) := ⟨h0_⟩
   have n1_ : Aside0 (Kd.V k77 77 w56 w.heap.size (fun k_ => (w.heap.size ≤ k_) ∧ some k_ ≠ (.slice Ao51 t480.length co51 : Value).ownBlock ∧ some k_ ≠ (v485 : Value).ownBlock ∧ some k_ ≠ (v491 : Value).ownBlock ∧ some k_ ≠ (.slice Ao46 x473002_1.length co46 : Value).ownBlock ∧ k_ ≠ gb471 ∧ k_ ≠ gb472 ∧ k_ ≠ gb494) (.slice Ao50 t477.length co50) t477) := ⟨h1_⟩
   have n2_ : Aside0 (Kd.R k69 69 w56 w.heap.size (fun k_ => (w.heap.size ≤ k_) ∧ some k_ ≠ (v491 : Value).ownBlock ∧ some k_ ≠ (.slice Ao46 x473002_1.length co46 : Value).ownBlock) (.slice Ao51 t480.length co51) t480) := ⟨h2_⟩
   have n3_ : Aside0 (Kd.R k77 77 w56 w.heap.size (fun k_ => (w.heap.size ≤ k_)) v485 t484) := ⟨h3_⟩
   have n4_ : Aside0 (Kd.V k77 77 w56 w.heap.size (fun k_ => (w.heap.size ≤ k_) ∧ some k_ ≠ (.slice Ao51 t480.length co51 : Value).ownBlock ∧ some k_ ≠ (v485 : Value).ownBlock ∧ some k_ ≠ (v491 : Value).ownBlock ∧ some k_ ≠ (.slice Ao46 x473002_1.length co46 : Value).ownBlock ∧ k_ ≠ gb471 ∧ k_ ≠ gb472 ∧ k_ ≠ gb494) v488 t487) := ⟨h4_⟩
   have n5_ : Aside0 (Kd.R k69 69 w56 w.heap.size (fun k_ => (w.heap.size ≤ k_) ∧ some k_ ≠ (.slice Ao51 t480.length co51 : Value).ownBlock ∧ some k_ ≠ (.slice Ao46 x473002_1.length co46 : Value).ownBlock) v491 t490) := ⟨h5_⟩
   have n6_ : Aside0 (Kd.V k77 77 w56 w.heap.size (fun k_ => (w.heap.size ≤ k_) ∧ some k_ ≠ (.slice Ao51 t480.length co51 : Value).ownBlock ∧ some k_ ≠ (v485 : Value).ownBlock ∧ some k_ ≠ (v491 : Value).ownBlock ∧ some k_ ≠ (.slice Ao46 x473002_1.length co46 : Value).ownBlock ∧ k_ ≠ gb471 ∧ k_ ≠ gb472 ∧ k_ ≠ gb494) (.slice Ao44 x473000_1.length co44) x473000_1) := ⟨h6_⟩
   have n7_ : Aside0 (Kd.V k77 77 w56 w.heap.size (fun k_ => (w.heap.size ≤ k_) ∧ some k_ ≠ (.slice Ao51 t480.length co51 : Value).ownBlock ∧ some k_ ≠ (v485 : Value).ownBlock ∧ some k_ ≠ (v491 : Value).ownBlock ∧ some k_ ≠ (.slice Ao46 x473002_1.length co46 : Value).ownBlock ∧ k_ ≠ gb471 ∧ k_ ≠ gb472 ∧ k_ ≠ gb494) (.slice Ao45 x473001_1.length co45) x473001_1) := ⟨h7_⟩
   have n8_ : Aside0 (Kd.R k69 69 w56 w.heap.size (fun k_ => (w.heap.size ≤ k_) ∧ some k_ ≠ (.slice Ao51 t480.length co51 : Value).ownBlock ∧ some k_ ≠ (v491 : Value).ownBlock) (.slice Ao46 x473002_1.length co46) x473002_1) := ⟨h8_⟩
   have n9_ : Aside0 (w56.heap[gb471]? = some (.cells #[.slice none 0 0, .slice none 0 0, .slice none 0 0] 67 (0, 0))) := ⟨h9_⟩
   have n10_ : Aside0 (w56.heap[gb472]? = some (.cells #[.slice Ao48 t474.length co48, .slice Ao50 t477.length co50, .slice Ao51 t480.length co51] 67 (0, 0))) := ⟨h10_⟩
   have n11_ : Aside0 (w56.heap[gb494]? = some (.cells #[.slice none 0 0, .slice none 0 0, .slice none 0 0] 67 (0, 0))) := ⟨h11_⟩
   have n12_ : Aside0 (w.heap.size ≤ gb494) := ⟨h12_⟩
   have n13_ : Aside0 (w.heap.size ≤ gb494) := ⟨h13_⟩
   have n14_ : Aside0 (gb471 ≠ gb494) := ⟨h14_⟩
   have n15_ : Aside0 (gb494 ≠ gb471) := ⟨h15_⟩
   have n16_ : Aside0 (gb472 ≠ gb494) := ⟨h16_⟩
   have n17_ : Aside0 (gb494 ≠ gb472) := ⟨h17_⟩
   have n18_ : Aside0 (Below w.heap.size w w56) := ⟨h18_⟩
   clear HO_473000 HO_473001 HO_473002 HO476 HO479 HO482 BK471 BK472 HB h0_ h1_ h2_ h3_ h4_ h5_ h6_ h7_ h8_ h9_ h10_ h11_ h12_ h13_ h14_ h15_ h16_ h17_ h18_
   have HO476 := n0_
   have HO479 := n1_
   have HO482 := n2_
   have HO486 := n3_
   have HO489 := n4_
   have HO492 := n5_
   have HO_473000 := n6_
   have HO_473001 := n7_
   have HO_473002 := n8_
   have BK471 := n9_
   have BK472 := n10_
   have BK494 := n11_
   have GW494 := n12_
   have GE494 := n13_
   have NB471_494 := n14_
   have NB494_471 := n15_
   have NB472_494 := n16_
   have NB494_472 := n17_
   have HB := n18_
   clear n0_ n1_ n2_ n3_ n4_ n5_ n6_ n7_ n8_ n9_ n10_ n11_ n12_ n13_ n14_ n15_ n16_ n17_ n18_
   have hHeld : w56.cell? ⟨gb472, 0, none⟩ = some (.slice Ao48 t474.length co48) ∧ w56.cell? ⟨gb472, 1, none⟩ = some (.slice Ao50 t477.length co50) ∧ w56.cell? ⟨gb472, 2, none⟩ = some (.slice Ao51 t480.length co51) ∧ w56.cell? (ad483.add ((x6_1).toNat * 4)) = some (.int .i64 ((rd_T69 l0 x6_1).f0)) ∧ w56.cell? ⟨(ad483.add ((x6_1).toNat * 4)).block, (ad483.add ((x6_1).toNat * 4)).off + 1, none⟩ = some (.string ((rd_T69 l0 x6_1).f1)) ∧ w56.cell? ⟨(ad483.add ((x6_1).toNat * 4)).block, (ad483.add ((x6_1).toNat * 4)).off + 2, none⟩ = some (.string ((rd_T69 l0 x6_1).f2)) ∧ w56.cell? ⟨(ad483.add ((x6_1).toNat * 4)).block, (ad483.add ((x6_1).toNat * 4)).off + 3, none⟩ = some (.int .i64 ((rd_T69 l0 x6_1).f3)) := hS_
   obtain ⟨Ao57, co57, eo57⟩ := Kd.R_slice HO486.out
   (first | subst eo57 | (injection eo57 with f1_ f2_ f3_; have f4_ := f1_.symm; have f5_ := f3_.symm; clear f1_ f2_ f3_; subst f4_; subst f5_))
   obtain ⟨Ao59, co59, eo59⟩ := Kd.V_slice HO489.out
   (first | subst eo59 | (injection eo59 with f1_ f2_ f3_; have f4_ := f1_.symm; have f5_ := f3_.symm; clear f1_ f2_ f3_; subst f4_; subst f5_))
   obtain ⟨Ao61, co61, eo61⟩ := Kd.R_slice HO492.out
   (first | subst eo61 | (injection eo61 with f1_ f2_ f3_; have f4_ := f1_.symm; have f5_ := f3_.symm; clear f1_ f2_ f3_; subst f4_; subst f5_))
   refine norm_ (a' := ?_) ?_ ?_
   rotate_left
   ·simp only [putAll, Act.put, sA, s0, sS]
    rfl
   refine one_ (i := 10) (N := none) #[true, true, true, true, true, true, true, true, true, true, true, false] rfl rfl (one_of HT_.out (by kernel_rfl)) (by decide) (fun K hK => ?_)
   have hs58 : w56.cell? ⟨gb494, 0, none⟩ = some (.slice none 0 0) := (blk_cell BK494.out 0).trans rfl
   have hfs58 := blk_frozen BK494.out 0
   have hns58_0 := NB471_494.out
   have hns58_1 := NB472_494.out
   have hms58_0 := NB494_471.out
   have hms58_1 := NB494_472.out
   have hs60 : w56.cell? ⟨gb494, 1, none⟩ = some (.slice none 0 0) := (blk_cell BK494.out 1).trans rfl
   have hfs60 := blk_frozen BK494.out 1
   have hns60_0 := NB471_494.out
   have hns60_1 := NB472_494.out
   have hms60_0 := NB494_471.out
   have hms60_1 := NB494_472.out
   have hs62 : w56.cell? ⟨gb494, 2, none⟩ = some (.slice none 0 0) := (blk_cell BK494.out 2).trans rfl
   have hfs62 := blk_frozen BK494.out 2
   have hns62_0 := NB471_494.out
   have hns62_1 := NB472_494.out
   have hms62_0 := NB494_471.out
   have hms62_1 := NB494_472.out
   refine skip_ (w1 := ?_) (by rfl) rfl ?_ ?_
   rotate_left
   ·go_simp
    rfl
   refine hK.out _ _ ⟨((cell_far (p := ⟨gb494, _, none⟩) NB472_494.out _).trans (((cell_far (p := ⟨gb494, _, none⟩) NB472_494.out _).trans (((cell_far (p := ⟨gb494, _, none⟩) NB472_494.out _).trans (hHeld.1)))))), ((cell_far (p := ⟨gb494, _, none⟩) NB472_494.out _).trans (((cell_far (p := ⟨gb494, _, none⟩) NB472_494.out _).trans (((cell_far (p := ⟨gb494, _, none⟩) NB472_494.out _).trans (hHeld.2.1)))))), ((cell_far (p := ⟨gb494, _, none⟩) NB472_494.out _).trans (((cell_far (p := ⟨gb494, _, none⟩) NB472_494.out _).trans (((cell_far (p := ⟨gb494, _, none⟩) NB472_494.out _).trans (hHeld.2.2.1)))))), ((cell_far (p := ⟨gb494, _, none⟩) (nf hw483_0 GW494.out) _).trans (((cell_far (p := ⟨gb494, _, none⟩) (nf hw483_0 GW494.out) _).trans (((cell_far (p := ⟨gb494, _, none⟩) (nf hw483_0 GW494.out) _).trans (hHeld.2.2.2.1)))))), ((cell_far (p := ⟨gb494, _, none⟩) (nf hw483_1 GW494.out) _).trans (((cell_far (p := ⟨gb494, _, none⟩) (nf hw483_1 GW494.out) _).trans (((cell_far (p := ⟨gb494, _, none⟩) (nf hw483_1 GW494.out) _).trans (hHeld.2.2.2.2.1)))))), ((cell_far (p := ⟨gb494, _, none⟩) (nf hw483_2 GW494.out) _).trans (((cell_far (p := ⟨gb494, _, none⟩) (nf hw483_2 GW494.out) _).trans (((cell_far (p := ⟨gb494, _, none⟩) (nf hw483_2 GW494.out) _).trans (hHeld.2.2.2.2.2.1)))))), ((cell_far (p := ⟨gb494, _, none⟩) (nf hw483_3 GW494.out) _).trans (((cell_far (p := ⟨gb494, _, none⟩) (nf hw483_3 GW494.out) _).trans (((cell_far (p := ⟨gb494, _, none⟩) (nf hw483_3 GW494.out) _).trans (hHeld.2.2.2.2.2.2))))))⟩ (fun hHeld => ?_)
   clear hK K
   refine pure_ (i := 11) (N := some 8) (v := ?_) (a' := ?_) #[true, true, true, true, true, true, true, true, true, true, true, true] rfl rfl (any_of HT_.out (by kernel_rfl)) (fun _ _ _ h => h) (Or.inl ⟨by rfl, ?_⟩) ?_ ?_
   rotate_left
   ·intro w'
    go_simp
    with_reducible rfl
   rotate_left
   ·simp only [Act.put, sA, s0, sS, i64_w, i32_w]
    rfl
   refine done_ (done_of HT_.out (by kernel_rfl)) ?_
   try go_wp2_with (first | ((with_reducible refine gate_load (t := 69) rfl ?_); refine load_at2 (t := 69) ?hg ?ho (c0 := _) (cs := [_, _, _]) Try.underlying69 rfl (by kernel_rfl) hx483_0 ⟨hx483_1, hx483_2, hx483_3, trivial⟩ ?_; (case hg => rfl); (case ho => refine ⟨_, rfl, ?_⟩; first | (with_reducible rfl) | (go_simp; done))))
   go_roundg kj7
   case measure => have := HK1.out; have := HJ7.out; omega
   case rel => exact ⟨(wrap64 (x6_1 + 1)), (t474), (t477), (t480), (.slice Ao48 t474.length co48), (.slice Ao50 t477.length co50), (.slice Ao51 t480.length co51), (by first | rfl | (simp; done) | (simp [*]; done)), H', ⟨by have := HK1.out; have := HJ7.out; omega⟩, ⟨by (with_reducible repeat (first | apply Kd.V_alloc | apply Kd.V_drewN | apply Kd.V_drew)); exact Kd.V_mono (Kd.V_far (p := ⟨gb494, 2, none⟩) (Kd.V_far (p := ⟨gb494, 1, none⟩) (Kd.V_far (p := ⟨gb494, 0, none⟩) (Kd.V_mono HO476.out (fun k_ hk => (⟨hk, hk.2.2.2.2.2.2.2⟩ : _ ∧ k_ ≠ gb494))) (fun _ hk => hk.2) (.slice Ao57 t484.length co57)) (fun _ hk => hk.2) (.slice Ao59 t487.length co59)) (fun _ hk => hk.2) (.slice Ao61 t490.length co61)) (fun _ hk => ⟨hk.1.1, ⟨hk.1.2.1, ⟨hk.1.2.2.2.2.2.1, hk.1.2.2.2.2.2.2.1⟩⟩⟩)⟩, ⟨by (with_reducible repeat (first | apply Kd.V_alloc | apply Kd.V_drewN | apply Kd.V_drew)); exact Kd.V_mono (Kd.V_far (p := ⟨gb494, 2, none⟩) (Kd.V_far (p := ⟨gb494, 1, none⟩) (Kd.V_far (p := ⟨gb494, 0, none⟩) (Kd.V_mono HO479.out (fun k_ hk => (⟨hk, hk.2.2.2.2.2.2.2⟩ : _ ∧ k_ ≠ gb494))) (fun _ hk => hk.2) (.slice Ao57 t484.length co57)) (fun _ hk => hk.2) (.slice Ao59 t487.length co59)) (fun _ hk => hk.2) (.slice Ao61 t490.length co61)) (fun _ hk => ⟨hk.1.1, ⟨hk.1.2.1, ⟨hk.1.2.2.2.2.2.1, hk.1.2.2.2.2.2.2.1⟩⟩⟩)⟩, ⟨by (with_reducible repeat (first | apply Kd.R_alloc | apply Kd.R_drewN | apply Kd.R_drew)); exact Kd.R_mono (Kd.R_far (p := ⟨gb494, 2, none⟩) (Kd.R_far (p := ⟨gb494, 1, none⟩) (Kd.R_far (p := ⟨gb494, 0, none⟩) (Kd.R_types HO482.out BK494.out (by decide)) (fun _ hk => hk.2) (.slice Ao57 t484.length co57)) (fun _ hk => hk.2) (.slice Ao59 t487.length co59)) (fun _ hk => hk.2) (.slice Ao61 t490.length co61)) (fun _ hk => hk.1.1)⟩, ⟨by (iterate 3 ((with_reducible repeat (first | refine blk_drewN ?_ _ | refine blk_drew ?_ | refine blk_alloc ?_ _)); refine blk_far ?_ NB471_494.out _)); (with_reducible repeat (first | refine blk_drewN ?_ _ | refine blk_drew ?_ | refine blk_alloc ?_ _)); exact BK471.out⟩, ⟨by (iterate 3 ((with_reducible repeat (first | refine blk_drewN ?_ _ | refine blk_drew ?_ | refine blk_alloc ?_ _)); refine blk_far ?_ NB472_494.out _)); (with_reducible repeat (first | refine blk_drewN ?_ _ | refine blk_drew ?_ | refine blk_alloc ?_ _)); exact BK472.out⟩, ⟨by repeat (first | (with_reducible first | exact HB.out | apply below_alloc | apply pw_below_drewN | apply below_drew1 | refine below_set ?_ GE471.out | refine below_set ?_ GE472.out | refine below_set ?_ GE494.out) | exact HB.out)⟩⟩
 rw [if_pos c16] at H
 have c16b0 : (t493 == 0) = true := beq_iff_eq.mpr c16
 have c16b1 : (t493 != 0) = false := bne_eq_false_iff_eq.mpr c16
 clear c16
 as_aux_lemma =>
  have H' := mkA H
  clear H
  have hnb17 := NB472_471.out
  have hnc17 := NB471_472.out
  have hcz18_0 := bc BK472.out 0 (u473000) rfl
  have hcz18_1 := bc BK472.out 1 (u473001) rfl
  have hcz18_2 := bc BK472.out 2 (u473002) rfl
  have hfz18_0 := blk_frozen BK472.out 0
  have hfz18_1 := blk_frozen BK472.out 1
  have hfz18_2 := blk_frozen BK472.out 2
  obtain ⟨Ao19, co19, eo19⟩ := Kd.V_slice HO_473000.out
  subst eo19
  obtain ⟨Ao20, co20, eo20⟩ := Kd.V_slice HO_473001.out
  subst eo20
  obtain ⟨Ao21, co21, eo21⟩ := Kd.R_slice HO_473002.out
  subst eo21
  try go_wp2_with (first | ((with_reducible refine gate_callee (f := 52) rfl ?_); refine goesL_ (some 27) rfl rfl Try.func52 (by kernel_rfl) rfl #[.agg #[.slice Ao19 x473000_1.length co19, .slice Ao20 x473001_1.length co20, .slice Ao21 x473002_1.length co21]] rfl ca ?_; (with_reducible refine (newsreelref10_Sync.calls kj7 (fun k_ => ((w.heap.size ≤ k_) ∧ (some k_ ≠ (.slice Ao21 x473002_1.length co21 : Value).ownBlock ∧ (k_ ≠ gb471 ∧ k_ ≠ gb472)))) _ _ x473000_1 _ _ x473001_1 _ _ x473002_1 t474 t477 t480 _ ?side1 ?side2 ?side3 ?side4 ?side5 A12.out).mono ?_); (case side1 => exact HO_473000.out); (case side2 => exact Kd.C_y (Kd.V_reads' HO_473001.out).2.2); (case side3 => exact (Kd.V_reads' HO_473001.out).2.1); (case side4 => exact Kd.C_y (Kd.R_reads' HO_473002.out).2.2); (case side5 => exact (Kd.R_reads' HO_473002.out).2.1); rintro e w22 ⟨v475, v478, v481, rfl, ho0, ho1, ho2, hb⟩; refine ⟨_, rfl, ?_⟩; have n0_ := mkA (Kd.V_elder' (Kd.V_y HO_473000.out) (Kd.R_base ho2) hb); have n1_ := mkA (Kd.V_elder' (Kd.V_y HO_473001.out) (Kd.R_base ho2) hb); have n2_ := mkA (Kd.R_elder' (Kd.R_y HO_473002.out) (Kd.R_base ho2) hb); have n3_ := mkA (Kd.V_lower (Kd.V_mono (ok' := fun k_ => (w.heap.size ≤ k_) ∧ some k_ ≠ (v481 : Value).ownBlock ∧ some k_ ≠ (.slice Ao21 x473002_1.length co21 : Value).ownBlock ∧ k_ ≠ gb471 ∧ k_ ≠ gb472) ho0 (fun k_ hk_ => ⟨Or.elim hk_.1 (fun hs_ => hs_.1) (fun hn_ => (Nat.le_trans (below_size (below_y HB.out)) hn_)), hk_.2, Or.elim hk_.1 (fun hs_ => hs_.2.1) (fun hn_ => (Kd.fresh' (Kd.R_lt (Kd.R_y HO_473002.out)) k_ hn_)), Or.elim hk_.1 (fun hs_ => hs_.2.2.1) (fun hn_ => (Kd.freshB (blk_y BK471.out) k_ hn_)), Or.elim hk_.1 (fun hs_ => hs_.2.2.2) (fun hn_ => (Kd.freshB (blk_y BK472.out) k_ hn_))⟩)) (below_size (below_y HB.out))); have n4_ := mkA (Kd.V_lower (Kd.V_mono (ok' := fun k_ => (w.heap.size ≤ k_) ∧ some k_ ≠ (v481 : Value).ownBlock ∧ some k_ ≠ (.slice Ao21 x473002_1.length co21 : Value).ownBlock ∧ k_ ≠ gb471 ∧ k_ ≠ gb472) ho1 (fun k_ hk_ => ⟨Or.elim hk_.1 (fun hs_ => hs_.1) (fun hn_ => (Nat.le_trans (below_size (below_y HB.out)) hn_)), hk_.2, Or.elim hk_.1 (fun hs_ => hs_.2.1) (fun hn_ => (Kd.fresh' (Kd.R_lt (Kd.R_y HO_473002.out)) k_ hn_)), Or.elim hk_.1 (fun hs_ => hs_.2.2.1) (fun hn_ => (Kd.freshB (blk_y BK471.out) k_ hn_)), Or.elim hk_.1 (fun hs_ => hs_.2.2.2) (fun hn_ => (Kd.freshB (blk_y BK472.out) k_ hn_))⟩)) (below_size (below_y HB.out))); have n5_ := mkA (Kd.R_lower (Kd.R_new' (Kd.R_newM (M := fun k_ => (w.heap.size ≤ k_)) (Kd.R_mono (ok' := fun k_ => True) ho2 (fun _ hk_ => trivial)) (below_size (below_y HB.out)) (fun k_ h_ => h_)) (Kd.R_lt (Kd.R_y HO_473002.out))) (below_size (below_y HB.out))); have n6_ := mkA (blk_below (blk_y BK471.out) hb); have n7_ := mkA (blk_below (blk_y BK472.out) hb); have n8_ := mkA (below_step (below_y HB.out) hb); clear HO_473000; clear HO_473001; clear HO_473002; clear BK471; clear BK472; clear HB; have HO_473000 := n0_; have HO_473001 := n1_; have HO_473002 := n2_; have HO476 := n3_; have HO479 := n4_; have HO482 := n5_; have BK471 := n6_; have BK472 := n7_; have HB := n8_; clear n0_ n1_ n2_ n3_ n4_ n5_ n6_ n7_ n8_; (try clear hb); (try clear hb2); (try clear hk); (try clear hi); (try clear ho0); (try clear ho1); (try clear ho2); obtain ⟨Ao23, co23, eo23⟩ := Kd.V_slice HO476.out; subst eo23; have hcz24_0 := bc BK472.out 0 (.slice Ao19 x473000_1.length co19) rfl; have hcz24_1 := bc BK472.out 1 (.slice Ao20 x473001_1.length co20) rfl; have hcz24_2 := bc BK472.out 2 (.slice Ao21 x473002_1.length co21) rfl; have hfz24_0 := blk_frozen BK472.out 0; have hfz24_1 := blk_frozen BK472.out 1; have hfz24_2 := blk_frozen BK472.out 2; obtain ⟨Ao25, co25, eo25⟩ := Kd.V_slice HO479.out; subst eo25; obtain ⟨Ao26, co26, eo26⟩ := Kd.R_slice HO482.out; subst eo26))
  have n0_ : Aside0 (Kd.V k77 77 (((w22.setCell ⟨gb472, 0, none⟩ (.slice Ao23 t474.length co23)).setCell ⟨gb472, 1, none⟩ (.slice Ao25 t477.length co25)).setCell ⟨gb472, 2, none⟩ (.slice Ao26 t480.length co26)) w.heap.size (fun k_ => (w.heap.size ≤ k_) ∧ some k_ ≠ (.slice Ao21 x473002_1.length co21 : Value).ownBlock ∧ some k_ ≠ (.slice Ao26 t480.length co26 : Value).ownBlock ∧ k_ ≠ gb471 ∧ k_ ≠ gb472) (.slice Ao19 x473000_1.length co19) x473000_1) := ⟨by (with_reducible repeat (first | apply Kd.V_alloc | apply Kd.V_drewN | apply Kd.V_drew)); exact Kd.V_mono (Kd.V_far (p := ⟨gb472, 2, none⟩) (Kd.V_far (p := ⟨gb472, 1, none⟩) (Kd.V_far (p := ⟨gb472, 0, none⟩) (Kd.V_mono HO_473000.out (fun k_ hk => (⟨hk, hk.1.2.2.2⟩ : _ ∧ k_ ≠ gb472))) (fun _ hk => hk.2) (.slice Ao23 t474.length co23)) (fun _ hk => hk.2) (.slice Ao25 t477.length co25)) (fun _ hk => hk.2) (.slice Ao26 t480.length co26)) (fun _ hk => ⟨hk.1.1.1, ⟨hk.1.1.2.1, ⟨hk.1.2, ⟨hk.1.1.2.2.1, hk.1.1.2.2.2⟩⟩⟩⟩)⟩
  have n1_ : Aside0 (Kd.V k77 77 (((w22.setCell ⟨gb472, 0, none⟩ (.slice Ao23 t474.length co23)).setCell ⟨gb472, 1, none⟩ (.slice Ao25 t477.length co25)).setCell ⟨gb472, 2, none⟩ (.slice Ao26 t480.length co26)) w.heap.size (fun k_ => (w.heap.size ≤ k_) ∧ some k_ ≠ (.slice Ao21 x473002_1.length co21 : Value).ownBlock ∧ some k_ ≠ (.slice Ao26 t480.length co26 : Value).ownBlock ∧ k_ ≠ gb471 ∧ k_ ≠ gb472) (.slice Ao20 x473001_1.length co20) x473001_1) := ⟨by (with_reducible repeat (first | apply Kd.V_alloc | apply Kd.V_drewN | apply Kd.V_drew)); exact Kd.V_mono (Kd.V_far (p := ⟨gb472, 2, none⟩) (Kd.V_far (p := ⟨gb472, 1, none⟩) (Kd.V_far (p := ⟨gb472, 0, none⟩) (Kd.V_mono HO_473001.out (fun k_ hk => (⟨hk, hk.1.2.2.2⟩ : _ ∧ k_ ≠ gb472))) (fun _ hk => hk.2) (.slice Ao23 t474.length co23)) (fun _ hk => hk.2) (.slice Ao25 t477.length co25)) (fun _ hk => hk.2) (.slice Ao26 t480.length co26)) (fun _ hk => ⟨hk.1.1.1, ⟨hk.1.1.2.1, ⟨hk.1.2, ⟨hk.1.1.2.2.1, hk.1.1.2.2.2⟩⟩⟩⟩)⟩
  have n2_ : Aside0 (Kd.R k69 69 (((w22.setCell ⟨gb472, 0, none⟩ (.slice Ao23 t474.length co23)).setCell ⟨gb472, 1, none⟩ (.slice Ao25 t477.length co25)).setCell ⟨gb472, 2, none⟩ (.slice Ao26 t480.length co26)) w.heap.size (fun k_ => (w.heap.size ≤ k_) ∧ some k_ ≠ (.slice Ao26 t480.length co26 : Value).ownBlock) (.slice Ao21 x473002_1.length co21) x473002_1) := ⟨by (with_reducible repeat (first | apply Kd.R_alloc | apply Kd.R_drewN | apply Kd.R_drew)); exact Kd.R_mono (Kd.R_far (p := ⟨gb472, 2, none⟩) (Kd.R_far (p := ⟨gb472, 1, none⟩) (Kd.R_far (p := ⟨gb472, 0, none⟩) (Kd.R_types HO_473002.out BK472.out (by decide)) (fun _ hk => hk.2) (.slice Ao23 t474.length co23)) (fun _ hk => hk.2) (.slice Ao25 t477.length co25)) (fun _ hk => hk.2) (.slice Ao26 t480.length co26)) (fun _ hk => ⟨hk.1.1, hk.1.2⟩)⟩
  have n3_ : Aside0 (Kd.V k77 77 (((w22.setCell ⟨gb472, 0, none⟩ (.slice Ao23 t474.length co23)).setCell ⟨gb472, 1, none⟩ (.slice Ao25 t477.length co25)).setCell ⟨gb472, 2, none⟩ (.slice Ao26 t480.length co26)) w.heap.size (fun k_ => (w.heap.size ≤ k_) ∧ some k_ ≠ (.slice Ao21 x473002_1.length co21 : Value).ownBlock ∧ some k_ ≠ (.slice Ao26 t480.length co26 : Value).ownBlock ∧ k_ ≠ gb471 ∧ k_ ≠ gb472) (.slice Ao23 t474.length co23) t474) := ⟨by (with_reducible repeat (first | apply Kd.V_alloc | apply Kd.V_drewN | apply Kd.V_drew)); exact Kd.V_mono (Kd.V_far (p := ⟨gb472, 2, none⟩) (Kd.V_far (p := ⟨gb472, 1, none⟩) (Kd.V_far (p := ⟨gb472, 0, none⟩) (Kd.V_mono HO476.out (fun k_ hk => (⟨hk, hk.2.2.2.2⟩ : _ ∧ k_ ≠ gb472))) (fun _ hk => hk.2) (.slice Ao23 t474.length co23)) (fun _ hk => hk.2) (.slice Ao25 t477.length co25)) (fun _ hk => hk.2) (.slice Ao26 t480.length co26)) (fun _ hk => ⟨hk.1.1, ⟨hk.1.2.2.1, ⟨hk.1.2.1, ⟨hk.1.2.2.2.1, hk.1.2.2.2.2⟩⟩⟩⟩)⟩
  have n4_ : Aside0 (Kd.V k77 77 (((w22.setCell ⟨gb472, 0, none⟩ (.slice Ao23 t474.length co23)).setCell ⟨gb472, 1, none⟩ (.slice Ao25 t477.length co25)).setCell ⟨gb472, 2, none⟩ (.slice Ao26 t480.length co26)) w.heap.size (fun k_ => (w.heap.size ≤ k_) ∧ some k_ ≠ (.slice Ao21 x473002_1.length co21 : Value).ownBlock ∧ some k_ ≠ (.slice Ao26 t480.length co26 : Value).ownBlock ∧ k_ ≠ gb471 ∧ k_ ≠ gb472) (.slice Ao25 t477.length co25) t477) := ⟨by (with_reducible repeat (first | apply Kd.V_alloc | apply Kd.V_drewN | apply Kd.V_drew)); exact Kd.V_mono (Kd.V_far (p := ⟨gb472, 2, none⟩) (Kd.V_far (p := ⟨gb472, 1, none⟩) (Kd.V_far (p := ⟨gb472, 0, none⟩) (Kd.V_mono HO479.out (fun k_ hk => (⟨hk, hk.2.2.2.2⟩ : _ ∧ k_ ≠ gb472))) (fun _ hk => hk.2) (.slice Ao23 t474.length co23)) (fun _ hk => hk.2) (.slice Ao25 t477.length co25)) (fun _ hk => hk.2) (.slice Ao26 t480.length co26)) (fun _ hk => ⟨hk.1.1, ⟨hk.1.2.2.1, ⟨hk.1.2.1, ⟨hk.1.2.2.2.1, hk.1.2.2.2.2⟩⟩⟩⟩)⟩
  have n5_ : Aside0 (Kd.R k69 69 (((w22.setCell ⟨gb472, 0, none⟩ (.slice Ao23 t474.length co23)).setCell ⟨gb472, 1, none⟩ (.slice Ao25 t477.length co25)).setCell ⟨gb472, 2, none⟩ (.slice Ao26 t480.length co26)) w.heap.size (fun k_ => (w.heap.size ≤ k_) ∧ some k_ ≠ (.slice Ao21 x473002_1.length co21 : Value).ownBlock) (.slice Ao26 t480.length co26) t480) := ⟨by (with_reducible repeat (first | apply Kd.R_alloc | apply Kd.R_drewN | apply Kd.R_drew)); exact Kd.R_mono (Kd.R_far (p := ⟨gb472, 2, none⟩) (Kd.R_far (p := ⟨gb472, 1, none⟩) (Kd.R_far (p := ⟨gb472, 0, none⟩) (Kd.R_types HO482.out BK472.out (by decide)) (fun _ hk => hk.2) (.slice Ao23 t474.length co23)) (fun _ hk => hk.2) (.slice Ao25 t477.length co25)) (fun _ hk => hk.2) (.slice Ao26 t480.length co26)) (fun _ hk => ⟨hk.1.1.1, hk.1.2⟩)⟩
  have n6_ : Aside0 ((((w22.setCell ⟨gb472, 0, none⟩ (.slice Ao23 t474.length co23)).setCell ⟨gb472, 1, none⟩ (.slice Ao25 t477.length co25)).setCell ⟨gb472, 2, none⟩ (.slice Ao26 t480.length co26)).heap[gb471]? = some (.cells #[.slice none 0 0, .slice none 0 0, .slice none 0 0] 67 (0, 0))) := ⟨by (iterate 3 ((with_reducible repeat (first | refine blk_drewN ?_ _ | refine blk_drew ?_ | refine blk_alloc ?_ _)); refine blk_far ?_ NB471_472.out _)); (with_reducible repeat (first | refine blk_drewN ?_ _ | refine blk_drew ?_ | refine blk_alloc ?_ _)); exact BK471.out⟩
  have n7_ : Aside0 ((((w22.setCell ⟨gb472, 0, none⟩ (.slice Ao23 t474.length co23)).setCell ⟨gb472, 1, none⟩ (.slice Ao25 t477.length co25)).setCell ⟨gb472, 2, none⟩ (.slice Ao26 t480.length co26)).heap[gb472]? = some (.cells #[.slice Ao23 t474.length co23, .slice Ao25 t477.length co25, .slice Ao26 t480.length co26] 67 (0, 0))) := ⟨by (with_reducible repeat (first | refine blk_drewN ?_ _ | refine blk_drew ?_ | refine blk_alloc ?_ _)); refine blk_put (cs := #[.slice Ao23 t474.length co23, .slice Ao25 t477.length co25, .slice Ao21 x473002_1.length co21]) ?_ 2 _ rfl; (with_reducible repeat (first | refine blk_drewN ?_ _ | refine blk_drew ?_ | refine blk_alloc ?_ _)); refine blk_put (cs := #[.slice Ao23 t474.length co23, .slice Ao20 x473001_1.length co20, .slice Ao21 x473002_1.length co21]) ?_ 1 _ rfl; (with_reducible repeat (first | refine blk_drewN ?_ _ | refine blk_drew ?_ | refine blk_alloc ?_ _)); refine blk_put (cs := #[.slice Ao19 x473000_1.length co19, .slice Ao20 x473001_1.length co20, .slice Ao21 x473002_1.length co21]) ?_ 0 _ rfl; (with_reducible repeat (first | refine blk_drewN ?_ _ | refine blk_drew ?_ | refine blk_alloc ?_ _)); exact BK472.out⟩
  have n8_ : Aside0 (Below w.heap.size w (((w22.setCell ⟨gb472, 0, none⟩ (.slice Ao23 t474.length co23)).setCell ⟨gb472, 1, none⟩ (.slice Ao25 t477.length co25)).setCell ⟨gb472, 2, none⟩ (.slice Ao26 t480.length co26))) := ⟨by repeat (first | (with_reducible first | exact HB.out | apply below_alloc | apply pw_below_drewN | apply below_drew1 | refine below_set ?_ GE471.out | refine below_set ?_ GE472.out) | exact HB.out)⟩
  (try clear HO_473000)
  (try clear HO_473001)
  (try clear HO_473002)
  (try clear HO476)
  (try clear HO479)
  (try clear HO482)
  (try clear BK471)
  (try clear BK472)
  (try clear HB)
  generalize (((w22.setCell ⟨gb472, 0, none⟩ (.slice Ao23 t474.length co23)).setCell ⟨gb472, 1, none⟩ (.slice Ao25 t477.length co25)).setCell ⟨gb472, 2, none⟩ (.slice Ao26 t480.length co26)) = w27 at n0_ n1_ n2_ n3_ n4_ n5_ n6_ n7_ n8_ ⊢
  have HO_473000 := n0_
  have HO_473001 := n1_
  have HO_473002 := n2_
  have HO476 := n3_
  have HO479 := n4_
  have HO482 := n5_
  have BK471 := n6_
  have BK472 := n7_
  have HB := n8_
  clear n0_ n1_ n2_ n3_ n4_ n5_ n6_ n7_ n8_
  have n0_ := mkA (Kd.V_drew HO_473000.out)
  have n1_ := mkA (Kd.V_drew HO_473001.out)
  have n2_ := mkA (Kd.R_drew HO_473002.out)
  have n3_ := mkA (Kd.V_drew HO476.out)
  have n4_ := mkA (Kd.V_drew HO479.out)
  have n5_ := mkA (Kd.R_drew HO482.out)
  have n6_ := mkA (blk_drew BK471.out)
  have n7_ := mkA (blk_drew BK472.out)
  have n8_ := mkA (below_drew1 HB.out)
  clear HO_473000 HO_473001 HO_473002 HO476 HO479 HO482 BK471 BK472 HB
  have HO_473000 := n0_
  have HO_473001 := n1_
  have HO_473002 := n2_
  have HO476 := n3_
  have HO479 := n4_
  have HO482 := n5_
  have BK471 := n6_
  have BK472 := n7_
  have HB := n8_
  clear n0_ n1_ n2_ n3_ n4_ n5_ n6_ n7_ n8_
  have p483 : 0 ≤ (x6_1 : Int) := odt
  have q483 : x6_1 < (l0.length : Int) := odt
  obtain ⟨ad483, e483, hx483_0, hx483_1, hx483_2, hx483_3⟩ := at_T69 HR0.out x6_1 p483 q483
  have hw483_3 := hx483_3
  have hw483_2 := hx483_2
  have hw483_1 := hx483_1
  have hw483_0 := hx483_0
  cases e483
  replace hx483_0 := (cb HB.out hx483_0).trans hx483_0
  replace hx483_1 := (cb HB.out hx483_1).trans hx483_1
  replace hx483_2 := (cb HB.out hx483_2).trans hx483_2
  replace hx483_3 := (cb HB.out hx483_3).trans hx483_3
  replace p483 := eq_true p483
  replace q483 := eq_true q483
  refine start_ (n := 12) (S := fun w' => w'.cell? ⟨gb472, 0, none⟩ = some (.slice Ao23 t474.length co23) ∧ w'.cell? ⟨gb472, 1, none⟩ = some (.slice Ao25 t477.length co25) ∧ w'.cell? ⟨gb472, 2, none⟩ = some (.slice Ao26 t480.length co26) ∧ w'.cell? (ad483.add ((x6_1).toNat * 4)) = some (.int .i64 ((rd_T69 l0 x6_1).f0)) ∧ w'.cell? ⟨(ad483.add ((x6_1).toNat * 4)).block, (ad483.add ((x6_1).toNat * 4)).off + 1, none⟩ = some (.string ((rd_T69 l0 x6_1).f1)) ∧ w'.cell? ⟨(ad483.add ((x6_1).toNat * 4)).block, (ad483.add ((x6_1).toNat * 4)).off + 2, none⟩ = some (.string ((rd_T69 l0 x6_1).f2)) ∧ w'.cell? ⟨(ad483.add ((x6_1).toNat * 4)).block, (ad483.add ((x6_1).toNat * 4)).off + 3, none⟩ = some (.int .i64 ((rd_T69 l0 x6_1).f3))) (ds := []) #[false, false, false, false, false, false, false, false, false, false, false, false] (by kernel_rfl) rfl rfl ⟨(blk_cell BK472.out 0).trans rfl, (blk_cell BK472.out 1).trans rfl, (blk_cell BK472.out 2).trans rfl, ((cb HB.out hw483_0).trans hw483_0), ((cb HB.out hw483_1).trans hw483_1), ((cb HB.out hw483_2).trans hw483_2), ((cb HB.out hw483_3).trans hw483_3)⟩ (fun hHeld => ?_); refine with_tabW newsreelref10_Made.tab7 newsreelref10_Made.bits7 (fun HT_ HW_ => ?_)
  generalize w27.drew = w28 at HO_473000 HO_473001 HO_473002 HO476 HO479 HO482 BK471 BK472 HB hx483_0 hx483_1 hx483_2 hx483_3 hHeld ⊢
  refine pure_ (i := 1) (N := some 30) (v := ?_) (a' := ?_) #[false, true, false, false, false, false, false, false, false, false, false, false] rfl rfl (any_of HT_.out (by kernel_rfl)) (fun _ _ _ h => h) (Or.inl ⟨by rfl, ?_⟩) ?_ ?_
  rotate_left
  ·intro w'
   go_simp
   with_reducible rfl
  rotate_left
  ·simp only [Act.put, sA, s0, sS, i64_w, i32_w]
   rfl
  refine pure_ (i := 2) (N := some 31) (v := ?_) (a' := ?_) #[false, true, true, false, false, false, false, false, false, false, false, false] rfl rfl (any_of HT_.out (by kernel_rfl)) (fun _ _ _ h => h) (Or.inl ⟨by rfl, ?_⟩) ?_ ?_
  rotate_left
  ·intro w'
   go_simp
   with_reducible rfl
  rotate_left
  ·simp only [Act.put, sA, s0, sS, i64_w, i32_w]
   rfl
  refine pure_ (i := 3) (N := some 32) (v := ?_) (a' := ?_) #[false, true, true, true, false, false, false, false, false, false, false, false] rfl rfl (any_of HT_.out (by kernel_rfl)) (fun _ _ _ h => h) (Or.inl ⟨by rfl, ?_⟩) ?_ ?_
  rotate_left
  ·intro w'
   go_simp
   with_reducible rfl
  rotate_left
  ·simp only [Act.put, sA, s0, sS, i64_w, i32_w]
   rfl
  refine take_ (i := 0) (N := some 29) (v := ?_) (a' := ?_) #[true, true, true, true, false, false, false, false, false, false, false, false] rfl rfl (take_ofW HT_.out HW_.out (by kernel_rfl)) (fun _ _ _ h => h) (Or.inl ⟨by rfl, ?_⟩) hHeld ?_ ?_
  rotate_left
  ·rintro w' ⟨s0, s1, s2, s3, s4, s5, s6⟩
   go_simp
   with_reducible rfl
  rotate_left
  ·simp only [Act.put, sA, s0, sS, i64_w, i32_w]
   rfl
  refine take_ (i := 4) (N := some 33) (v := ?_) (a' := ?_) #[true, true, true, true, true, false, false, false, false, false, false, false] rfl rfl (take_ofW HT_.out HW_.out (by kernel_rfl)) (fun _ _ _ h => h) (Or.inl ⟨by rfl, ?_⟩) hHeld ?_ ?_
  rotate_left
  ·rintro w' ⟨s0, s1, s2, s3, s4, s5, s6⟩
   first | (have hz_ := fun (a : Act) (o : Oper) (x : Operand) (ho : o.op = .load 69 x) (hx : a.eval x = _) => exec_load_at (P := Try.prog) (W := w') (cs := [_, _, _]) ho hx Try.underlying69 rfl (by kernel_rfl) s3 ⟨s4, s5, s6, trivial⟩; refine (hz_ _ _ (.tmp 32) ?_ ?_).trans ?_; (focus rfl); (focus (first | (with_reducible rfl) | (go_simp; done))); with_reducible rfl) | (go_simp; with_reducible rfl)
  rotate_left
  ·simp only [Act.put, sA, s0, sS, i64_w, i32_w]
   rfl
  refine join_ (σ := Value × Value × Value × Nat) 2 #[true, true, true, true, true, true, true, true, true, true, false, false] (fun s_ => [(34, .tuple #[.agg #[s_.1, s_.2.1, s_.2.2.1], .int .i64 t493]), (7, .pointer (some ⟨s_.2.2.2, 0, none⟩)), (28, .tuple #[.agg #[s_.1, s_.2.1, s_.2.2.1], .int .i64 t493]), (35, .agg #[s_.1, s_.2.1, s_.2.2.1]), (36, .int .i64 t493)]) (fun s_ w' => (w'.cell? ⟨gb472, 0, none⟩ = some (.slice Ao23 t474.length co23) ∧ w'.cell? ⟨gb472, 1, none⟩ = some (.slice Ao25 t477.length co25) ∧ w'.cell? ⟨gb472, 2, none⟩ = some (.slice Ao26 t480.length co26) ∧ w'.cell? (ad483.add ((x6_1).toNat * 4)) = some (.int .i64 ((rd_T69 l0 x6_1).f0)) ∧ w'.cell? ⟨(ad483.add ((x6_1).toNat * 4)).block, (ad483.add ((x6_1).toNat * 4)).off + 1, none⟩ = some (.string ((rd_T69 l0 x6_1).f1)) ∧ w'.cell? ⟨(ad483.add ((x6_1).toNat * 4)).block, (ad483.add ((x6_1).toNat * 4)).off + 2, none⟩ = some (.string ((rd_T69 l0 x6_1).f2)) ∧ w'.cell? ⟨(ad483.add ((x6_1).toNat * 4)).block, (ad483.add ((x6_1).toNat * 4)).off + 3, none⟩ = some (.int .i64 ((rd_T69 l0 x6_1).f3))) ∧ (Kd.V k77 77 w' w.heap.size (fun k_ => (w.heap.size ≤ k_) ∧ some k_ ≠ (.slice Ao26 t480.length co26 : Value).ownBlock ∧ some k_ ≠ (s_.1 : Value).ownBlock ∧ some k_ ≠ (s_.2.2.1 : Value).ownBlock ∧ some k_ ≠ (.slice Ao21 x473002_1.length co21 : Value).ownBlock ∧ k_ ≠ gb471 ∧ k_ ≠ gb472 ∧ k_ ≠ s_.2.2.2) (.slice Ao23 t474.length co23) t474) ∧ (Kd.V k77 77 w' w.heap.size (fun k_ => (w.heap.size ≤ k_) ∧ some k_ ≠ (.slice Ao26 t480.length co26 : Value).ownBlock ∧ some k_ ≠ (s_.1 : Value).ownBlock ∧ some k_ ≠ (s_.2.2.1 : Value).ownBlock ∧ some k_ ≠ (.slice Ao21 x473002_1.length co21 : Value).ownBlock ∧ k_ ≠ gb471 ∧ k_ ≠ gb472 ∧ k_ ≠ s_.2.2.2) (.slice Ao25 t477.length co25) t477) ∧ (Kd.R k69 69 w' w.heap.size (fun k_ => (w.heap.size ≤ k_) ∧ some k_ ≠ (s_.2.2.1 : Value).ownBlock ∧ some k_ ≠ (.slice Ao21 x473002_1.length co21 : Value).ownBlock) (.slice Ao26 t480.length co26) t480) ∧ (Kd.R k77 77 w' w.heap.size (fun k_ => (w.heap.size ≤ k_)) s_.1 t484) ∧ (Kd.V k77 77 w' w.heap.size (fun k_ => (w.heap.size ≤ k_) ∧ some k_ ≠ (.slice Ao26 t480.length co26 : Value).ownBlock ∧ some k_ ≠ (s_.1 : Value).ownBlock ∧ some k_ ≠ (s_.2.2.1 : Value).ownBlock ∧ some k_ ≠ (.slice Ao21 x473002_1.length co21 : Value).ownBlock ∧ k_ ≠ gb471 ∧ k_ ≠ gb472 ∧ k_ ≠ s_.2.2.2) s_.2.1 t487) ∧ (Kd.R k69 69 w' w.heap.size (fun k_ => (w.heap.size ≤ k_) ∧ some k_ ≠ (.slice Ao26 t480.length co26 : Value).ownBlock ∧ some k_ ≠ (.slice Ao21 x473002_1.length co21 : Value).ownBlock) s_.2.2.1 t490) ∧ (Kd.V k77 77 w' w.heap.size (fun k_ => (w.heap.size ≤ k_) ∧ some k_ ≠ (.slice Ao26 t480.length co26 : Value).ownBlock ∧ some k_ ≠ (s_.1 : Value).ownBlock ∧ some k_ ≠ (s_.2.2.1 : Value).ownBlock ∧ some k_ ≠ (.slice Ao21 x473002_1.length co21 : Value).ownBlock ∧ k_ ≠ gb471 ∧ k_ ≠ gb472 ∧ k_ ≠ s_.2.2.2) (.slice Ao19 x473000_1.length co19) x473000_1) ∧ (Kd.V k77 77 w' w.heap.size (fun k_ => (w.heap.size ≤ k_) ∧ some k_ ≠ (.slice Ao26 t480.length co26 : Value).ownBlock ∧ some k_ ≠ (s_.1 : Value).ownBlock ∧ some k_ ≠ (s_.2.2.1 : Value).ownBlock ∧ some k_ ≠ (.slice Ao21 x473002_1.length co21 : Value).ownBlock ∧ k_ ≠ gb471 ∧ k_ ≠ gb472 ∧ k_ ≠ s_.2.2.2) (.slice Ao20 x473001_1.length co20) x473001_1) ∧ (Kd.R k69 69 w' w.heap.size (fun k_ => (w.heap.size ≤ k_) ∧ some k_ ≠ (.slice Ao26 t480.length co26 : Value).ownBlock ∧ some k_ ≠ (s_.2.2.1 : Value).ownBlock) (.slice Ao21 x473002_1.length co21) x473002_1) ∧ (w'.heap[gb471]? = some (.cells #[.slice none 0 0, .slice none 0 0, .slice none 0 0] 67 (0, 0))) ∧ (w'.heap[gb472]? = some (.cells #[.slice Ao23 t474.length co23, .slice Ao25 t477.length co25, .slice Ao26 t480.length co26] 67 (0, 0))) ∧ (w'.heap[s_.2.2.2]? = some (.cells #[.slice none 0 0, .slice none 0 0, .slice none 0 0] 67 (0, 0))) ∧ (w.heap.size ≤ s_.2.2.2) ∧ (w.heap.size ≤ s_.2.2.2) ∧ (gb471 ≠ s_.2.2.2) ∧ (s_.2.2.2 ≠ gb471) ∧ (gb472 ≠ s_.2.2.2) ∧ (s_.2.2.2 ≠ gb472) ∧ (Below w.heap.size w w')) ?_ ?_
  rotate_left
  ·intro hCont
   refine two_ (i := 5) (j := 9) (Ni := some 34) (Nj := some 7) #[true, true, true, true, true, true, false, false, false, false, false, false] #[true, true, true, true, true, false, false, false, false, true, false, false] rfl rfl rfl rfl (two_of HT_.out (by kernel_rfl)) (by decide) (by decide) (fun K hK => ?_) (fun K hK => ?_)
   ·skip
    refine goes_ Try.func43 (by kernel_rfl) rfl #[.agg #[.slice Ao23 t474.length co23, .slice Ao25 t477.length co25, .slice Ao26 t480.length co26], .agg #[.int .i64 ((rd_T69 l0 x6_1).f0), .string ((rd_T69 l0 x6_1).f1), .string ((rd_T69 l0 x6_1).f2), .int .i64 ((rd_T69 l0 x6_1).f3)]] (by rfl) rfl rfl ca ?_
    with_reducible refine (newsreelref10_Do.calls kj7 _ _ t474 (fun k_ => ((w.heap.size ≤ k_) ∧ (some k_ ≠ (.slice Ao21 x473002_1.length co21 : Value).ownBlock ∧ (some k_ ≠ (.slice Ao26 t480.length co26 : Value).ownBlock ∧ (k_ ≠ gb471 ∧ k_ ≠ gb472))))) _ _ t477 _ _ t480 ((rd_T69 l0 x6_1).f0) ((rd_T69 l0 x6_1).f1) ((rd_T69 l0 x6_1).f2) ((rd_T69 l0 x6_1).f3) t484 t487 t490 t493 _ ?side1 ?side2 ?side3 ?side4 ?side5 A15.out).mono ?_
    (case side1 => exact Kd.C_y (Kd.V_reads' HO476.out).2.2)
    (case side2 => exact (Kd.V_reads' HO476.out).2.1)
    (case side3 => exact HO479.out)
    (case side4 => exact Kd.C_y (Kd.R_reads' HO482.out).2.2)
    (case side5 => exact (Kd.R_reads' HO482.out).2.1)
    rintro e w29 ⟨v485, v488, v491, rfl, ho0, ho1, ho2, hb⟩
    refine ⟨_, rfl, ?_⟩
    have n0_ := mkA (Kd.V_mono (Kd.V_told (Kd.V_told (Kd.V_old (Kd.V_y HO_473000.out) hb) (Kd.R_base ho0)) (Kd.R_base ho2)) (fun _ h_ => h_.1))
    have n1_ := mkA (Kd.V_mono (Kd.V_told (Kd.V_told (Kd.V_old (Kd.V_y HO_473001.out) hb) (Kd.R_base ho0)) (Kd.R_base ho2)) (fun _ h_ => h_.1))
    have n2_ := mkA (Kd.R_elder' (Kd.R_y HO_473002.out) (Kd.R_base ho2) hb)
    have n3_ := mkA (Kd.V_mono (Kd.V_told (Kd.V_told (Kd.V_old (Kd.V_y HO476.out) hb) (Kd.R_base ho0)) (Kd.R_base ho2)) (fun _ h_ => h_.1))
    have n4_ := mkA (Kd.V_mono (Kd.V_told (Kd.V_told (Kd.V_old (Kd.V_y HO479.out) hb) (Kd.R_base ho0)) (Kd.R_base ho2)) (fun _ h_ => h_.1))
    have n5_ := mkA (Kd.R_elder' (Kd.R_y HO482.out) (Kd.R_base ho2) hb)
    have n6_ := mkA (Kd.R_lower (Kd.R_newM (M := fun k_ => (w.heap.size ≤ k_)) (Kd.R_mono (ok' := fun k_ => True) ho0 (fun _ hk_ => trivial)) (below_size (below_y HB.out)) (fun k_ h_ => h_)) (below_size (below_y HB.out)))
    have n7_ := mkA (Kd.V_lower (Kd.V_mono (ok' := fun k_ => (w.heap.size ≤ k_) ∧ some k_ ≠ (v485 : Value).ownBlock ∧ some k_ ≠ (v491 : Value).ownBlock ∧ some k_ ≠ (.slice Ao21 x473002_1.length co21 : Value).ownBlock ∧ some k_ ≠ (.slice Ao26 t480.length co26 : Value).ownBlock ∧ k_ ≠ gb471 ∧ k_ ≠ gb472) ho1 (fun k_ hk_ => ⟨Or.elim hk_.1 (fun hs_ => hs_.1) (fun hn_ => (Nat.le_trans (below_size (below_y HB.out)) hn_)), hk_.2.1, hk_.2.2, Or.elim hk_.1 (fun hs_ => hs_.2.1) (fun hn_ => (Kd.fresh' (Kd.R_lt (Kd.R_y HO_473002.out)) k_ hn_)), Or.elim hk_.1 (fun hs_ => hs_.2.2.1) (fun hn_ => (Kd.fresh' (Kd.R_lt (Kd.R_y HO482.out)) k_ hn_)), Or.elim hk_.1 (fun hs_ => hs_.2.2.2.1) (fun hn_ => (Kd.freshB (blk_y BK471.out) k_ hn_)), Or.elim hk_.1 (fun hs_ => hs_.2.2.2.2) (fun hn_ => (Kd.freshB (blk_y BK472.out) k_ hn_))⟩)) (below_size (below_y HB.out)))
    have n8_ := mkA (Kd.R_lower (Kd.R_new' (Kd.R_new' (Kd.R_newM (M := fun k_ => (w.heap.size ≤ k_)) (Kd.R_mono (ok' := fun k_ => True) ho2 (fun _ hk_ => trivial)) (below_size (below_y HB.out)) (fun k_ h_ => h_)) (Kd.R_lt (Kd.R_y HO_473002.out))) (Kd.R_lt (Kd.R_y HO482.out))) (below_size (below_y HB.out)))
    have n9_ := mkA (blk_below (blk_y BK471.out) hb)
    have n10_ := mkA (blk_below (blk_y BK472.out) hb)
    have n11_ := mkA (below_step (below_y HB.out) hb)
    clear HO_473000 HO_473001 HO_473002 HO476 HO479 HO482 BK471 BK472 HB
    have HO_473000 := n0_
    have HO_473001 := n1_
    have HO_473002 := n2_
    have HO476 := n3_
    have HO479 := n4_
    have HO482 := n5_
    have HO486 := n6_
    have HO489 := n7_
    have HO492 := n8_
    have BK471 := n9_
    have BK472 := n10_
    have HB := n11_
    clear n0_ n1_ n2_ n3_ n4_ n5_ n6_ n7_ n8_ n9_ n10_ n11_
    (try clear hb)
    (try clear hb2)
    (try clear hk)
    (try clear hi)
    (try clear ho0)
    (try clear ho1)
    (try clear ho2)
    refine hK.out _ _ ⟨(blk_cell BK472.out 0).trans rfl, (blk_cell BK472.out 1).trans rfl, (blk_cell BK472.out 2).trans rfl, ((cb HB.out hw483_0).trans hw483_0), ((cb HB.out hw483_1).trans hw483_1), ((cb HB.out hw483_2).trans hw483_2), ((cb HB.out hw483_3).trans hw483_3)⟩ (fun hHeld => ?_)
    clear hK K
    refine norm_ (a' := ?_) ?_ ?_
    rotate_left
    ·show Act.put _ (some 34) _ = _
     simp only [Act.put, sA, s0, sS, i64_w, i32_w]
     rfl
    refine pure_ (i := 6) (N := some 28) (v := ?_) (a' := ?_) #[true, true, true, true, true, true, true, false, false, false, false, false] rfl rfl (any_of HT_.out (by kernel_rfl)) (fun _ _ _ h => h) (Or.inl ⟨by rfl, ?_⟩) ?_ ?_
    rotate_left
    ·intro w'
     go_simp
     with_reducible rfl
    rotate_left
    ·simp only [Act.put, sA, s0, sS, i64_w, i32_w]
     rfl
    refine pure_ (i := 7) (N := some 35) (v := ?_) (a' := ?_) #[true, true, true, true, true, true, true, true, false, false, false, false] rfl rfl (any_of HT_.out (by kernel_rfl)) (fun _ _ _ h => h) (Or.inl ⟨by rfl, ?_⟩) ?_ ?_
    rotate_left
    ·intro w'
     go_simp
     with_reducible rfl
    rotate_left
    ·simp only [Act.put, sA, s0, sS, i64_w, i32_w]
     rfl
    refine pure_ (i := 8) (N := some 36) (v := ?_) (a' := ?_) #[true, true, true, true, true, true, true, true, true, false, false, false] rfl rfl (any_of HT_.out (by kernel_rfl)) (fun _ _ _ h => h) (Or.inl ⟨by rfl, ?_⟩) ?_ ?_
    rotate_left
    ·intro w'
     go_simp
     with_reducible rfl
    rotate_left
    ·simp only [Act.put, sA, s0, sS, i64_w, i32_w]
     rfl
    refine one_ (i := 9) (N := some 7) #[true, true, true, true, true, true, true, true, true, true, false, false] rfl rfl (one_of HT_.out (by kernel_rfl)) (by decide) (fun K hK => ?_)
    refine box_step ?hg (N := 7) ?hd (cs := #[.slice none 0 0, .slice none 0 0, .slice none 0 0]) (t := 67) ?hr ?_; (case hd => rfl); (case hg => rfl); (case hr => first | (go_simp; done) | (go_simp; rfl))
    intro gb494 hg w30 hbox hb
    have n0_ := mkA (Kd.V_below (Kd.V_elderB (Kd.V_y HO_473000.out) gb494 (Nat.le_of_eq hg.symm)) hb)
    have n1_ := mkA (Kd.V_below (Kd.V_elderB (Kd.V_y HO_473001.out) gb494 (Nat.le_of_eq hg.symm)) hb)
    have n2_ := mkA (Kd.R_below (Kd.R_y HO_473002.out) hb)
    have n3_ := mkA (Kd.V_below (Kd.V_elderB (Kd.V_y HO476.out) gb494 (Nat.le_of_eq hg.symm)) hb)
    have n4_ := mkA (Kd.V_below (Kd.V_elderB (Kd.V_y HO479.out) gb494 (Nat.le_of_eq hg.symm)) hb)
    have n5_ := mkA (Kd.R_below (Kd.R_y HO482.out) hb)
    have n6_ := mkA (Kd.R_below (Kd.R_y HO486.out) hb)
    have n7_ := mkA (Kd.V_below (Kd.V_elderB (Kd.V_y HO489.out) gb494 (Nat.le_of_eq hg.symm)) hb)
    have n8_ := mkA (Kd.R_below (Kd.R_y HO492.out) hb)
    have n9_ := mkA (blk_below (blk_y BK471.out) hb)
    have n10_ := mkA (blk_below (blk_y BK472.out) hb)
    have n11_ := mkA (below_step (below_y HB.out) hb)
    have n12_ := mkA (hbox)
    have n13_ := mkA ((gz hg HB.out : w.heap.size ≤ gb494))
    have n14_ := mkA ((gz hg HB.out : w.heap.size ≤ gb494))
    have n15_ := mkA ((gn hg BK471.out : gb471 ≠ gb494))
    have n16_ := mkA ((gm hg BK471.out : gb494 ≠ gb471))
    have n17_ := mkA ((gn hg BK472.out : gb472 ≠ gb494))
    have n18_ := mkA ((gm hg BK472.out : gb494 ≠ gb472))
    clear HO_473000 HO_473001 HO_473002 HO476 HO479 HO482 HO486 HO489 HO492 BK471 BK472 HB
    have HO_473000 := n0_
    have HO_473001 := n1_
    have HO_473002 := n2_
    have HO476 := n3_
    have HO479 := n4_
    have HO482 := n5_
    have HO486 := n6_
    have HO489 := n7_
    have HO492 := n8_
    have BK471 := n9_
    have BK472 := n10_
    have HB := n11_
    have BK494 := n12_
    have GW494 := n13_
    have GE494 := n14_
    have NB471_494 := n15_
    have NB494_471 := n16_
    have NB472_494 := n17_
    have NB494_472 := n18_
    clear n0_ n1_ n2_ n3_ n4_ n5_ n6_ n7_ n8_ n9_ n10_ n11_ n12_ n13_ n14_ n15_ n16_ n17_ n18_ hb hbox hg
    refine hK.out _ _ ⟨(blk_cell BK472.out 0).trans rfl, (blk_cell BK472.out 1).trans rfl, (blk_cell BK472.out 2).trans rfl, ((cb HB.out hw483_0).trans hw483_0), ((cb HB.out hw483_1).trans hw483_1), ((cb HB.out hw483_2).trans hw483_2), ((cb HB.out hw483_3).trans hw483_3)⟩ (fun hHeld => ?_)
    clear hK K
    refine norm_ (a' := ?_) ?_ ?_
    rotate_left
    ·show Act.put _ (some 7) _ = _
     simp only [Act.put, sA, s0, sS, i64_w, i32_w]
     rfl
    exact norm_ (by simp only [putAll, Act.put, sA, s0, sS]) (hCont (v485, v488, v491, gb494) _ ⟨hHeld, (by (with_reducible repeat (first | apply Kd.V_alloc | apply Kd.V_drewN | apply Kd.V_drew)); exact Kd.V_mono HO476.out (fun _ hk => ⟨hk.1.1.1.1, ⟨hk.1.1.1.2.2.1, ⟨hk.1.1.2, ⟨hk.1.2, ⟨hk.1.1.1.2.1, ⟨hk.1.1.1.2.2.2.1, ⟨hk.1.1.1.2.2.2.2, hk.2⟩⟩⟩⟩⟩⟩⟩)), (by (with_reducible repeat (first | apply Kd.V_alloc | apply Kd.V_drewN | apply Kd.V_drew)); exact Kd.V_mono HO479.out (fun _ hk => ⟨hk.1.1.1.1, ⟨hk.1.1.1.2.2.1, ⟨hk.1.1.2, ⟨hk.1.2, ⟨hk.1.1.1.2.1, ⟨hk.1.1.1.2.2.2.1, ⟨hk.1.1.1.2.2.2.2, hk.2⟩⟩⟩⟩⟩⟩⟩)), (by (with_reducible repeat (first | apply Kd.R_alloc | apply Kd.R_drewN | apply Kd.R_drew)); exact Kd.R_mono HO482.out (fun _ hk => ⟨hk.1.1, ⟨hk.2, hk.1.2⟩⟩)), (by (with_reducible repeat (first | apply Kd.R_alloc | apply Kd.R_drewN | apply Kd.R_drew)); exact Kd.R_mono HO486.out (fun _ hk => hk.1)), (by (with_reducible repeat (first | apply Kd.V_alloc | apply Kd.V_drewN | apply Kd.V_drew)); exact Kd.V_mono HO489.out (fun _ hk => ⟨hk.1.1, ⟨hk.1.2.2.2.2.1, ⟨hk.1.2.1, ⟨hk.1.2.2.1, ⟨hk.1.2.2.2.1, ⟨hk.1.2.2.2.2.2.1, ⟨hk.1.2.2.2.2.2.2, hk.2⟩⟩⟩⟩⟩⟩⟩)), (by (with_reducible repeat (first | apply Kd.R_alloc | apply Kd.R_drewN | apply Kd.R_drew)); exact Kd.R_mono HO492.out (fun _ hk => ⟨hk.1.1.1, ⟨hk.2, hk.1.2⟩⟩)), (by (with_reducible repeat (first | apply Kd.V_alloc | apply Kd.V_drewN | apply Kd.V_drew)); exact Kd.V_mono HO_473000.out (fun _ hk => ⟨hk.1.1.1.1, ⟨hk.1.1.1.2.2.1, ⟨hk.1.1.2, ⟨hk.1.2, ⟨hk.1.1.1.2.1, ⟨hk.1.1.1.2.2.2.1, ⟨hk.1.1.1.2.2.2.2, hk.2⟩⟩⟩⟩⟩⟩⟩)), (by (with_reducible repeat (first | apply Kd.V_alloc | apply Kd.V_drewN | apply Kd.V_drew)); exact Kd.V_mono HO_473001.out (fun _ hk => ⟨hk.1.1.1.1, ⟨hk.1.1.1.2.2.1, ⟨hk.1.1.2, ⟨hk.1.2, ⟨hk.1.1.1.2.1, ⟨hk.1.1.1.2.2.2.1, ⟨hk.1.1.1.2.2.2.2, hk.2⟩⟩⟩⟩⟩⟩⟩)), (by (with_reducible repeat (first | apply Kd.R_alloc | apply Kd.R_drewN | apply Kd.R_drew)); exact Kd.R_mono HO_473002.out (fun _ hk => ⟨hk.1.1, ⟨hk.1.2, hk.2⟩⟩)), (blk_y BK471.out), (blk_y BK472.out), (blk_y BK494.out), GW494.out, GE494.out, NB471_494.out, NB494_471.out, NB472_494.out, NB494_472.out, (below_y HB.out)⟩)
   ·skip
    refine box_step ?hg (N := 7) ?hd (cs := #[.slice none 0 0, .slice none 0 0, .slice none 0 0]) (t := 67) ?hr ?_; (case hd => rfl); (case hg => rfl); (case hr => first | (go_simp; done) | (go_simp; rfl))
    intro gb494 hg w29 hbox hb
    have n0_ := mkA (Kd.V_below (Kd.V_elderB (Kd.V_y HO_473000.out) gb494 (Nat.le_of_eq hg.symm)) hb)
    have n1_ := mkA (Kd.V_below (Kd.V_elderB (Kd.V_y HO_473001.out) gb494 (Nat.le_of_eq hg.symm)) hb)
    have n2_ := mkA (Kd.R_below (Kd.R_y HO_473002.out) hb)
    have n3_ := mkA (Kd.V_below (Kd.V_elderB (Kd.V_y HO476.out) gb494 (Nat.le_of_eq hg.symm)) hb)
    have n4_ := mkA (Kd.V_below (Kd.V_elderB (Kd.V_y HO479.out) gb494 (Nat.le_of_eq hg.symm)) hb)
    have n5_ := mkA (Kd.R_below (Kd.R_y HO482.out) hb)
    have n6_ := mkA (blk_below (blk_y BK471.out) hb)
    have n7_ := mkA (blk_below (blk_y BK472.out) hb)
    have n8_ := mkA (below_step (below_y HB.out) hb)
    have n9_ := mkA (hbox)
    have n10_ := mkA ((gz hg HB.out : w.heap.size ≤ gb494))
    have n11_ := mkA ((gz hg HB.out : w.heap.size ≤ gb494))
    have n12_ := mkA ((gn hg BK471.out : gb471 ≠ gb494))
    have n13_ := mkA ((gm hg BK471.out : gb494 ≠ gb471))
    have n14_ := mkA ((gn hg BK472.out : gb472 ≠ gb494))
    have n15_ := mkA ((gm hg BK472.out : gb494 ≠ gb472))
    clear HO_473000 HO_473001 HO_473002 HO476 HO479 HO482 BK471 BK472 HB
    have HO_473000 := n0_
    have HO_473001 := n1_
    have HO_473002 := n2_
    have HO476 := n3_
    have HO479 := n4_
    have HO482 := n5_
    have BK471 := n6_
    have BK472 := n7_
    have HB := n8_
    have BK494 := n9_
    have GW494 := n10_
    have GE494 := n11_
    have NB471_494 := n12_
    have NB494_471 := n13_
    have NB472_494 := n14_
    have NB494_472 := n15_
    clear n0_ n1_ n2_ n3_ n4_ n5_ n6_ n7_ n8_ n9_ n10_ n11_ n12_ n13_ n14_ n15_ hb hbox hg
    refine hK.out _ _ ⟨(blk_cell BK472.out 0).trans rfl, (blk_cell BK472.out 1).trans rfl, (blk_cell BK472.out 2).trans rfl, ((cb HB.out hw483_0).trans hw483_0), ((cb HB.out hw483_1).trans hw483_1), ((cb HB.out hw483_2).trans hw483_2), ((cb HB.out hw483_3).trans hw483_3)⟩ (fun hHeld => ?_)
    clear hK K
    refine norm_ (a' := ?_) ?_ ?_
    rotate_left
    ·show Act.put _ (some 7) _ = _
     simp only [Act.put, sA, s0, sS, i64_w, i32_w]
     rfl
    refine one_ (i := 5) (N := some 34) #[true, true, true, true, true, true, false, false, false, true, false, false] rfl rfl (one_of HT_.out (by kernel_rfl)) (by decide) (fun K hK => ?_)
    refine goes_ Try.func43 (by kernel_rfl) rfl #[.agg #[.slice Ao23 t474.length co23, .slice Ao25 t477.length co25, .slice Ao26 t480.length co26], .agg #[.int .i64 ((rd_T69 l0 x6_1).f0), .string ((rd_T69 l0 x6_1).f1), .string ((rd_T69 l0 x6_1).f2), .int .i64 ((rd_T69 l0 x6_1).f3)]] (by rfl) rfl rfl ca ?_
    with_reducible refine (newsreelref10_Do.calls kj7 _ _ t474 (fun k_ => (((w.heap.size ≤ k_) ∧ (some k_ ≠ (.slice Ao21 x473002_1.length co21 : Value).ownBlock ∧ (some k_ ≠ (.slice Ao26 t480.length co26 : Value).ownBlock ∧ (k_ ≠ gb471 ∧ k_ ≠ gb472)))) ∧ k_ ≠ gb494)) _ _ t477 _ _ t480 ((rd_T69 l0 x6_1).f0) ((rd_T69 l0 x6_1).f1) ((rd_T69 l0 x6_1).f2) ((rd_T69 l0 x6_1).f3) t484 t487 t490 t493 _ ?side1 ?side2 ?side3 ?side4 ?side5 A15.out).mono ?_
    (case side1 => exact Kd.C_y (Kd.V_reads' HO476.out).2.2)
    (case side2 => exact (Kd.V_reads' HO476.out).2.1)
    (case side3 => exact HO479.out)
    (case side4 => exact Kd.C_y (Kd.R_reads' HO482.out).2.2)
    (case side5 => exact (Kd.R_reads' HO482.out).2.1)
    rintro e w30 ⟨v485, v488, v491, rfl, ho0, ho1, ho2, hb⟩
    refine ⟨_, rfl, ?_⟩
    have n0_ := mkA (Kd.V_mono (Kd.V_told (Kd.V_told (Kd.V_old (Kd.V_y HO_473000.out) hb) (Kd.R_base ho0)) (Kd.R_base ho2)) (fun _ h_ => h_.1))
    have n1_ := mkA (Kd.V_mono (Kd.V_told (Kd.V_told (Kd.V_old (Kd.V_y HO_473001.out) hb) (Kd.R_base ho0)) (Kd.R_base ho2)) (fun _ h_ => h_.1))
    have n2_ := mkA (Kd.R_elder' (Kd.R_y HO_473002.out) (Kd.R_base ho2) hb)
    have n3_ := mkA (Kd.V_mono (Kd.V_told (Kd.V_told (Kd.V_old (Kd.V_y HO476.out) hb) (Kd.R_base ho0)) (Kd.R_base ho2)) (fun _ h_ => h_.1))
    have n4_ := mkA (Kd.V_mono (Kd.V_told (Kd.V_told (Kd.V_old (Kd.V_y HO479.out) hb) (Kd.R_base ho0)) (Kd.R_base ho2)) (fun _ h_ => h_.1))
    have n5_ := mkA (Kd.R_elder' (Kd.R_y HO482.out) (Kd.R_base ho2) hb)
    have n6_ := mkA (Kd.R_lower (Kd.R_newM (M := fun k_ => (w.heap.size ≤ k_)) (Kd.R_mono (ok' := fun k_ => True) ho0 (fun _ hk_ => trivial)) (below_size (below_y HB.out)) (fun k_ h_ => h_)) (below_size (below_y HB.out)))
    have n7_ := mkA (Kd.V_lower (Kd.V_mono (ok' := fun k_ => (w.heap.size ≤ k_) ∧ some k_ ≠ (v485 : Value).ownBlock ∧ some k_ ≠ (v491 : Value).ownBlock ∧ some k_ ≠ (.slice Ao21 x473002_1.length co21 : Value).ownBlock ∧ some k_ ≠ (.slice Ao26 t480.length co26 : Value).ownBlock ∧ k_ ≠ gb471 ∧ k_ ≠ gb472 ∧ k_ ≠ gb494) ho1 (fun k_ hk_ => ⟨Or.elim hk_.1 (fun hs_ => hs_.1.1) (fun hn_ => (Nat.le_trans (below_size (below_y HB.out)) hn_)), hk_.2.1, hk_.2.2, Or.elim hk_.1 (fun hs_ => hs_.1.2.1) (fun hn_ => (Kd.fresh' (Kd.R_lt (Kd.R_y HO_473002.out)) k_ hn_)), Or.elim hk_.1 (fun hs_ => hs_.1.2.2.1) (fun hn_ => (Kd.fresh' (Kd.R_lt (Kd.R_y HO482.out)) k_ hn_)), Or.elim hk_.1 (fun hs_ => hs_.1.2.2.2.1) (fun hn_ => (Kd.freshB (blk_y BK471.out) k_ hn_)), Or.elim hk_.1 (fun hs_ => hs_.1.2.2.2.2) (fun hn_ => (Kd.freshB (blk_y BK472.out) k_ hn_)), Or.elim hk_.1 (fun hs_ => hs_.2) (fun hn_ => (Kd.freshB (blk_y BK494.out) k_ hn_))⟩)) (below_size (below_y HB.out)))
    have n8_ := mkA (Kd.R_lower (Kd.R_new' (Kd.R_new' (Kd.R_newM (M := fun k_ => (w.heap.size ≤ k_)) (Kd.R_mono (ok' := fun k_ => True) ho2 (fun _ hk_ => trivial)) (below_size (below_y HB.out)) (fun k_ h_ => h_)) (Kd.R_lt (Kd.R_y HO_473002.out))) (Kd.R_lt (Kd.R_y HO482.out))) (below_size (below_y HB.out)))
    have n9_ := mkA (blk_below (blk_y BK471.out) hb)
    have n10_ := mkA (blk_below (blk_y BK472.out) hb)
    have n11_ := mkA (blk_below (blk_y BK494.out) hb)
    have n12_ := mkA (below_step (below_y HB.out) hb)
    clear HO_473000 HO_473001 HO_473002 HO476 HO479 HO482 BK471 BK472 BK494 HB
    have HO_473000 := n0_
    have HO_473001 := n1_
    have HO_473002 := n2_
    have HO476 := n3_
    have HO479 := n4_
    have HO482 := n5_
    have HO486 := n6_
    have HO489 := n7_
    have HO492 := n8_
    have BK471 := n9_
    have BK472 := n10_
    have BK494 := n11_
    have HB := n12_
    clear n0_ n1_ n2_ n3_ n4_ n5_ n6_ n7_ n8_ n9_ n10_ n11_ n12_
    (try clear hb)
    (try clear hb2)
    (try clear hk)
    (try clear hi)
    (try clear ho0)
    (try clear ho1)
    (try clear ho2)
    refine hK.out _ _ ⟨(blk_cell BK472.out 0).trans rfl, (blk_cell BK472.out 1).trans rfl, (blk_cell BK472.out 2).trans rfl, ((cb HB.out hw483_0).trans hw483_0), ((cb HB.out hw483_1).trans hw483_1), ((cb HB.out hw483_2).trans hw483_2), ((cb HB.out hw483_3).trans hw483_3)⟩ (fun hHeld => ?_)
    clear hK K
    refine norm_ (a' := ?_) ?_ ?_
    rotate_left
    ·show Act.put _ (some 34) _ = _
     simp only [Act.put, sA, s0, sS, i64_w, i32_w]
     rfl
    refine pure_ (i := 6) (N := some 28) (v := ?_) (a' := ?_) #[true, true, true, true, true, true, true, false, false, true, false, false] rfl rfl (any_of HT_.out (by kernel_rfl)) (fun _ _ _ h => h) (Or.inl ⟨by rfl, ?_⟩) ?_ ?_
    rotate_left
    ·intro w'
     go_simp
     with_reducible rfl
    rotate_left
    ·simp only [Act.put, sA, s0, sS, i64_w, i32_w]
     rfl
    refine pure_ (i := 7) (N := some 35) (v := ?_) (a' := ?_) #[true, true, true, true, true, true, true, true, false, true, false, false] rfl rfl (any_of HT_.out (by kernel_rfl)) (fun _ _ _ h => h) (Or.inl ⟨by rfl, ?_⟩) ?_ ?_
    rotate_left
    ·intro w'
     go_simp
     with_reducible rfl
    rotate_left
    ·simp only [Act.put, sA, s0, sS, i64_w, i32_w]
     rfl
    refine pure_ (i := 8) (N := some 36) (v := ?_) (a' := ?_) #[true, true, true, true, true, true, true, true, true, true, false, false] rfl rfl (any_of HT_.out (by kernel_rfl)) (fun _ _ _ h => h) (Or.inl ⟨by rfl, ?_⟩) ?_ ?_
    rotate_left
    ·intro w'
     go_simp
     with_reducible rfl
    rotate_left
    ·simp only [Act.put, sA, s0, sS, i64_w, i32_w]
     rfl
    exact norm_ (by simp only [putAll, Act.put, sA, s0, sS]) (hCont (v485, v488, v491, gb494) _ ⟨hHeld, (by (with_reducible repeat (first | apply Kd.V_alloc | apply Kd.V_drewN | apply Kd.V_drew)); exact Kd.V_mono HO476.out (fun _ hk => ⟨hk.1.1.1.1, ⟨hk.1.1.1.2.2.1, ⟨hk.1.2, ⟨hk.2, ⟨hk.1.1.1.2.1, ⟨hk.1.1.1.2.2.2.1, ⟨hk.1.1.1.2.2.2.2, hk.1.1.2⟩⟩⟩⟩⟩⟩⟩)), (by (with_reducible repeat (first | apply Kd.V_alloc | apply Kd.V_drewN | apply Kd.V_drew)); exact Kd.V_mono HO479.out (fun _ hk => ⟨hk.1.1.1.1, ⟨hk.1.1.1.2.2.1, ⟨hk.1.2, ⟨hk.2, ⟨hk.1.1.1.2.1, ⟨hk.1.1.1.2.2.2.1, ⟨hk.1.1.1.2.2.2.2, hk.1.1.2⟩⟩⟩⟩⟩⟩⟩)), (by (with_reducible repeat (first | apply Kd.R_alloc | apply Kd.R_drewN | apply Kd.R_drew)); exact Kd.R_mono HO482.out (fun _ hk => ⟨hk.1.1, ⟨hk.2, hk.1.2⟩⟩)), (by (with_reducible repeat (first | apply Kd.R_alloc | apply Kd.R_drewN | apply Kd.R_drew)); exact Kd.R_mono HO486.out (fun _ hk => hk.1)), (by (with_reducible repeat (first | apply Kd.V_alloc | apply Kd.V_drewN | apply Kd.V_drew)); exact Kd.V_mono HO489.out (fun _ hk => ⟨hk.1, ⟨hk.2.2.2.2.1, ⟨hk.2.1, ⟨hk.2.2.1, ⟨hk.2.2.2.1, ⟨hk.2.2.2.2.2.1, ⟨hk.2.2.2.2.2.2.1, hk.2.2.2.2.2.2.2⟩⟩⟩⟩⟩⟩⟩)), (by (with_reducible repeat (first | apply Kd.R_alloc | apply Kd.R_drewN | apply Kd.R_drew)); exact Kd.R_mono HO492.out (fun _ hk => ⟨hk.1.1.1, ⟨hk.2, hk.1.2⟩⟩)), (by (with_reducible repeat (first | apply Kd.V_alloc | apply Kd.V_drewN | apply Kd.V_drew)); exact Kd.V_mono HO_473000.out (fun _ hk => ⟨hk.1.1.1.1, ⟨hk.1.1.1.2.2.1, ⟨hk.1.2, ⟨hk.2, ⟨hk.1.1.1.2.1, ⟨hk.1.1.1.2.2.2.1, ⟨hk.1.1.1.2.2.2.2, hk.1.1.2⟩⟩⟩⟩⟩⟩⟩)), (by (with_reducible repeat (first | apply Kd.V_alloc | apply Kd.V_drewN | apply Kd.V_drew)); exact Kd.V_mono HO_473001.out (fun _ hk => ⟨hk.1.1.1.1, ⟨hk.1.1.1.2.2.1, ⟨hk.1.2, ⟨hk.2, ⟨hk.1.1.1.2.1, ⟨hk.1.1.1.2.2.2.1, ⟨hk.1.1.1.2.2.2.2, hk.1.1.2⟩⟩⟩⟩⟩⟩⟩)), (by (with_reducible repeat (first | apply Kd.R_alloc | apply Kd.R_drewN | apply Kd.R_drew)); exact Kd.R_mono HO_473002.out (fun _ hk => ⟨hk.1.1, ⟨hk.1.2, hk.2⟩⟩)), (blk_y BK471.out), (blk_y BK472.out), (blk_y BK494.out), GW494.out, GE494.out, NB471_494.out, NB494_471.out, NB472_494.out, NB494_472.out, (below_y HB.out)⟩)
  rintro ⟨v485, v488, v491, gb494⟩ w31 ⟨hS_, h0_, h1_, h2_, h3_, h4_, h5_, h6_, h7_, h8_, h9_, h10_, h11_, h12_, h13_, h14_, h15_, h16_, h17_, h18_⟩
  have n0_ : Aside0 (Kd.V k77 77 w31 w.heap.size (fun k_ => (w.heap.size ≤ k_) ∧ some k_ ≠ (.slice Ao26 t480.length co26 : Value).ownBlock ∧ some k_ ≠ (v485 : Value).ownBlock ∧ some k_ ≠ (v491 : Value).ownBlock ∧ some k_ ≠ (.slice Ao21 x473002_1.length co21 : Value).ownBlock ∧ k_ ≠ gb471 ∧ k_ ≠ gb472 ∧ k_ ≠ gb494) (.slice Ao23 t474.length co23) t474) := ⟨h0_⟩
  have n1_ : Aside0 (Kd.V k77 77 w31 w.heap.size (fun k_ => (w.heap.size ≤ k_) ∧ some k_ ≠ (.slice Ao26 t480.length co26 : Value).ownBlock ∧ some k_ ≠ (v485 : Value).ownBlock ∧ some k_ ≠ (v491 : Value).ownBlock ∧ some k_ ≠ (.slice Ao21 x473002_1.length co21 : Value).ownBlock ∧ k_ ≠ gb471 ∧ k_ ≠ gb472 ∧ k_ ≠ gb494) (.slice Ao25 t477.length co25) t477) := ⟨h1_⟩
  have n2_ : Aside0 (Kd.R k69 69 w31 w.heap.size (fun k_ => (w.heap.size ≤ k_) ∧ some k_ ≠ (v491 : Value).ownBlock ∧ some k_ ≠ (.slice Ao21 x473002_1.length co21 : Value).ownBlock) (.slice Ao26 t480.length co26) t480) := ⟨h2_⟩
  have n3_ : Aside0 (Kd.R k77 77 w31 w.heap.size (fun k_ => (w.heap.size ≤ k_)) v485 t484) := ⟨h3_⟩
  have n4_ : Aside0 (Kd.V k77 77 w31 w.heap.size (fun k_ => (w.heap.size ≤ k_) ∧ some k_ ≠ (.slice Ao26 t480.length co26 : Value).ownBlock ∧ some k_ ≠ (v485 : Value).ownBlock ∧ some k_ ≠ (v491 : Value).ownBlock ∧ some k_ ≠ (.slice Ao21 x473002_1.length co21 : Value).ownBlock ∧ k_ ≠ gb471 ∧ k_ ≠ gb472 ∧ k_ ≠ gb494) v488 t487) := ⟨h4_⟩
  have n5_ : Aside0 (Kd.R k69 69 w31 w.heap.size (fun k_ => (w.heap.size ≤ k_) ∧ some k_ ≠ (.slice Ao26 t480.length co26 : Value).ownBlock ∧ some k_ ≠ (.slice Ao21 x473002_1.length co21 : Value).ownBlock) v491 t490) := ⟨h5_⟩
  have n6_ : Aside0 (Kd.V k77 77 w31 w.heap.size (fun k_ => (w.heap.size ≤ k_) ∧ some k_ ≠ (.slice Ao26 t480.length co26 : Value).ownBlock ∧ some k_ ≠ (v485 : Value).ownBlock ∧ some k_ ≠ (v491 : Value).ownBlock ∧ some k_ ≠ (.slice Ao21 x473002_1.length co21 : Value).ownBlock ∧ k_ ≠ gb471 ∧ k_ ≠ gb472 ∧ k_ ≠ gb494) (.slice Ao19 x473000_1.length co19) x473000_1) := ⟨h6_⟩
  have n7_ : Aside0 (Kd.V k77 77 w31 w.heap.size (fun k_ => (w.heap.size ≤ k_) ∧ some k_ ≠ (.slice Ao26 t480.length co26 : Value).ownBlock ∧ some k_ ≠ (v485 : Value).ownBlock ∧ some k_ ≠ (v491 : Value).ownBlock ∧ some k_ ≠ (.slice Ao21 x473002_1.length co21 : Value).ownBlock ∧ k_ ≠ gb471 ∧ k_ ≠ gb472 ∧ k_ ≠ gb494) (.slice Ao20 x473001_1.length co20) x473001_1) := ⟨h7_⟩
  have n8_ : Aside0 (Kd.R k69 69 w31 w.heap.size (fun k_ => (w.heap.size ≤ k_) ∧ some k_ ≠ (.slice Ao26 t480.length co26 : Value).ownBlock ∧ some k_ ≠ (v491 : Value).ownBlock) (.slice Ao21 x473002_1.length co21) x473002_1) := ⟨h8_⟩
  have n9_ : Aside0 (w31.heap[gb471]? = some (.cells #[.slice none 0 0, .slice none 0 0, .slice none 0 0] 67 (0, 0))) := ⟨h9_⟩
  have n10_ : Aside0 (w31.heap[gb472]? = some (.cells #[.slice Ao23 t474.length co23, .slice Ao25 t477.length co25, .slice Ao26 t480.length co26] 67 (0, 0))) := ⟨h10_⟩
  have n11_ : Aside0 (w31.heap[gb494]? = some (.cells #[.slice none 0 0, .slice none 0 0, .slice none 0 0] 67 (0, 0))) := ⟨h11_⟩
  have n12_ : Aside0 (w.heap.size ≤ gb494) := ⟨h12_⟩
  have n13_ : Aside0 (w.heap.size ≤ gb494) := ⟨h13_⟩
  have n14_ : Aside0 (gb471 ≠ gb494) := ⟨h14_⟩
  have n15_ : Aside0 (gb494 ≠ gb471) := ⟨h15_⟩
  have n16_ : Aside0 (gb472 ≠ gb494) := ⟨h16_⟩
  have n17_ : Aside0 (gb494 ≠ gb472) := ⟨h17_⟩
  have n18_ : Aside0 (Below w.heap.size w w31) := ⟨h18_⟩
  clear HO_473000 HO_473001 HO_473002 HO476 HO479 HO482 BK471 BK472 HB h0_ h1_ h2_ h3_ h4_ h5_ h6_ h7_ h8_ h9_ h10_ h11_ h12_ h13_ h14_ h15_ h16_ h17_ h18_
  have HO476 := n0_
  have HO479 := n1_
  have HO482 := n2_
  have HO486 := n3_
  have HO489 := n4_
  have HO492 := n5_
  have HO_473000 := n6_
  have HO_473001 := n7_
  have HO_473002 := n8_
  have BK471 := n9_
  have BK472 := n10_
  have BK494 := n11_
  have GW494 := n12_
  have GE494 := n13_
  have NB471_494 := n14_
  have NB494_471 := n15_
  have NB472_494 := n16_
  have NB494_472 := n17_
  have HB := n18_
  clear n0_ n1_ n2_ n3_ n4_ n5_ n6_ n7_ n8_ n9_ n10_ n11_ n12_ n13_ n14_ n15_ n16_ n17_ n18_
  have hHeld : w31.cell? ⟨gb472, 0, none⟩ = some (.slice Ao23 t474.length co23) ∧ w31.cell? ⟨gb472, 1, none⟩ = some (.slice Ao25 t477.length co25) ∧ w31.cell? ⟨gb472, 2, none⟩ = some (.slice Ao26 t480.length co26) ∧ w31.cell? (ad483.add ((x6_1).toNat * 4)) = some (.int .i64 ((rd_T69 l0 x6_1).f0)) ∧ w31.cell? ⟨(ad483.add ((x6_1).toNat * 4)).block, (ad483.add ((x6_1).toNat * 4)).off + 1, none⟩ = some (.string ((rd_T69 l0 x6_1).f1)) ∧ w31.cell? ⟨(ad483.add ((x6_1).toNat * 4)).block, (ad483.add ((x6_1).toNat * 4)).off + 2, none⟩ = some (.string ((rd_T69 l0 x6_1).f2)) ∧ w31.cell? ⟨(ad483.add ((x6_1).toNat * 4)).block, (ad483.add ((x6_1).toNat * 4)).off + 3, none⟩ = some (.int .i64 ((rd_T69 l0 x6_1).f3)) := hS_
  obtain ⟨Ao32, co32, eo32⟩ := Kd.R_slice HO486.out
  (first | subst eo32 | (injection eo32 with f1_ f2_ f3_; have f4_ := f1_.symm; have f5_ := f3_.symm; clear f1_ f2_ f3_; subst f4_; subst f5_))
  obtain ⟨Ao34, co34, eo34⟩ := Kd.V_slice HO489.out
  (first | subst eo34 | (injection eo34 with f1_ f2_ f3_; have f4_ := f1_.symm; have f5_ := f3_.symm; clear f1_ f2_ f3_; subst f4_; subst f5_))
  obtain ⟨Ao36, co36, eo36⟩ := Kd.R_slice HO492.out
  (first | subst eo36 | (injection eo36 with f1_ f2_ f3_; have f4_ := f1_.symm; have f5_ := f3_.symm; clear f1_ f2_ f3_; subst f4_; subst f5_))
  refine norm_ (a' := ?_) ?_ ?_
  rotate_left
  ·simp only [putAll, Act.put, sA, s0, sS]
   rfl
  refine one_ (i := 10) (N := none) #[true, true, true, true, true, true, true, true, true, true, true, false] rfl rfl (one_of HT_.out (by kernel_rfl)) (by decide) (fun K hK => ?_)
  have hs33 : w31.cell? ⟨gb494, 0, none⟩ = some (.slice none 0 0) := (blk_cell BK494.out 0).trans rfl
  have hfs33 := blk_frozen BK494.out 0
  have hns33_0 := NB471_494.out
  have hns33_1 := NB472_494.out
  have hms33_0 := NB494_471.out
  have hms33_1 := NB494_472.out
  have hs35 : w31.cell? ⟨gb494, 1, none⟩ = some (.slice none 0 0) := (blk_cell BK494.out 1).trans rfl
  have hfs35 := blk_frozen BK494.out 1
  have hns35_0 := NB471_494.out
  have hns35_1 := NB472_494.out
  have hms35_0 := NB494_471.out
  have hms35_1 := NB494_472.out
  have hs37 : w31.cell? ⟨gb494, 2, none⟩ = some (.slice none 0 0) := (blk_cell BK494.out 2).trans rfl
  have hfs37 := blk_frozen BK494.out 2
  have hns37_0 := NB471_494.out
  have hns37_1 := NB472_494.out
  have hms37_0 := NB494_471.out
  have hms37_1 := NB494_472.out
  refine skip_ (w1 := ?_) (by rfl) rfl ?_ ?_
  rotate_left
  ·go_simp
   rfl
  refine hK.out _ _ ⟨((cell_far (p := ⟨gb494, _, none⟩) NB472_494.out _).trans (((cell_far (p := ⟨gb494, _, none⟩) NB472_494.out _).trans (((cell_far (p := ⟨gb494, _, none⟩) NB472_494.out _).trans (hHeld.1)))))), ((cell_far (p := ⟨gb494, _, none⟩) NB472_494.out _).trans (((cell_far (p := ⟨gb494, _, none⟩) NB472_494.out _).trans (((cell_far (p := ⟨gb494, _, none⟩) NB472_494.out _).trans (hHeld.2.1)))))), ((cell_far (p := ⟨gb494, _, none⟩) NB472_494.out _).trans (((cell_far (p := ⟨gb494, _, none⟩) NB472_494.out _).trans (((cell_far (p := ⟨gb494, _, none⟩) NB472_494.out _).trans (hHeld.2.2.1)))))), ((cell_far (p := ⟨gb494, _, none⟩) (nf hw483_0 GW494.out) _).trans (((cell_far (p := ⟨gb494, _, none⟩) (nf hw483_0 GW494.out) _).trans (((cell_far (p := ⟨gb494, _, none⟩) (nf hw483_0 GW494.out) _).trans (hHeld.2.2.2.1)))))), ((cell_far (p := ⟨gb494, _, none⟩) (nf hw483_1 GW494.out) _).trans (((cell_far (p := ⟨gb494, _, none⟩) (nf hw483_1 GW494.out) _).trans (((cell_far (p := ⟨gb494, _, none⟩) (nf hw483_1 GW494.out) _).trans (hHeld.2.2.2.2.1)))))), ((cell_far (p := ⟨gb494, _, none⟩) (nf hw483_2 GW494.out) _).trans (((cell_far (p := ⟨gb494, _, none⟩) (nf hw483_2 GW494.out) _).trans (((cell_far (p := ⟨gb494, _, none⟩) (nf hw483_2 GW494.out) _).trans (hHeld.2.2.2.2.2.1)))))), ((cell_far (p := ⟨gb494, _, none⟩) (nf hw483_3 GW494.out) _).trans (((cell_far (p := ⟨gb494, _, none⟩) (nf hw483_3 GW494.out) _).trans (((cell_far (p := ⟨gb494, _, none⟩) (nf hw483_3 GW494.out) _).trans (hHeld.2.2.2.2.2.2))))))⟩ (fun hHeld => ?_)
  clear hK K
  refine pure_ (i := 11) (N := some 8) (v := ?_) (a' := ?_) #[true, true, true, true, true, true, true, true, true, true, true, true] rfl rfl (any_of HT_.out (by kernel_rfl)) (fun _ _ _ h => h) (Or.inl ⟨by rfl, ?_⟩) ?_ ?_
  rotate_left
  ·intro w'
   go_simp
   with_reducible rfl
  rotate_left
  ·simp only [Act.put, sA, s0, sS, i64_w, i32_w]
   rfl
  refine done_ (done_of HT_.out (by kernel_rfl)) ?_
  have hnb38 := NB494_471.out
  have hnc38 := NB471_494.out
  have hnb39 := NB494_472.out
  have hnc39 := NB472_494.out
  have hcz40_0 := bc BK494.out 0 (.slice none 0 0) rfl
  have hcz40_1 := bc BK494.out 1 (.slice none 0 0) rfl
  have hcz40_2 := bc BK494.out 2 (.slice none 0 0) rfl
  have hfz40_0 := blk_frozen BK494.out 0
  have hfz40_1 := blk_frozen BK494.out 1
  have hfz40_2 := blk_frozen BK494.out 2
  have hcz41_0 := bc BK472.out 0 (.slice Ao23 t474.length co23) rfl
  have hcz41_1 := bc BK472.out 1 (.slice Ao25 t477.length co25) rfl
  have hcz41_2 := bc BK472.out 2 (.slice Ao26 t480.length co26) rfl
  have hfz41_0 := blk_frozen BK472.out 0
  have hfz41_1 := blk_frozen BK472.out 1
  have hfz41_2 := blk_frozen BK472.out 2
  try go_wp2_with (first | ((with_reducible refine gate_load (t := 69) rfl ?_); refine load_at2 (t := 69) ?hg ?ho (c0 := _) (cs := [_, _, _]) Try.underlying69 rfl (by kernel_rfl) hx483_0 ⟨hx483_1, hx483_2, hx483_3, trivial⟩ ?_; (case hg => rfl); (case ho => refine ⟨_, rfl, ?_⟩; first | (with_reducible rfl) | (go_simp; done))))
  go_roundg kj7
  case measure => have := HK1.out; have := HJ7.out; omega
  case rel => exact ⟨(wrap64 (x6_1 + 1)), (t484), (t487), (t490), (.slice Ao32 t484.length co32), (.slice Ao34 t487.length co34), (.slice Ao36 t490.length co36), (by first | rfl | (simp; done) | (simp [*]; done)), H', ⟨by have := HK1.out; have := HJ7.out; omega⟩, ⟨Kd.R_V (by (with_reducible repeat (first | apply Kd.R_alloc | apply Kd.R_drewN | apply Kd.R_drew)); exact Kd.R_mono (Kd.R_far (p := ⟨gb472, 2, none⟩) (Kd.R_far (p := ⟨gb472, 1, none⟩) (Kd.R_far (p := ⟨gb472, 0, none⟩) (Kd.R_far (p := ⟨gb494, 2, none⟩) (Kd.R_far (p := ⟨gb494, 1, none⟩) (Kd.R_far (p := ⟨gb494, 0, none⟩) (Kd.R_types (Kd.R_types (Kd.R_types (Kd.R_types (Kd.R_apart' HO486.out (Kd.R_typed HO492.out) (by decide)) BK471.out (by decide)) BK472.out (by decide)) BK494.out (by decide)) BK472.out (by decide)) (fun _ hk => hk.1.2) (.slice Ao32 t484.length co32)) (fun _ hk => hk.1.2) (.slice Ao34 t487.length co34)) (fun _ hk => hk.1.2) (.slice Ao36 t490.length co36)) (fun _ hk => hk.2) (.slice Ao32 t484.length co32)) (fun _ hk => hk.2) (.slice Ao34 t487.length co34)) (fun _ hk => hk.2) (.slice Ao36 t490.length co36)) (fun _ hk => ⟨hk.1.1.1.1.1, ⟨hk.1.1.1.1.2, ⟨hk.1.1.1.2, hk.1.1.2⟩⟩⟩))⟩, ⟨by (with_reducible repeat (first | apply Kd.V_alloc | apply Kd.V_drewN | apply Kd.V_drew)); exact Kd.V_mono (Kd.V_far (p := ⟨gb472, 2, none⟩) (Kd.V_far (p := ⟨gb472, 1, none⟩) (Kd.V_far (p := ⟨gb472, 0, none⟩) (Kd.V_far (p := ⟨gb494, 2, none⟩) (Kd.V_far (p := ⟨gb494, 1, none⟩) (Kd.V_far (p := ⟨gb494, 0, none⟩) (Kd.V_mono (Kd.V_mono HO489.out (fun k_ hk => (⟨hk, hk.2.2.2.2.2.2.2⟩ : _ ∧ k_ ≠ gb494))) (fun k_ hk => (⟨hk, hk.1.2.2.2.2.2.2.1⟩ : _ ∧ k_ ≠ gb472))) (fun _ hk => hk.1.2) (.slice Ao32 t484.length co32)) (fun _ hk => hk.1.2) (.slice Ao34 t487.length co34)) (fun _ hk => hk.1.2) (.slice Ao36 t490.length co36)) (fun _ hk => hk.2) (.slice Ao32 t484.length co32)) (fun _ hk => hk.2) (.slice Ao34 t487.length co34)) (fun _ hk => hk.2) (.slice Ao36 t490.length co36)) (fun _ hk => ⟨hk.1.1.1, ⟨hk.1.1.2.2.2.1, ⟨hk.1.1.2.2.2.2.2.1, hk.1.1.2.2.2.2.2.2.1⟩⟩⟩)⟩, ⟨by (with_reducible repeat (first | apply Kd.R_alloc | apply Kd.R_drewN | apply Kd.R_drew)); exact Kd.R_mono (Kd.R_far (p := ⟨gb472, 2, none⟩) (Kd.R_far (p := ⟨gb472, 1, none⟩) (Kd.R_far (p := ⟨gb472, 0, none⟩) (Kd.R_far (p := ⟨gb494, 2, none⟩) (Kd.R_far (p := ⟨gb494, 1, none⟩) (Kd.R_far (p := ⟨gb494, 0, none⟩) (Kd.R_types (Kd.R_types HO492.out BK494.out (by decide)) BK472.out (by decide)) (fun _ hk => hk.1.2) (.slice Ao32 t484.length co32)) (fun _ hk => hk.1.2) (.slice Ao34 t487.length co34)) (fun _ hk => hk.1.2) (.slice Ao36 t490.length co36)) (fun _ hk => hk.2) (.slice Ao32 t484.length co32)) (fun _ hk => hk.2) (.slice Ao34 t487.length co34)) (fun _ hk => hk.2) (.slice Ao36 t490.length co36)) (fun _ hk => hk.1.1.1)⟩, ⟨by (iterate 3 ((with_reducible repeat (first | refine blk_drewN ?_ _ | refine blk_drew ?_ | refine blk_alloc ?_ _)); refine blk_far ?_ NB471_472.out _)); (with_reducible repeat (first | refine blk_drewN ?_ _ | refine blk_drew ?_ | refine blk_alloc ?_ _)); refine blk_far ?_ NB471_494.out _; (iterate 2 ((with_reducible repeat (first | refine blk_drewN ?_ _ | refine blk_drew ?_ | refine blk_alloc ?_ _)); refine blk_far ?_ NB471_494.out _)); (with_reducible repeat (first | refine blk_drewN ?_ _ | refine blk_drew ?_ | refine blk_alloc ?_ _)); exact BK471.out⟩, ⟨by (with_reducible repeat (first | refine blk_drewN ?_ _ | refine blk_drew ?_ | refine blk_alloc ?_ _)); refine blk_put (cs := #[.slice Ao32 t484.length co32, .slice Ao34 t487.length co34, .slice Ao26 t480.length co26]) ?_ 2 _ rfl; (with_reducible repeat (first | refine blk_drewN ?_ _ | refine blk_drew ?_ | refine blk_alloc ?_ _)); refine blk_put (cs := #[.slice Ao32 t484.length co32, .slice Ao25 t477.length co25, .slice Ao26 t480.length co26]) ?_ 1 _ rfl; (with_reducible repeat (first | refine blk_drewN ?_ _ | refine blk_drew ?_ | refine blk_alloc ?_ _)); refine blk_put (cs := #[.slice Ao23 t474.length co23, .slice Ao25 t477.length co25, .slice Ao26 t480.length co26]) ?_ 0 _ rfl; (iterate 3 ((with_reducible repeat (first | refine blk_drewN ?_ _ | refine blk_drew ?_ | refine blk_alloc ?_ _)); refine blk_far ?_ NB472_494.out _)); (with_reducible repeat (first | refine blk_drewN ?_ _ | refine blk_drew ?_ | refine blk_alloc ?_ _)); exact BK472.out⟩, ⟨by repeat (first | (with_reducible first | exact HB.out | apply below_alloc | apply pw_below_drewN | apply below_drew1 | refine below_set ?_ GE471.out | refine below_set ?_ GE472.out | refine below_set ?_ GE494.out) | exact HB.out)⟩⟩

end Go.Proofs.Ytkkikdjfigffhab.XDir
