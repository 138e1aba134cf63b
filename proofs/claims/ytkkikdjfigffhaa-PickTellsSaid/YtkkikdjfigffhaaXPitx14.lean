-- By a program of this work (xprint.py) over the translation; Lean checks it.
import Derived.Test.YtkkikdjfigffhaaXPitx0
import Derived.Test.YtkkikdjfigffhaaXPitx11
namespace Go.Proofs.Ytkkikdjfigffhaa.XPit
open Go.RowKit Go.Proofs.YtkkikdjfigffhaaW.PrintWords Go.Proofs.YtkkikdjfigffhaaW.PrintLast Go.Proofs.YtkkikdjfigffhaaW.PrintMore
attribute [local go_sem] max2_int min2_int max_two min_two max_three min_three max_four min_four   -- for this text's walks alone
set_option linter.unusedVariables false
set_option linter.unusedSimpArgs false

/-! ### newsreelref43_When: function 42 -/
mutual
def newsreelref43_When.l0 : Nat → List Int → Int → Int → Int → Int → Int → List (S66) → List (S68) → Option (Int × Bool)
  | 0, _, _, _, _, _, _, _, _ => none
  | k + 1, x4, x5, x165000, x165001, x165002, x165003, x165004, x165005 => if x5 < (x165004.length : Int) then (if 0 ≤ x5 then (if x4.length < 17592186044416 then (newsreelref43_When.l0 k (x4 ++ [(rd_T66 x165004 x5).f3]) (wrap64 (x5 + 1)) x165000 x165001 x165002 x165003 x165004 x165005) else (none)) else (none)) else (newsreelref43_When.l1 k x4 0 x165000 x165001 x165002 x165003 x165004 x165005)
def newsreelref43_When.l1 : Nat → List Int → Int → Int → Int → Int → Int → List (S66) → List (S68) → Option (Int × Bool)
  | 0, _, _, _, _, _, _, _, _ => none
  | k + 1, x4, x6, x165000, x165001, x165002, x165003, x165004, x165005 => if x6 < (x165005.length : Int) then (if 0 ≤ x6 then ((newsreelref43_Waits.f ((rd_T68 x165005 x6).f0) ((rd_T68 x165005 x6).f1) ((rd_T68 x165005 x6).f2) ((rd_T68 x165005 x6).f3) ((rd_T68 x165005 x6).f4) ((rd_T68 x165005 x6).f5) ((rd_T68 x165005 x6).f6) ((rd_T68 x165005 x6).f7) ((rd_T68 x165005 x6).f8) ((rd_T68 x165005 x6).f9) ((rd_T68 x165005 x6).f10) ((rd_T68 x165005 x6).f11) ((rd_T68 x165005 x6).f12) ((rd_T68 x165005 x6).f13) ((rd_T68 x165005 x6).f14) ((rd_T68 x165005 x6).f15) ((rd_T68 x165005 x6).f16) ((rd_T68 x165005 x6).f17) ((rd_T68 x165005 x6).f18) ((rd_T68 x165005 x6).f19)).bind fun t173 => (if t173 = true then (if x4.length < 17592186044416 then (newsreelref43_When.l1 k (x4 ++ [(rd_T68 x165005 x6).f12]) (wrap64 (x6 + 1)) x165000 x165001 x165002 x165003 x165004 x165005) else (none)) else (newsreelref43_When.l1 k x4 (wrap64 (x6 + 1)) x165000 x165001 x165002 x165003 x165004 x165005))) else (none)) else (if (x4.length : Int) = 0 then (some (0, false)) else (if 0 < (x4.length : Int) then (newsreelref43_When.l2 k x4 (rd x4 0) 0) else (none)))
def newsreelref43_When.l2 : Nat → List Int → Int → Int → Option (Int × Bool)
  | 0, _, _, _ => none
  | k + 1, x4, x7, x8 => if x8 < (x4.length : Int) then (if 0 ≤ x8 then (newsreelref43_When.l2 k x4 (mn x7 (rd x4 x8)) (wrap64 (x8 + 1))) else (none)) else (some (x7, true))
end
def newsreelref43_When.f (k : Nat) (a0_0 : Int) (a0_1 : Int) (a0_2 : Int) (a0_3 : Int) (l0_4 : List (S66)) (l0_5 : List (S68)) : Option (Int × Bool) := newsreelref43_When.l0 k (([] : List Int)) 0 a0_0 a0_1 a0_2 a0_3 l0_4 l0_5
theorem newsreelref43_When.mono_l : ∀ k, (∀ y0 y1 y2 y3 y4 y5 y6 y7, LeO (newsreelref43_When.l0 k y0 y1 y2 y3 y4 y5 y6 y7) (newsreelref43_When.l0 (k + 1) y0 y1 y2 y3 y4 y5 y6 y7)) ∧ (∀ y0 y1 y2 y3 y4 y5 y6 y7, LeO (newsreelref43_When.l1 k y0 y1 y2 y3 y4 y5 y6 y7) (newsreelref43_When.l1 (k + 1) y0 y1 y2 y3 y4 y5 y6 y7)) ∧ (∀ y0 y1 y2, LeO (newsreelref43_When.l2 k y0 y1 y2) (newsreelref43_When.l2 (k + 1) y0 y1 y2))
  | 0 => ⟨fun _ _ _ _ _ _ _ _ r h => by simp [newsreelref43_When.l0] at h, fun _ _ _ _ _ _ _ _ r h => by simp [newsreelref43_When.l1] at h, fun _ _ _ r h => by simp [newsreelref43_When.l2] at h⟩
  | k + 1 => by
    obtain ⟨ih0, ih1, ih2⟩ := newsreelref43_When.mono_l k
    refine ⟨?_, ?_, ?_⟩
    · intro y0 y1 y2 y3 y4 y5 y6 y7
      unfold newsreelref43_When.l0
      repeat' first
      | (with_reducible exact ih0 _ _ _ _ _ _ _ _)
      | (with_reducible exact ih1 _ _ _ _ _ _ _ _)
      | (with_reducible exact ih2 _ _ _)
      | (with_reducible exact LeO.refl _)
      | (with_reducible exact LeO.none _)
      | (with_reducible refine LeO.ite ?_ ?_)
      | (with_reducible refine LeO.bind ?_ (fun _ => ?_))
      | exact ih0 _ _ _ _ _ _ _ _
      | exact ih1 _ _ _ _ _ _ _ _
      | exact ih2 _ _ _
      | exact LeO.none _
      | refine LeO.ite ?_ ?_
      | refine LeO.bind ?_ (fun _ => ?_)
    · intro y0 y1 y2 y3 y4 y5 y6 y7
      unfold newsreelref43_When.l1
      repeat' first
      | (with_reducible exact ih0 _ _ _ _ _ _ _ _)
      | (with_reducible exact ih1 _ _ _ _ _ _ _ _)
      | (with_reducible exact ih2 _ _ _)
      | (with_reducible exact LeO.refl _)
      | (with_reducible exact LeO.none _)
      | (with_reducible refine LeO.ite ?_ ?_)
      | (with_reducible refine LeO.bind ?_ (fun _ => ?_))
      | exact ih0 _ _ _ _ _ _ _ _
      | exact ih1 _ _ _ _ _ _ _ _
      | exact ih2 _ _ _
      | exact LeO.none _
      | refine LeO.ite ?_ ?_
      | refine LeO.bind ?_ (fun _ => ?_)
    · intro y0 y1 y2
      unfold newsreelref43_When.l2
      repeat' first
      | (with_reducible exact ih0 _ _ _ _ _ _ _ _)
      | (with_reducible exact ih1 _ _ _ _ _ _ _ _)
      | (with_reducible exact ih2 _ _ _)
      | (with_reducible exact LeO.refl _)
      | (with_reducible exact LeO.none _)
      | (with_reducible refine LeO.ite ?_ ?_)
      | (with_reducible refine LeO.bind ?_ (fun _ => ?_))
      | exact ih0 _ _ _ _ _ _ _ _
      | exact ih1 _ _ _ _ _ _ _ _
      | exact ih2 _ _ _
      | exact LeO.none _
      | refine LeO.ite ?_ ?_
      | refine LeO.bind ?_ (fun _ => ?_)
theorem newsreelref43_When.mono : ∀ a0 a1 a2 a3 a4 a5 k, LeO (newsreelref43_When.f k a0 a1 a2 a3 a4 a5) (newsreelref43_When.f (k + 1) a0 a1 a2 a3 a4 a5) := by
  intro a0 a1 a2 a3 a4 a5 k
  obtain ⟨ih0, ih1, ih2⟩ := newsreelref43_When.mono_l k
  unfold newsreelref43_When.f
  repeat' first
      | (with_reducible exact ih0 _ _ _ _ _ _ _ _)
      | (with_reducible exact ih1 _ _ _ _ _ _ _ _)
      | (with_reducible exact ih2 _ _ _)
      | (with_reducible exact LeO.refl _)
      | (with_reducible exact LeO.none _)
      | (with_reducible refine LeO.ite ?_ ?_)
      | (with_reducible refine LeO.bind ?_ (fun _ => ?_))
      | exact ih0 _ _ _ _ _ _ _ _
      | exact ih1 _ _ _ _ _ _ _ _
      | exact ih2 _ _ _
      | exact LeO.none _
      | refine LeO.ite ?_ ?_
      | refine LeO.bind ?_ (fun _ => ?_)
set_option maxHeartbeats 8000000 in
set_option maxRecDepth 100000 in
theorem newsreelref43_When.calls (k : Nat) (a0_0 : Int) (a0_1 : Int) (a0_2 : Int) (a0_3 : Int) (A0_4 : Option Addr) (c0_4 : Nat) (l0_4 : List (S66)) (A0_5 : Option Addr) (c0_5 : Nat) (l0_5 : List (S68)) (r1 : Int) (r2 : Bool) (w : World) (hr0_4 : Kd.C k66 w A0_4 l0_4.length l0_4) (hc0_4 : l0_4.length ≤ c0_4) (hr0_5 : Kd.C k68 w A0_5 l0_5.length l0_5) (hc0_5 : l0_5.length ≤ c0_5) (h : newsreelref43_When.f k a0_0 a0_1 a0_2 a0_3 l0_4 l0_5 = some (r1, r2)) :
    Calls Try.prog 42 #[.agg #[.int .i64 a0_0, .int .i64 a0_1, .int .i64 a0_2, .int .i64 a0_3, .slice A0_4 l0_4.length c0_4, .slice A0_5 l0_5.length c0_5]] w fun e w' => e = .returned (.tuple #[.int .i64 r1, .bool r2]) ∧ Below w.heap.size w w' := by
  have hu56 := Try.underlying56
  have hu68 := Try.underlying68
  have HR0_4 := Aside0.mk hr0_4
  have HC0_4 := Aside0.mk hc0_4
  clear hr0_4 hc0_4
  have HR0_5 := Aside0.mk hr0_5
  have HC0_5 := Aside0.mk hc0_5
  clear hr0_5 hc0_5
  have HB := Aside0.mk (Below.refl w.heap.size w)
  have H : (newsreelref43_When.l0 k (([] : List Int)) 0 a0_0 a0_1 a0_2 a0_3 l0_4 l0_5) = some (r1, r2) := h
  clear h
  obtain ⟨y165, hy165⟩ : ∃ y_ : List Int, y_ = (([] : List Int)) := ⟨_, rfl⟩
  replace H : (newsreelref43_When.l0 k y165 0 a0_0 a0_1 a0_2 a0_3 l0_4 l0_5) = some (r1, r2) := by first | (rw [hy165]; with_reducible exact H) | (have H2_ := (Option.bind_some _ _).symm.trans H; rw [hy165]; with_reducible exact H2_) | (have H2_ := (Option.bind_some _ _).symm.trans H; with_reducible exact H2_) | with_reducible exact H | (rw [hy165]; exact H) | exact H
  have Ny165 := Aside0.mk hy165
  clear hy165
  have H' := Aside0.mk H
  clear H
  go_enter Try.func42, Try.ntmps42
  go_wp2_with (first | ((with_reducible refine gate_load (t := 56) rfl ?_); refine load_row3 (t := 56) (g := gb164) ?hg BK164.out ?ho ?hb Try.underlying56 rfl ?hs ?_; (case hg => rfl); (case ho => refine ⟨_, rfl, ?_⟩; first | (with_reducible rfl) | (go_simp; done)); (case hb => (with_reducible repeat (first | refine blk_drewN ?_ _ | refine blk_drew ?_ | refine blk_alloc ?_ _)); with_reducible exact BK164.out); (case hs => kernel_rfl)) | ((with_reducible refine gate_dst (N := 1) rfl ?_); refine box_event ?hg (N := 1) ?hd (cs := #[.int .i64 a0_0, .int .i64 a0_1, .int .i64 a0_2, .int .i64 a0_3, .slice A0_4 l0_4.length c0_4, .slice A0_5 l0_5.length c0_5]) (t := 56) ?hr ?_; (case hd => rfl); (case hg => rfl); (case hr => first | (go_simp; done) | (go_simp; rfl)); intro gb164 hg w2 hbox hb; have n0_ := Aside0.mk (below_step (below_y HB.out) hb); have n1_ := Aside0.mk (hbox); have n2_ := Aside0.mk ((by rw [hg]; exact (below_size (below_y HB.out)) : w.heap.size ≤ gb164)); have n3_ := Aside0.mk ((by rw [hg]; exact (below_size (below_y HB.out)) : w.heap.size ≤ gb164)); clear HB; have HB := n0_; have BK164 := n1_; have GW164 := n2_; have GE164 := n3_; clear n0_ n1_ n2_ n3_; clear hb hbox hg) | ((with_reducible refine gate_dst (N := 9) rfl ?_); refine Kd.R_lit (Kd.int .i64) _ 2 ?hg (N := 9) ?hd (xs := ([] : List Int)) (inner := []) (ok := fun _ => True) (okp := fun _ => True) ?hr ?hp (fun _ hk => hk) trivial (Below.refl _ _) (Nat.le_refl _) (by simp) ?_; (case hd => rfl); (case hg => rfl); (case hr => first | (go_simp; done) | (go_simp; rfl)); (case hp => exact (Reps.none _ _)); intro v166 w3 ho4 hb hg_ hnew_; clear hg_ hnew_; (first | rw [← Ny165.out] at ho4 | (simp only [Int.reduceToNat] at ho4; rw [← Ny165.out] at ho4)); have n0_ := Aside0.mk (Kd.R_lower ho4 (below_size (below_y HB.out))); have n1_ := Aside0.mk (blk_below (blk_y BK164.out) hb); have n2_ := Aside0.mk (below_step (below_y HB.out) hb); clear BK164; clear HB; have HO167 := n0_; have BK164 := n1_; have HB := n2_; clear n0_ n1_ n2_; clear hb ho4))
  go_loopg [4, 5] k (fun kq v4 v5 w' => ∃ (x4_1 : List Int) (x5_1 : Int), v5 = .int .i64 x5_1 ∧ Aside0 (newsreelref43_When.l0 kq x4_1 x5_1 a0_0 a0_1 a0_2 a0_3 l0_4 l0_5 = some (r1, r2)) ∧ Aside0 (kq ≤ k) ∧ Aside0 (Kd.R (Kd.int .i64) 2 w' w.heap.size (fun _ => True) v4 x4_1) ∧ Aside0 (w'.heap[gb164]? = some (.cells #[.int .i64 a0_0, .int .i64 a0_1, .int .i64 a0_2, .int .i64 a0_3, (.slice A0_4 l0_4.length c0_4), (.slice A0_5 l0_5.length c0_5)] 56 (0, 0))) ∧ Aside0 (Below w.heap.size w w'))
  case atStart => exact ⟨(y165), (0), (by first | rfl | (simp; done) | (simp [*]; done)), H', ⟨Nat.le_refl _⟩, ⟨by (with_reducible repeat (first | apply Kd.R_alloc | apply Kd.R_drewN | apply Kd.R_drew)); exact HO167.out⟩, ⟨by (with_reducible repeat (first | refine blk_drewN ?_ _ | refine blk_drew ?_ | refine blk_alloc ?_ _)); exact BK164.out⟩, ⟨by repeat (first | (with_reducible first | exact HB.out | apply below_alloc | apply pw_below_drewN | apply below_drew1 | refine below_set ?_ GE164.out) | exact HB.out)⟩⟩
  case round =>
    clear H'
    try clear p2
    try clear c4
    obtain ⟨x4_1, x5_1, rfl, HA, HK1, HO_4, BK164, HB⟩ := hrel
    cases gk with
    | zero => exact absurd HA.out (by simp [newsreelref43_When.l0])
    | succ k1 =>
      have H := HA.out
      clear HA
      simp only [newsreelref43_When.l0] at H
      by_cases c5 : x5_1 < (l0_4.length : Int)
      · rw [if_pos c5] at H
        have c5b0 : decide (x5_1 < (l0_4.length : Int)) = true := decide_eq_true c5
        clear c5
        by_cases c6 : 0 ≤ x5_1
        · rw [if_pos c6] at H
          have c6b0 : decide (0 ≤ x5_1) = true := decide_eq_true c6
          clear c6
          by_cases c7 : x4_1.length < 17592186044416
          · rw [if_pos c7] at H
            have LMc7 := Aside0.mk c7
            clear c7
            obtain ⟨y169, hy169⟩ : ∃ y_ : List Int, y_ = (x4_1 ++ [(rd_T66 l0_4 x5_1).f3]) := ⟨_, rfl⟩
            replace H : (newsreelref43_When.l0 k1 y169 (wrap64 (x5_1 + 1)) a0_0 a0_1 a0_2 a0_3 l0_4 l0_5) = some (r1, r2) := by first | (rw [hy169]; with_reducible exact H) | (have H2_ := (Option.bind_some _ _).symm.trans H; rw [hy169]; with_reducible exact H2_) | (have H2_ := (Option.bind_some _ _).symm.trans H; with_reducible exact H2_) | with_reducible exact H | (rw [hy169]; exact H) | exact H
            have Ny169 := Aside0.mk hy169
            clear hy169
            as_aux_lemma =>
              have H' := Aside0.mk H
              clear H
              have hcz8_0 : wr.cell? ⟨gb164, 0, none⟩ = some (.int .i64 a0_0) := (blk_cell BK164.out 0).trans rfl
              have hcz8_1 : wr.cell? ⟨gb164, 1, none⟩ = some (.int .i64 a0_1) := (blk_cell BK164.out 1).trans rfl
              have hcz8_2 : wr.cell? ⟨gb164, 2, none⟩ = some (.int .i64 a0_2) := (blk_cell BK164.out 2).trans rfl
              have hcz8_3 : wr.cell? ⟨gb164, 3, none⟩ = some (.int .i64 a0_3) := (blk_cell BK164.out 3).trans rfl
              have hcz8_4 : wr.cell? ⟨gb164, 4, none⟩ = some (.slice A0_4 l0_4.length c0_4) := (blk_cell BK164.out 4).trans rfl
              have hcz8_5 : wr.cell? ⟨gb164, 5, none⟩ = some (.slice A0_5 l0_5.length c0_5) := (blk_cell BK164.out 5).trans rfl
              have hfz8_0 := blk_frozen BK164.out 0
              have hfz8_1 := blk_frozen BK164.out 1
              have hfz8_2 := blk_frozen BK164.out 2
              have hfz8_3 := blk_frozen BK164.out 3
              have hfz8_4 := blk_frozen BK164.out 4
              have hfz8_5 := blk_frozen BK164.out 5
              have p168 : 0 ≤ (x5_1 : Int) := of_decide_eq_true (by first | (with_reducible assumption) | assumption)
              have q168 : x5_1 < (l0_4.length : Int) := of_decide_eq_true (by first | (with_reducible assumption) | assumption)
              obtain ⟨ad168, e168, hx168_0, hx168_1, hx168_2, hx168_3, hx168_4⟩ := at_T66 HR0_4.out x5_1 p168 q168
              cases e168
              replace hx168_0 := (HB.out.cell (World.block_lt_of_cell? w _ hx168_0)).trans hx168_0
              replace hx168_1 := (HB.out.cell (World.block_lt_of_cell? w _ hx168_1)).trans hx168_1
              replace hx168_2 := (HB.out.cell (World.block_lt_of_cell? w _ hx168_2)).trans hx168_2
              replace hx168_3 := (HB.out.cell (World.block_lt_of_cell? w _ hx168_3)).trans hx168_3
              replace hx168_4 := (HB.out.cell (World.block_lt_of_cell? w _ hx168_4)).trans hx168_4
              replace p168 := eq_true p168
              replace q168 := eq_true q168
              go_wp2_with (first | ((with_reducible refine gate_load (t := 66) rfl ?_); refine load_at2 (t := 66) ?hg ?ho (c0 := _) (cs := [_, _, _, _]) Try.underlying66 rfl (by kernel_rfl) hx168_0 ⟨hx168_1, hx168_2, hx168_3, hx168_4, trivial⟩ ?_; (case hg => rfl); (case ho => refine ⟨_, rfl, ?_⟩; first | (with_reducible rfl) | (go_simp; done))) | ((with_reducible refine gate_load (t := 56) rfl ?_); refine load_row3 (t := 56) (g := gb164) ?hg BK164.out ?ho ?hb Try.underlying56 rfl ?hs ?_; (case hg => rfl); (case ho => refine ⟨_, rfl, ?_⟩; first | (with_reducible rfl) | (go_simp; done)); (case hb => (with_reducible repeat (first | refine blk_drewN ?_ _ | refine blk_drew ?_ | refine blk_alloc ?_ _)); with_reducible exact BK164.out); (case hs => kernel_rfl)) | ((with_reducible refine gate_builtin (b := .append) (xs := #[.tmp 17, .tmp 24]) rfl ?_); at_builtin; refine Kd.R_append (Kd.int .i64) (w0 := w) w.heap.size rfl (.tmp 17) (.tmp 24) 106 2 (.int .i64 0) 8 rfl Try.underlying106 info2 rfl (by decide) (by omega) u4 x4_1 ((rd_T66 l0_4 x5_1).f3) [.int .i64 ((rd_T66 l0_4 x5_1).f3)] (fun _ => True) (fun _ => False) rfl rfl ?aP (fun _ hk => hk.elim) ?aF ?aO ?aB ?aS ?aL ?_; (case aP => exact rfl); (case aB => exact (below_y HB.out)); (case aF => exact (fun _ _ => trivial)); (case aO => exact (Kd.R_y HO_4.out)); (case aS => exact (below_size (below_y HB.out))); (case aL => have := LMc7.out; omega); intro v170 w9 ho hb hg hat; rw [← Ny169.out] at ho; have n0_ := Aside0.mk (blk_grown (blk_y BK164.out) hg (Kd.R_ne HO_4.out BK164.out (by decide))); have n1_ := Aside0.mk (hb); have n2_ := Aside0.mk (ho); clear BK164; clear HB; clear HO_4; have BK164 := n0_; have HB := n1_; have HO171 := n2_; clear n0_ n1_ n2_; clear ho hb hg hat))
              go_roundg k1
              case measure => have := HK1.out; omega
              case rel => exact ⟨(y169), (wrap64 (x5_1 + 1)), (by first | rfl | (simp; done) | (simp [*]; done)), H', ⟨by have := HK1.out; omega⟩, ⟨by (with_reducible repeat (first | apply Kd.R_alloc | apply Kd.R_drewN | apply Kd.R_drew)); exact HO171.out⟩, ⟨by (with_reducible repeat (first | refine blk_drewN ?_ _ | refine blk_drew ?_ | refine blk_alloc ?_ _)); exact BK164.out⟩, ⟨by repeat (first | (with_reducible first | exact HB.out | apply below_alloc | apply pw_below_drewN | apply below_drew1 | refine below_set ?_ GE164.out) | exact HB.out)⟩⟩
          · rw [if_neg c7] at H
            exact absurd H (by simp)
        · rw [if_neg c6] at H
          exact absurd H (by simp)
      · rw [if_neg c5] at H
        have c5b0 : decide (x5_1 < (l0_4.length : Int)) = false := decide_eq_false c5
        clear c5
        have H' := Aside0.mk H
        clear H
        have hcz10_0 : wr.cell? ⟨gb164, 0, none⟩ = some (.int .i64 a0_0) := (blk_cell BK164.out 0).trans rfl
        have hcz10_1 : wr.cell? ⟨gb164, 1, none⟩ = some (.int .i64 a0_1) := (blk_cell BK164.out 1).trans rfl
        have hcz10_2 : wr.cell? ⟨gb164, 2, none⟩ = some (.int .i64 a0_2) := (blk_cell BK164.out 2).trans rfl
        have hcz10_3 : wr.cell? ⟨gb164, 3, none⟩ = some (.int .i64 a0_3) := (blk_cell BK164.out 3).trans rfl
        have hcz10_4 : wr.cell? ⟨gb164, 4, none⟩ = some (.slice A0_4 l0_4.length c0_4) := (blk_cell BK164.out 4).trans rfl
        have hcz10_5 : wr.cell? ⟨gb164, 5, none⟩ = some (.slice A0_5 l0_5.length c0_5) := (blk_cell BK164.out 5).trans rfl
        have hfz10_0 := blk_frozen BK164.out 0
        have hfz10_1 := blk_frozen BK164.out 1
        have hfz10_2 := blk_frozen BK164.out 2
        have hfz10_3 := blk_frozen BK164.out 3
        have hfz10_4 := blk_frozen BK164.out 4
        have hfz10_5 := blk_frozen BK164.out 5
        go_wp2_with (first | ((with_reducible refine gate_load (t := 56) rfl ?_); refine load_row3 (t := 56) (g := gb164) ?hg BK164.out ?ho ?hb Try.underlying56 rfl ?hs ?_; (case hg => rfl); (case ho => refine ⟨_, rfl, ?_⟩; first | (with_reducible rfl) | (go_simp; done)); (case hb => (with_reducible repeat (first | refine blk_drewN ?_ _ | refine blk_drew ?_ | refine blk_alloc ?_ _)); with_reducible exact BK164.out); (case hs => kernel_rfl)))
        go_loopg [4, 6] k1 (fun kq v4 v6 w' => ∃ (x4_2 : List Int) (x6_2 : Int), v6 = .int .i64 x6_2 ∧ Aside0 (newsreelref43_When.l1 kq x4_2 x6_2 a0_0 a0_1 a0_2 a0_3 l0_4 l0_5 = some (r1, r2)) ∧ Aside0 (kq ≤ k1) ∧ Aside0 (Kd.R (Kd.int .i64) 2 w' w.heap.size (fun _ => True) v4 x4_2) ∧ Aside0 (w'.heap[gb164]? = some (.cells #[.int .i64 a0_0, .int .i64 a0_1, .int .i64 a0_2, .int .i64 a0_3, (.slice A0_4 l0_4.length c0_4), (.slice A0_5 l0_5.length c0_5)] 56 (0, 0))) ∧ Aside0 (Below w.heap.size w w'))
        case atStart => exact ⟨(x4_1), (0), (by first | rfl | (simp; done) | (simp [*]; done)), H', ⟨Nat.le_refl _⟩, ⟨by (with_reducible repeat (first | apply Kd.R_alloc | apply Kd.R_drewN | apply Kd.R_drew)); exact HO_4.out⟩, ⟨by (with_reducible repeat (first | refine blk_drewN ?_ _ | refine blk_drew ?_ | refine blk_alloc ?_ _)); exact BK164.out⟩, ⟨by repeat (first | (with_reducible first | exact HB.out | apply below_alloc | apply pw_below_drewN | apply below_drew1 | refine below_set ?_ GE164.out) | exact HB.out)⟩⟩
        case round =>
          clear H'
          try clear p1
          try clear q1
          try clear hx1
          try clear p2
          try clear c4
          try clear c5
          try clear c5b0
          try clear c6
          try clear c6b0
          try clear p6
          try clear c7
          try clear hcz10_0
          try clear hcz10_1
          try clear hcz10_2
          try clear hcz10_3
          try clear hcz10_4
          try clear hcz10_5
          try clear hcz8_0
          try clear hcz8_1
          try clear hcz8_2
          try clear hcz8_3
          try clear hcz8_4
          try clear hcz8_5
          try clear hfz10_0
          try clear hfz10_1
          try clear hfz10_2
          try clear hfz10_3
          try clear hfz10_4
          try clear hfz10_5
          try clear hfz8_0
          try clear hfz8_1
          try clear hfz8_2
          try clear hfz8_3
          try clear hfz8_4
          try clear hfz8_5
          try clear hx168_0
          try clear hx168_1
          try clear hx168_2
          try clear hx168_3
          try clear hx168_4
          try clear p168
          try clear p2
          try clear q168
          obtain ⟨x4_2, x6_2, rfl, HA, HK2, HO_4, BK164, HB⟩ := hrel
          cases gk with
          | zero => exact absurd HA.out (by simp [newsreelref43_When.l1])
          | succ k2 =>
            have H := HA.out
            clear HA
            simp only [newsreelref43_When.l1] at H
            by_cases c11 : x6_2 < (l0_5.length : Int)
            · rw [if_pos c11] at H
              have c11b0 : decide (x6_2 < (l0_5.length : Int)) = true := decide_eq_true c11
              clear c11
              by_cases c12 : 0 ≤ x6_2
              · rw [if_pos c12] at H
                have c12b0 : decide (0 ≤ x6_2) = true := decide_eq_true c12
                clear c12
                replace H := Option.bind_eq_some_iff.mp H
                obtain ⟨t173, A130, H⟩ := H
                replace H : (if t173 = true then (if x4_2.length < 17592186044416 then (newsreelref43_When.l1 k2 (x4_2 ++ [(rd_T68 l0_5 x6_2).f12]) (wrap64 (x6_2 + 1)) a0_0 a0_1 a0_2 a0_3 l0_4 l0_5) else (none)) else (newsreelref43_When.l1 k2 x4_2 (wrap64 (x6_2 + 1)) a0_0 a0_1 a0_2 a0_3 l0_4 l0_5)) = some (r1, r2) := H
                have A13 := Aside0.mk A130
                clear A130
                by_cases c14 : t173 = true
                · subst c14
                  have H1 : (if x4_2.length < 17592186044416 then (newsreelref43_When.l1 k2 (x4_2 ++ [(rd_T68 l0_5 x6_2).f12]) (wrap64 (x6_2 + 1)) a0_0 a0_1 a0_2 a0_3 l0_4 l0_5) else (none)) = some (r1, r2) := by rw [if_pos rfl] at H; exact H
                  clear H
                  have H := H1
                  clear H1
                  by_cases c15 : x4_2.length < 17592186044416
                  · rw [if_pos c15] at H
                    have LMc15 := Aside0.mk c15
                    clear c15
                    obtain ⟨y175, hy175⟩ : ∃ y_ : List Int, y_ = (x4_2 ++ [(rd_T68 l0_5 x6_2).f12]) := ⟨_, rfl⟩
                    replace H : (newsreelref43_When.l1 k2 y175 (wrap64 (x6_2 + 1)) a0_0 a0_1 a0_2 a0_3 l0_4 l0_5) = some (r1, r2) := by first | (rw [hy175]; with_reducible exact H) | (have H2_ := (Option.bind_some _ _).symm.trans H; rw [hy175]; with_reducible exact H2_) | (have H2_ := (Option.bind_some _ _).symm.trans H; with_reducible exact H2_) | with_reducible exact H | (rw [hy175]; exact H) | exact H
                    have Ny175 := Aside0.mk hy175
                    clear hy175
                    as_aux_lemma =>
                      have H' := Aside0.mk H
                      clear H
                      have hcz16_0 : wr.cell? ⟨gb164, 0, none⟩ = some (.int .i64 a0_0) := (blk_cell BK164.out 0).trans rfl
                      have hcz16_1 : wr.cell? ⟨gb164, 1, none⟩ = some (.int .i64 a0_1) := (blk_cell BK164.out 1).trans rfl
                      have hcz16_2 : wr.cell? ⟨gb164, 2, none⟩ = some (.int .i64 a0_2) := (blk_cell BK164.out 2).trans rfl
                      have hcz16_3 : wr.cell? ⟨gb164, 3, none⟩ = some (.int .i64 a0_3) := (blk_cell BK164.out 3).trans rfl
                      have hcz16_4 : wr.cell? ⟨gb164, 4, none⟩ = some (.slice A0_4 l0_4.length c0_4) := (blk_cell BK164.out 4).trans rfl
                      have hcz16_5 : wr.cell? ⟨gb164, 5, none⟩ = some (.slice A0_5 l0_5.length c0_5) := (blk_cell BK164.out 5).trans rfl
                      have hfz16_0 := blk_frozen BK164.out 0
                      have hfz16_1 := blk_frozen BK164.out 1
                      have hfz16_2 := blk_frozen BK164.out 2
                      have hfz16_3 := blk_frozen BK164.out 3
                      have hfz16_4 := blk_frozen BK164.out 4
                      have hfz16_5 := blk_frozen BK164.out 5
                      have p172 : 0 ≤ (x6_2 : Int) := of_decide_eq_true (by first | (with_reducible assumption) | assumption)
                      have q172 : x6_2 < (l0_5.length : Int) := of_decide_eq_true (by first | (with_reducible assumption) | assumption)
                      obtain ⟨ad172, e172, hx172_0, hx172_1, hx172_2, hx172_3, hx172_4, hx172_5, hx172_6, hx172_7, hx172_8, hx172_9, hx172_10, hx172_11, hx172_12, hx172_13, hx172_14, hx172_15, hx172_16, hx172_17, hx172_18, hx172_19⟩ := at_T68 HR0_5.out x6_2 p172 q172
                      cases e172
                      replace hx172_0 := (HB.out.cell (World.block_lt_of_cell? w _ hx172_0)).trans hx172_0
                      replace hx172_1 := (HB.out.cell (World.block_lt_of_cell? w _ hx172_1)).trans hx172_1
                      replace hx172_2 := (HB.out.cell (World.block_lt_of_cell? w _ hx172_2)).trans hx172_2
                      replace hx172_3 := (HB.out.cell (World.block_lt_of_cell? w _ hx172_3)).trans hx172_3
                      replace hx172_4 := (HB.out.cell (World.block_lt_of_cell? w _ hx172_4)).trans hx172_4
                      replace hx172_5 := (HB.out.cell (World.block_lt_of_cell? w _ hx172_5)).trans hx172_5
                      replace hx172_6 := (HB.out.cell (World.block_lt_of_cell? w _ hx172_6)).trans hx172_6
                      replace hx172_7 := (HB.out.cell (World.block_lt_of_cell? w _ hx172_7)).trans hx172_7
                      replace hx172_8 := (HB.out.cell (World.block_lt_of_cell? w _ hx172_8)).trans hx172_8
                      replace hx172_9 := (HB.out.cell (World.block_lt_of_cell? w _ hx172_9)).trans hx172_9
                      replace hx172_10 := (HB.out.cell (World.block_lt_of_cell? w _ hx172_10)).trans hx172_10
                      replace hx172_11 := (HB.out.cell (World.block_lt_of_cell? w _ hx172_11)).trans hx172_11
                      replace hx172_12 := (HB.out.cell (World.block_lt_of_cell? w _ hx172_12)).trans hx172_12
                      replace hx172_13 := (HB.out.cell (World.block_lt_of_cell? w _ hx172_13)).trans hx172_13
                      replace hx172_14 := (HB.out.cell (World.block_lt_of_cell? w _ hx172_14)).trans hx172_14
                      replace hx172_15 := (HB.out.cell (World.block_lt_of_cell? w _ hx172_15)).trans hx172_15
                      replace hx172_16 := (HB.out.cell (World.block_lt_of_cell? w _ hx172_16)).trans hx172_16
                      replace hx172_17 := (HB.out.cell (World.block_lt_of_cell? w _ hx172_17)).trans hx172_17
                      replace hx172_18 := (HB.out.cell (World.block_lt_of_cell? w _ hx172_18)).trans hx172_18
                      replace hx172_19 := (HB.out.cell (World.block_lt_of_cell? w _ hx172_19)).trans hx172_19
                      replace p172 := eq_true p172
                      replace q172 := eq_true q172
                      go_wp2_with (first | ((with_reducible refine gate_load (t := 68) rfl ?_); refine load_at2 (t := 68) ?hg ?ho (c0 := _) (cs := [_, _, _, _, _, _, _, _, _, _, _, _, _, _, _, _, _, _, _]) Try.underlying68 rfl (by kernel_rfl) hx172_0 ⟨hx172_1, hx172_2, hx172_3, hx172_4, hx172_5, hx172_6, hx172_7, hx172_8, hx172_9, hx172_10, hx172_11, hx172_12, hx172_13, hx172_14, hx172_15, hx172_16, hx172_17, hx172_18, hx172_19, trivial⟩ ?_; (case hg => rfl); (case ho => refine ⟨_, rfl, ?_⟩; first | (with_reducible rfl) | (go_simp; done))) | ((with_reducible refine gate_load (t := 56) rfl ?_); refine load_row3 (t := 56) (g := gb164) ?hg BK164.out ?ho ?hb Try.underlying56 rfl ?hs ?_; (case hg => rfl); (case ho => refine ⟨_, rfl, ?_⟩; first | (with_reducible rfl) | (go_simp; done)); (case hb => (with_reducible repeat (first | refine blk_drewN ?_ _ | refine blk_drew ?_ | refine blk_alloc ?_ _)); with_reducible exact BK164.out); (case hs => kernel_rfl)) | ((with_reducible refine gate_callee (f := 43) rfl ?_); refine goesL_ (some 38) rfl rfl Try.func43 (by kernel_rfl) rfl #[.agg #[.int .i64 ((rd_T68 l0_5 x6_2).f0), .int .i64 ((rd_T68 l0_5 x6_2).f1), .string ((rd_T68 l0_5 x6_2).f2), .string ((rd_T68 l0_5 x6_2).f3), .string ((rd_T68 l0_5 x6_2).f4), .int .i64 ((rd_T68 l0_5 x6_2).f5), .int .i64 ((rd_T68 l0_5 x6_2).f6), .int .i64 ((rd_T68 l0_5 x6_2).f7), .int .i64 ((rd_T68 l0_5 x6_2).f8), .bool ((rd_T68 l0_5 x6_2).f9), .int .i64 ((rd_T68 l0_5 x6_2).f10), .int .i64 ((rd_T68 l0_5 x6_2).f11), .int .i64 ((rd_T68 l0_5 x6_2).f12), .string ((rd_T68 l0_5 x6_2).f13), .int .i64 ((rd_T68 l0_5 x6_2).f14), .int .i64 ((rd_T68 l0_5 x6_2).f15), .string ((rd_T68 l0_5 x6_2).f16), .int .i64 ((rd_T68 l0_5 x6_2).f17), .int .i64 ((rd_T68 l0_5 x6_2).f18), .string ((rd_T68 l0_5 x6_2).f19)]] rfl (by (try simp only [List.map_toArray, List.map_cons, List.map_nil]); first | done | rfl | (simp only [List.length_drop, List.length_take]; rfl)) ?_; (with_reducible refine (newsreelref43_Waits.calls ((rd_T68 l0_5 x6_2).f0) ((rd_T68 l0_5 x6_2).f1) ((rd_T68 l0_5 x6_2).f2) ((rd_T68 l0_5 x6_2).f3) ((rd_T68 l0_5 x6_2).f4) ((rd_T68 l0_5 x6_2).f5) ((rd_T68 l0_5 x6_2).f6) ((rd_T68 l0_5 x6_2).f7) ((rd_T68 l0_5 x6_2).f8) ((rd_T68 l0_5 x6_2).f9) ((rd_T68 l0_5 x6_2).f10) ((rd_T68 l0_5 x6_2).f11) ((rd_T68 l0_5 x6_2).f12) ((rd_T68 l0_5 x6_2).f13) ((rd_T68 l0_5 x6_2).f14) ((rd_T68 l0_5 x6_2).f15) ((rd_T68 l0_5 x6_2).f16) ((rd_T68 l0_5 x6_2).f17) ((rd_T68 l0_5 x6_2).f18) ((rd_T68 l0_5 x6_2).f19) true _ A13.out).mono ?_); rintro e w17 ⟨rfl, hb⟩; refine ⟨_, rfl, ?_⟩; have n0_ := Aside0.mk (Kd.R_below (Kd.R_y HO_4.out) hb); have n1_ := Aside0.mk (blk_below (blk_y BK164.out) hb); have n2_ := Aside0.mk (below_step (below_y HB.out) hb); clear HO_4; clear BK164; clear HB; have HO_4 := n0_; have BK164 := n1_; have HB := n2_; clear n0_ n1_ n2_; (try clear hb); (try clear hb2); (try clear hk); (try clear hi); have hcz18_0 : w17.cell? ⟨gb164, 0, none⟩ = some (.int .i64 a0_0) := (blk_cell BK164.out 0).trans rfl; have hcz18_1 : w17.cell? ⟨gb164, 1, none⟩ = some (.int .i64 a0_1) := (blk_cell BK164.out 1).trans rfl; have hcz18_2 : w17.cell? ⟨gb164, 2, none⟩ = some (.int .i64 a0_2) := (blk_cell BK164.out 2).trans rfl; have hcz18_3 : w17.cell? ⟨gb164, 3, none⟩ = some (.int .i64 a0_3) := (blk_cell BK164.out 3).trans rfl; have hcz18_4 : w17.cell? ⟨gb164, 4, none⟩ = some (.slice A0_4 l0_4.length c0_4) := (blk_cell BK164.out 4).trans rfl; have hcz18_5 : w17.cell? ⟨gb164, 5, none⟩ = some (.slice (some ad172) l0_5.length c0_5) := (blk_cell BK164.out 5).trans rfl; have hfz18_0 := blk_frozen BK164.out 0; have hfz18_1 := blk_frozen BK164.out 1; have hfz18_2 := blk_frozen BK164.out 2; have hfz18_3 := blk_frozen BK164.out 3; have hfz18_4 := blk_frozen BK164.out 4; have hfz18_5 := blk_frozen BK164.out 5; have p174 : 0 ≤ (x6_2 : Int) := of_decide_eq_true (by first | (with_reducible assumption) | assumption); have q174 : x6_2 < (l0_5.length : Int) := of_decide_eq_true (by first | (with_reducible assumption) | assumption); obtain ⟨ad174, e174, hx174_0, hx174_1, hx174_2, hx174_3, hx174_4, hx174_5, hx174_6, hx174_7, hx174_8, hx174_9, hx174_10, hx174_11, hx174_12, hx174_13, hx174_14, hx174_15, hx174_16, hx174_17, hx174_18, hx174_19⟩ := at_T68 HR0_5.out x6_2 p174 q174; obtain rfl : ad172 = ad174 := (by injection e174); replace hx174_0 := (HB.out.cell (World.block_lt_of_cell? w _ hx174_0)).trans hx174_0; replace hx174_1 := (HB.out.cell (World.block_lt_of_cell? w _ hx174_1)).trans hx174_1; replace hx174_2 := (HB.out.cell (World.block_lt_of_cell? w _ hx174_2)).trans hx174_2; replace hx174_3 := (HB.out.cell (World.block_lt_of_cell? w _ hx174_3)).trans hx174_3; replace hx174_4 := (HB.out.cell (World.block_lt_of_cell? w _ hx174_4)).trans hx174_4; replace hx174_5 := (HB.out.cell (World.block_lt_of_cell? w _ hx174_5)).trans hx174_5; replace hx174_6 := (HB.out.cell (World.block_lt_of_cell? w _ hx174_6)).trans hx174_6; replace hx174_7 := (HB.out.cell (World.block_lt_of_cell? w _ hx174_7)).trans hx174_7; replace hx174_8 := (HB.out.cell (World.block_lt_of_cell? w _ hx174_8)).trans hx174_8; replace hx174_9 := (HB.out.cell (World.block_lt_of_cell? w _ hx174_9)).trans hx174_9; replace hx174_10 := (HB.out.cell (World.block_lt_of_cell? w _ hx174_10)).trans hx174_10; replace hx174_11 := (HB.out.cell (World.block_lt_of_cell? w _ hx174_11)).trans hx174_11; replace hx174_12 := (HB.out.cell (World.block_lt_of_cell? w _ hx174_12)).trans hx174_12; replace hx174_13 := (HB.out.cell (World.block_lt_of_cell? w _ hx174_13)).trans hx174_13; replace hx174_14 := (HB.out.cell (World.block_lt_of_cell? w _ hx174_14)).trans hx174_14; replace hx174_15 := (HB.out.cell (World.block_lt_of_cell? w _ hx174_15)).trans hx174_15; replace hx174_16 := (HB.out.cell (World.block_lt_of_cell? w _ hx174_16)).trans hx174_16; replace hx174_17 := (HB.out.cell (World.block_lt_of_cell? w _ hx174_17)).trans hx174_17; replace hx174_18 := (HB.out.cell (World.block_lt_of_cell? w _ hx174_18)).trans hx174_18; replace hx174_19 := (HB.out.cell (World.block_lt_of_cell? w _ hx174_19)).trans hx174_19; replace p174 := eq_true p174; replace q174 := eq_true q174) | ((with_reducible refine gate_builtin (b := .append) (xs := #[.tmp 39, .tmp 46]) rfl ?_); at_builtin; refine Kd.R_append (Kd.int .i64) (w0 := w) w.heap.size rfl (.tmp 39) (.tmp 46) 106 2 (.int .i64 0) 8 rfl Try.underlying106 info2 rfl (by decide) (by omega) u4 x4_2 ((rd_T68 l0_5 x6_2).f12) [.int .i64 ((rd_T68 l0_5 x6_2).f12)] (fun _ => True) (fun _ => False) rfl rfl ?aP (fun _ hk => hk.elim) ?aF ?aO ?aB ?aS ?aL ?_; (case aP => exact rfl); (case aB => exact (below_y HB.out)); (case aF => exact (fun _ _ => trivial)); (case aO => exact (Kd.R_y HO_4.out)); (case aS => exact (below_size (below_y HB.out))); (case aL => have := LMc15.out; omega); intro v176 w19 ho hb hg hat; rw [← Ny175.out] at ho; have n0_ := Aside0.mk (blk_grown (blk_y BK164.out) hg (Kd.R_ne HO_4.out BK164.out (by decide))); have n1_ := Aside0.mk (hb); have n2_ := Aside0.mk (ho); clear BK164; clear HB; clear HO_4; have BK164 := n0_; have HB := n1_; have HO177 := n2_; clear n0_ n1_ n2_; clear ho hb hg hat))
                      go_roundg k2
                      case measure => have := HK1.out; have := HK2.out; omega
                      case rel => exact ⟨(y175), (wrap64 (x6_2 + 1)), (by first | rfl | (simp; done) | (simp [*]; done)), H', ⟨by have := HK1.out; have := HK2.out; omega⟩, ⟨by (with_reducible repeat (first | apply Kd.R_alloc | apply Kd.R_drewN | apply Kd.R_drew)); exact HO177.out⟩, ⟨by (with_reducible repeat (first | refine blk_drewN ?_ _ | refine blk_drew ?_ | refine blk_alloc ?_ _)); exact BK164.out⟩, ⟨by repeat (first | (with_reducible first | exact HB.out | apply below_alloc | apply pw_below_drewN | apply below_drew1 | refine below_set ?_ GE164.out) | exact HB.out)⟩⟩
                  · rw [if_neg c15] at H
                    exact absurd H (by simp)
                · replace c14 := Bool.eq_false_iff.mpr c14
                  subst c14
                  have H1 : (newsreelref43_When.l1 k2 x4_2 (wrap64 (x6_2 + 1)) a0_0 a0_1 a0_2 a0_3 l0_4 l0_5) = some (r1, r2) := by rw [if_neg (show ¬ (false = true) by decide)] at H; exact H
                  clear H
                  have H := H1
                  clear H1
                  as_aux_lemma =>
                    have H' := Aside0.mk H
                    clear H
                    have hcz20_0 : wr.cell? ⟨gb164, 0, none⟩ = some (.int .i64 a0_0) := (blk_cell BK164.out 0).trans rfl
                    have hcz20_1 : wr.cell? ⟨gb164, 1, none⟩ = some (.int .i64 a0_1) := (blk_cell BK164.out 1).trans rfl
                    have hcz20_2 : wr.cell? ⟨gb164, 2, none⟩ = some (.int .i64 a0_2) := (blk_cell BK164.out 2).trans rfl
                    have hcz20_3 : wr.cell? ⟨gb164, 3, none⟩ = some (.int .i64 a0_3) := (blk_cell BK164.out 3).trans rfl
                    have hcz20_4 : wr.cell? ⟨gb164, 4, none⟩ = some (.slice A0_4 l0_4.length c0_4) := (blk_cell BK164.out 4).trans rfl
                    have hcz20_5 : wr.cell? ⟨gb164, 5, none⟩ = some (.slice A0_5 l0_5.length c0_5) := (blk_cell BK164.out 5).trans rfl
                    have hfz20_0 := blk_frozen BK164.out 0
                    have hfz20_1 := blk_frozen BK164.out 1
                    have hfz20_2 := blk_frozen BK164.out 2
                    have hfz20_3 := blk_frozen BK164.out 3
                    have hfz20_4 := blk_frozen BK164.out 4
                    have hfz20_5 := blk_frozen BK164.out 5
                    have p172 : 0 ≤ (x6_2 : Int) := of_decide_eq_true (by first | (with_reducible assumption) | assumption)
                    have q172 : x6_2 < (l0_5.length : Int) := of_decide_eq_true (by first | (with_reducible assumption) | assumption)
                    obtain ⟨ad172, e172, hx172_0, hx172_1, hx172_2, hx172_3, hx172_4, hx172_5, hx172_6, hx172_7, hx172_8, hx172_9, hx172_10, hx172_11, hx172_12, hx172_13, hx172_14, hx172_15, hx172_16, hx172_17, hx172_18, hx172_19⟩ := at_T68 HR0_5.out x6_2 p172 q172
                    cases e172
                    replace hx172_0 := (HB.out.cell (World.block_lt_of_cell? w _ hx172_0)).trans hx172_0
                    replace hx172_1 := (HB.out.cell (World.block_lt_of_cell? w _ hx172_1)).trans hx172_1
                    replace hx172_2 := (HB.out.cell (World.block_lt_of_cell? w _ hx172_2)).trans hx172_2
                    replace hx172_3 := (HB.out.cell (World.block_lt_of_cell? w _ hx172_3)).trans hx172_3
                    replace hx172_4 := (HB.out.cell (World.block_lt_of_cell? w _ hx172_4)).trans hx172_4
                    replace hx172_5 := (HB.out.cell (World.block_lt_of_cell? w _ hx172_5)).trans hx172_5
                    replace hx172_6 := (HB.out.cell (World.block_lt_of_cell? w _ hx172_6)).trans hx172_6
                    replace hx172_7 := (HB.out.cell (World.block_lt_of_cell? w _ hx172_7)).trans hx172_7
                    replace hx172_8 := (HB.out.cell (World.block_lt_of_cell? w _ hx172_8)).trans hx172_8
                    replace hx172_9 := (HB.out.cell (World.block_lt_of_cell? w _ hx172_9)).trans hx172_9
                    replace hx172_10 := (HB.out.cell (World.block_lt_of_cell? w _ hx172_10)).trans hx172_10
                    replace hx172_11 := (HB.out.cell (World.block_lt_of_cell? w _ hx172_11)).trans hx172_11
                    replace hx172_12 := (HB.out.cell (World.block_lt_of_cell? w _ hx172_12)).trans hx172_12
                    replace hx172_13 := (HB.out.cell (World.block_lt_of_cell? w _ hx172_13)).trans hx172_13
                    replace hx172_14 := (HB.out.cell (World.block_lt_of_cell? w _ hx172_14)).trans hx172_14
                    replace hx172_15 := (HB.out.cell (World.block_lt_of_cell? w _ hx172_15)).trans hx172_15
                    replace hx172_16 := (HB.out.cell (World.block_lt_of_cell? w _ hx172_16)).trans hx172_16
                    replace hx172_17 := (HB.out.cell (World.block_lt_of_cell? w _ hx172_17)).trans hx172_17
                    replace hx172_18 := (HB.out.cell (World.block_lt_of_cell? w _ hx172_18)).trans hx172_18
                    replace hx172_19 := (HB.out.cell (World.block_lt_of_cell? w _ hx172_19)).trans hx172_19
                    replace p172 := eq_true p172
                    replace q172 := eq_true q172
                    go_wp2_with (first | ((with_reducible refine gate_load (t := 68) rfl ?_); refine load_at2 (t := 68) ?hg ?ho (c0 := _) (cs := [_, _, _, _, _, _, _, _, _, _, _, _, _, _, _, _, _, _, _]) Try.underlying68 rfl (by kernel_rfl) hx172_0 ⟨hx172_1, hx172_2, hx172_3, hx172_4, hx172_5, hx172_6, hx172_7, hx172_8, hx172_9, hx172_10, hx172_11, hx172_12, hx172_13, hx172_14, hx172_15, hx172_16, hx172_17, hx172_18, hx172_19, trivial⟩ ?_; (case hg => rfl); (case ho => refine ⟨_, rfl, ?_⟩; first | (with_reducible rfl) | (go_simp; done))) | ((with_reducible refine gate_load (t := 56) rfl ?_); refine load_row3 (t := 56) (g := gb164) ?hg BK164.out ?ho ?hb Try.underlying56 rfl ?hs ?_; (case hg => rfl); (case ho => refine ⟨_, rfl, ?_⟩; first | (with_reducible rfl) | (go_simp; done)); (case hb => (with_reducible repeat (first | refine blk_drewN ?_ _ | refine blk_drew ?_ | refine blk_alloc ?_ _)); with_reducible exact BK164.out); (case hs => kernel_rfl)) | ((with_reducible refine gate_callee (f := 43) rfl ?_); refine goesL_ (some 38) rfl rfl Try.func43 (by kernel_rfl) rfl #[.agg #[.int .i64 ((rd_T68 l0_5 x6_2).f0), .int .i64 ((rd_T68 l0_5 x6_2).f1), .string ((rd_T68 l0_5 x6_2).f2), .string ((rd_T68 l0_5 x6_2).f3), .string ((rd_T68 l0_5 x6_2).f4), .int .i64 ((rd_T68 l0_5 x6_2).f5), .int .i64 ((rd_T68 l0_5 x6_2).f6), .int .i64 ((rd_T68 l0_5 x6_2).f7), .int .i64 ((rd_T68 l0_5 x6_2).f8), .bool ((rd_T68 l0_5 x6_2).f9), .int .i64 ((rd_T68 l0_5 x6_2).f10), .int .i64 ((rd_T68 l0_5 x6_2).f11), .int .i64 ((rd_T68 l0_5 x6_2).f12), .string ((rd_T68 l0_5 x6_2).f13), .int .i64 ((rd_T68 l0_5 x6_2).f14), .int .i64 ((rd_T68 l0_5 x6_2).f15), .string ((rd_T68 l0_5 x6_2).f16), .int .i64 ((rd_T68 l0_5 x6_2).f17), .int .i64 ((rd_T68 l0_5 x6_2).f18), .string ((rd_T68 l0_5 x6_2).f19)]] rfl (by (try simp only [List.map_toArray, List.map_cons, List.map_nil]); first | done | rfl | (simp only [List.length_drop, List.length_take]; rfl)) ?_; (with_reducible refine (newsreelref43_Waits.calls ((rd_T68 l0_5 x6_2).f0) ((rd_T68 l0_5 x6_2).f1) ((rd_T68 l0_5 x6_2).f2) ((rd_T68 l0_5 x6_2).f3) ((rd_T68 l0_5 x6_2).f4) ((rd_T68 l0_5 x6_2).f5) ((rd_T68 l0_5 x6_2).f6) ((rd_T68 l0_5 x6_2).f7) ((rd_T68 l0_5 x6_2).f8) ((rd_T68 l0_5 x6_2).f9) ((rd_T68 l0_5 x6_2).f10) ((rd_T68 l0_5 x6_2).f11) ((rd_T68 l0_5 x6_2).f12) ((rd_T68 l0_5 x6_2).f13) ((rd_T68 l0_5 x6_2).f14) ((rd_T68 l0_5 x6_2).f15) ((rd_T68 l0_5 x6_2).f16) ((rd_T68 l0_5 x6_2).f17) ((rd_T68 l0_5 x6_2).f18) ((rd_T68 l0_5 x6_2).f19) false _ A13.out).mono ?_); rintro e w21 ⟨rfl, hb⟩; refine ⟨_, rfl, ?_⟩; have n0_ := Aside0.mk (Kd.R_below (Kd.R_y HO_4.out) hb); have n1_ := Aside0.mk (blk_below (blk_y BK164.out) hb); have n2_ := Aside0.mk (below_step (below_y HB.out) hb); clear HO_4; clear BK164; clear HB; have HO_4 := n0_; have BK164 := n1_; have HB := n2_; clear n0_ n1_ n2_; (try clear hb); (try clear hb2); (try clear hk); (try clear hi)))
                    go_roundg k2
                    case measure => have := HK1.out; have := HK2.out; omega
                    case rel => exact ⟨(x4_2), (wrap64 (x6_2 + 1)), (by first | rfl | (simp; done) | (simp [*]; done)), H', ⟨by have := HK1.out; have := HK2.out; omega⟩, ⟨by (with_reducible repeat (first | apply Kd.R_alloc | apply Kd.R_drewN | apply Kd.R_drew)); exact HO_4.out⟩, ⟨by (with_reducible repeat (first | refine blk_drewN ?_ _ | refine blk_drew ?_ | refine blk_alloc ?_ _)); exact BK164.out⟩, ⟨by repeat (first | (with_reducible first | exact HB.out | apply below_alloc | apply pw_below_drewN | apply below_drew1 | refine below_set ?_ GE164.out) | exact HB.out)⟩⟩
              · rw [if_neg c12] at H
                exact absurd H (by simp)
            · rw [if_neg c11] at H
              have c11b0 : decide (x6_2 < (l0_5.length : Int)) = false := decide_eq_false c11
              clear c11
              by_cases c22 : (x4_2.length : Int) = 0
              · rw [if_pos c22] at H
                have c22b0 : ((x4_2.length : Int) == 0) = true := beq_iff_eq.mpr c22
                have c22b1 : ((x4_2.length : Int) != 0) = false := bne_eq_false_iff_eq.mpr c22
                clear c22
                as_aux_lemma =>
                  simp only [Option.some.injEq, Prod.mk.injEq] at H
                  obtain ⟨rfl, rfl⟩ := H
                  have hcz23_0 : wr.cell? ⟨gb164, 0, none⟩ = some (.int .i64 a0_0) := (blk_cell BK164.out 0).trans rfl
                  have hcz23_1 : wr.cell? ⟨gb164, 1, none⟩ = some (.int .i64 a0_1) := (blk_cell BK164.out 1).trans rfl
                  have hcz23_2 : wr.cell? ⟨gb164, 2, none⟩ = some (.int .i64 a0_2) := (blk_cell BK164.out 2).trans rfl
                  have hcz23_3 : wr.cell? ⟨gb164, 3, none⟩ = some (.int .i64 a0_3) := (blk_cell BK164.out 3).trans rfl
                  have hcz23_4 : wr.cell? ⟨gb164, 4, none⟩ = some (.slice A0_4 l0_4.length c0_4) := (blk_cell BK164.out 4).trans rfl
                  have hcz23_5 : wr.cell? ⟨gb164, 5, none⟩ = some (.slice A0_5 l0_5.length c0_5) := (blk_cell BK164.out 5).trans rfl
                  have hfz23_0 := blk_frozen BK164.out 0
                  have hfz23_1 := blk_frozen BK164.out 1
                  have hfz23_2 := blk_frozen BK164.out 2
                  have hfz23_3 := blk_frozen BK164.out 3
                  have hfz23_4 := blk_frozen BK164.out 4
                  have hfz23_5 := blk_frozen BK164.out 5
                  obtain ⟨Ao24, co24, eo24⟩ := Kd.R_slice HO_4.out
                  subst eo24
                  go_wp2_with (first | ((with_reducible refine gate_load (t := 56) rfl ?_); refine load_row3 (t := 56) (g := gb164) ?hg BK164.out ?ho ?hb Try.underlying56 rfl ?hs ?_; (case hg => rfl); (case ho => refine ⟨_, rfl, ?_⟩; first | (with_reducible rfl) | (go_simp; done)); (case hb => (with_reducible repeat (first | refine blk_drewN ?_ _ | refine blk_drew ?_ | refine blk_alloc ?_ _)); with_reducible exact BK164.out); (case hs => kernel_rfl)))
                  go_ret2
                  exact ⟨by first | rfl | (simp [errW_none, errW_some] <;> rfl) | (simp [*, errW_none, errW_some] <;> rfl), by repeat (first | (with_reducible first | exact HB.out | apply below_alloc | apply pw_below_drewN | apply below_drew1 | refine below_set ?_ GE164.out) | exact HB.out)⟩
              · rw [if_neg c22] at H
                have c22b0 : ((x4_2.length : Int) == 0) = false := beq_eq_false_iff_ne.mpr c22
                have c22b1 : ((x4_2.length : Int) != 0) = true := bne_iff_ne.mpr c22
                have c22b2 : ¬ (x4_2 = []) := fun h_ => c22 (by rw [h_]; rfl)
                by_cases c25 : 0 < (x4_2.length : Int)
                · rw [if_pos c25] at H
                  have c25b0 : decide (0 < (x4_2.length : Int)) = true := decide_eq_true c25
                  have c25b1 : decide (0 < x4_2.length) = true := decide_eq_true (by omega)
                  clear c25
                  have H' := Aside0.mk H
                  clear H
                  have hcz26_0 : wr.cell? ⟨gb164, 0, none⟩ = some (.int .i64 a0_0) := (blk_cell BK164.out 0).trans rfl
                  have hcz26_1 : wr.cell? ⟨gb164, 1, none⟩ = some (.int .i64 a0_1) := (blk_cell BK164.out 1).trans rfl
                  have hcz26_2 : wr.cell? ⟨gb164, 2, none⟩ = some (.int .i64 a0_2) := (blk_cell BK164.out 2).trans rfl
                  have hcz26_3 : wr.cell? ⟨gb164, 3, none⟩ = some (.int .i64 a0_3) := (blk_cell BK164.out 3).trans rfl
                  have hcz26_4 : wr.cell? ⟨gb164, 4, none⟩ = some (.slice A0_4 l0_4.length c0_4) := (blk_cell BK164.out 4).trans rfl
                  have hcz26_5 : wr.cell? ⟨gb164, 5, none⟩ = some (.slice A0_5 l0_5.length c0_5) := (blk_cell BK164.out 5).trans rfl
                  have hfz26_0 := blk_frozen BK164.out 0
                  have hfz26_1 := blk_frozen BK164.out 1
                  have hfz26_2 := blk_frozen BK164.out 2
                  have hfz26_3 := blk_frozen BK164.out 3
                  have hfz26_4 := blk_frozen BK164.out 4
                  have hfz26_5 := blk_frozen BK164.out 5
                  obtain ⟨Ao27, co27, eo27⟩ := Kd.R_slice HO_4.out
                  subst eo27
                  have p178 : 0 ≤ (0 : Int) := (by omega)
                  have q178 : 0 < (x4_2.length : Int) := of_decide_eq_true (by first | (with_reducible assumption) | assumption)
                  obtain ⟨ad178, e178, hx178_0⟩ := Kd.at_int (Kd.R_reads' HO_4.out).2.2 0 p178 q178
                  cases e178
                  have qi178 : (0 < x4_2.length) = True := eq_true (by omega)
                  (try rw [show ((0 : Int)).toNat = 0 from rfl] at hx178_0)
                  (try rw [Addr.add_zero'] at hx178_0)
                  replace p178 := eq_true p178
                  replace q178 := eq_true q178
                  go_wp2_with (first | ((with_reducible refine gate_load (t := 56) rfl ?_); refine load_row3 (t := 56) (g := gb164) ?hg BK164.out ?ho ?hb Try.underlying56 rfl ?hs ?_; (case hg => rfl); (case ho => refine ⟨_, rfl, ?_⟩; first | (with_reducible rfl) | (go_simp; done)); (case hb => (with_reducible repeat (first | refine blk_drewN ?_ _ | refine blk_drew ?_ | refine blk_alloc ?_ _)); with_reducible exact BK164.out); (case hs => kernel_rfl)))
                  go_loopg [7, 8] k2 (fun kq v7 v8 w' => ∃ (x7_3 : Int) (x8_3 : Int), v7 = .int .i64 x7_3 ∧ v8 = .int .i64 x8_3 ∧ Aside0 (newsreelref43_When.l2 kq x4_2 x7_3 x8_3 = some (r1, r2)) ∧ Aside0 (kq ≤ k2) ∧ Aside0 (Kd.R (Kd.int .i64) 2 w' w.heap.size (fun _ => True) (.slice (some ad178) x4_2.length co27) x4_2) ∧ Aside0 (w'.heap[gb164]? = some (.cells #[.int .i64 a0_0, .int .i64 a0_1, .int .i64 a0_2, .int .i64 a0_3, (.slice A0_4 l0_4.length c0_4), (.slice A0_5 l0_5.length c0_5)] 56 (0, 0))) ∧ Aside0 (Below w.heap.size w w'))
                  case atStart => exact ⟨(rd x4_2 0), (0), (by first | rfl | (simp; done) | (simp [*]; done)), (by first | rfl | (simp; done) | (simp [*]; done)), H', ⟨Nat.le_refl _⟩, ⟨by (with_reducible repeat (first | apply Kd.R_alloc | apply Kd.R_drewN | apply Kd.R_drew)); exact HO_4.out⟩, ⟨by (with_reducible repeat (first | refine blk_drewN ?_ _ | refine blk_drew ?_ | refine blk_alloc ?_ _)); exact BK164.out⟩, ⟨by repeat (first | (with_reducible first | exact HB.out | apply below_alloc | apply pw_below_drewN | apply below_drew1 | refine below_set ?_ GE164.out) | exact HB.out)⟩⟩
                  case round =>
                    clear H'
                    try clear c1
                    try clear p1
                    try clear q1
                    try clear hx1
                    try clear qi1
                    try clear c2
                    try clear p2
                    try clear c4
                    try clear c5
                    try clear c5b0
                    try clear c6
                    try clear c6b0
                    try clear p6
                    try clear c7
                    try clear c11
                    try clear c11b0
                    try clear c12
                    try clear c12b0
                    try clear c14
                    try clear c15
                    try clear p16
                    try clear q16
                    try clear hx16
                    try clear p17
                    try clear q17
                    try clear hx17
                    try clear qi17
                    try clear c22
                    try clear c22b0
                    try clear c22b1
                    try clear c22b2
                    try clear c25
                    try clear c25b0
                    try clear c25b1
                    try clear hcz10_0
                    try clear hcz10_1
                    try clear hcz10_2
                    try clear hcz10_3
                    try clear hcz10_4
                    try clear hcz10_5
                    try clear hcz16_0
                    try clear hcz16_1
                    try clear hcz16_2
                    try clear hcz16_3
                    try clear hcz16_4
                    try clear hcz16_5
                    try clear hcz18_0
                    try clear hcz18_1
                    try clear hcz18_2
                    try clear hcz18_3
                    try clear hcz18_4
                    try clear hcz18_5
                    try clear hcz20_0
                    try clear hcz20_1
                    try clear hcz20_2
                    try clear hcz20_3
                    try clear hcz20_4
                    try clear hcz20_5
                    try clear hcz23_0
                    try clear hcz23_1
                    try clear hcz23_2
                    try clear hcz23_3
                    try clear hcz23_4
                    try clear hcz23_5
                    try clear hcz26_0
                    try clear hcz26_1
                    try clear hcz26_2
                    try clear hcz26_3
                    try clear hcz26_4
                    try clear hcz26_5
                    try clear hcz8_0
                    try clear hcz8_1
                    try clear hcz8_2
                    try clear hcz8_3
                    try clear hcz8_4
                    try clear hcz8_5
                    try clear hfz10_0
                    try clear hfz10_1
                    try clear hfz10_2
                    try clear hfz10_3
                    try clear hfz10_4
                    try clear hfz10_5
                    try clear hfz16_0
                    try clear hfz16_1
                    try clear hfz16_2
                    try clear hfz16_3
                    try clear hfz16_4
                    try clear hfz16_5
                    try clear hfz18_0
                    try clear hfz18_1
                    try clear hfz18_2
                    try clear hfz18_3
                    try clear hfz18_4
                    try clear hfz18_5
                    try clear hfz20_0
                    try clear hfz20_1
                    try clear hfz20_2
                    try clear hfz20_3
                    try clear hfz20_4
                    try clear hfz20_5
                    try clear hfz23_0
                    try clear hfz23_1
                    try clear hfz23_2
                    try clear hfz23_3
                    try clear hfz23_4
                    try clear hfz23_5
                    try clear hfz26_0
                    try clear hfz26_1
                    try clear hfz26_2
                    try clear hfz26_3
                    try clear hfz26_4
                    try clear hfz26_5
                    try clear hfz8_0
                    try clear hfz8_1
                    try clear hfz8_2
                    try clear hfz8_3
                    try clear hfz8_4
                    try clear hfz8_5
                    try clear hx168_0
                    try clear hx168_1
                    try clear hx168_2
                    try clear hx168_3
                    try clear hx168_4
                    try clear hx172_0
                    try clear hx172_1
                    try clear hx172_10
                    try clear hx172_11
                    try clear hx172_12
                    try clear hx172_13
                    try clear hx172_14
                    try clear hx172_15
                    try clear hx172_16
                    try clear hx172_17
                    try clear hx172_18
                    try clear hx172_19
                    try clear hx172_2
                    try clear hx172_3
                    try clear hx172_4
                    try clear hx172_5
                    try clear hx172_6
                    try clear hx172_7
                    try clear hx172_8
                    try clear hx172_9
                    try clear hx174_0
                    try clear hx174_1
                    try clear hx174_10
                    try clear hx174_11
                    try clear hx174_12
                    try clear hx174_13
                    try clear hx174_14
                    try clear hx174_15
                    try clear hx174_16
                    try clear hx174_17
                    try clear hx174_18
                    try clear hx174_19
                    try clear hx174_2
                    try clear hx174_3
                    try clear hx174_4
                    try clear hx174_5
                    try clear hx174_6
                    try clear hx174_7
                    try clear hx174_8
                    try clear hx174_9
                    try clear hx178_0
                    try clear p1
                    try clear p168
                    try clear p172
                    try clear p174
                    try clear p178
                    try clear p2
                    try clear p6
                    try clear q1
                    try clear q168
                    try clear q172
                    try clear q174
                    try clear q178
                    obtain ⟨x7_3, x8_3, rfl, rfl, HA, HK3, HO_4, BK164, HB⟩ := hrel
                    cases gk with
                    | zero => exact absurd HA.out (by simp [newsreelref43_When.l2])
                    | succ k3 =>
                      have H := HA.out
                      clear HA
                      simp only [newsreelref43_When.l2] at H
                      by_cases c28 : x8_3 < (x4_2.length : Int)
                      · rw [if_pos c28] at H
                        have c28b0 : decide (x8_3 < (x4_2.length : Int)) = true := decide_eq_true c28
                        clear c28
                        by_cases c29 : 0 ≤ x8_3
                        · rw [if_pos c29] at H
                          have c29b0 : decide (0 ≤ x8_3) = true := decide_eq_true c29
                          clear c29
                          obtain ⟨ji30, hji30⟩ : ∃ j_ : Int, (mn x7_3 (rd x4_2 x8_3)) = j_ := ⟨_, rfl⟩
                          replace H : (newsreelref43_When.l2 k3 x4_2 ji30 (wrap64 (x8_3 + 1))) = some (r1, r2) := by first | (rw [hji30] at H; exact H) | (simp only [hji30] at H ⊢; exact H)
                          have hji30_ : (if (rd x4_2 x8_3) < x7_3 then (rd x4_2 x8_3) else x7_3) = ji30 := hji30
                          as_aux_lemma =>
                            have H' := Aside0.mk H
                            clear H
                            have p179 : 0 ≤ (x8_3 : Int) := of_decide_eq_true (by first | (with_reducible assumption) | assumption)
                            have q179 : x8_3 < (x4_2.length : Int) := of_decide_eq_true (by first | (with_reducible assumption) | assumption)
                            obtain ⟨ad179, e179, hx179_0⟩ := Kd.at_int (Kd.R_reads' HO_4.out).2.2 x8_3 p179 q179
                            obtain rfl : ad178 = ad179 := (by injection e179)
                            replace p179 := eq_true p179
                            replace q179 := eq_true q179
                            go_wp2_with (first | ((with_reducible refine gate_load (t := 56) rfl ?_); refine load_row3 (t := 56) (g := gb164) ?hg BK164.out ?ho ?hb Try.underlying56 rfl ?hs ?_; (case hg => rfl); (case ho => refine ⟨_, rfl, ?_⟩; first | (with_reducible rfl) | (go_simp; done)); (case hb => (with_reducible repeat (first | refine blk_drewN ?_ _ | refine blk_drew ?_ | refine blk_alloc ?_ _)); with_reducible exact BK164.out); (case hs => kernel_rfl)))
                            go_roundg k3
                            case measure => have := HK1.out; have := HK2.out; have := HK3.out; omega
                            case rel => exact ⟨(ji30), (wrap64 (x8_3 + 1)), (by first | rfl | (simp; done) | (simp only [← hji30] <;> (first | rfl | simp)) | (simp [*]; done)), (by first | rfl | (simp; done) | (simp [*]; done)), H', ⟨by have := HK1.out; have := HK2.out; have := HK3.out; omega⟩, ⟨by (with_reducible repeat (first | apply Kd.R_alloc | apply Kd.R_drewN | apply Kd.R_drew)); exact HO_4.out⟩, ⟨by (with_reducible repeat (first | refine blk_drewN ?_ _ | refine blk_drew ?_ | refine blk_alloc ?_ _)); exact BK164.out⟩, ⟨by repeat (first | (with_reducible first | exact HB.out | apply below_alloc | apply pw_below_drewN | apply below_drew1 | refine below_set ?_ GE164.out) | exact HB.out)⟩⟩
                        · rw [if_neg c29] at H
                          exact absurd H (by simp)
                      · rw [if_neg c28] at H
                        have c28b0 : decide (x8_3 < (x4_2.length : Int)) = false := decide_eq_false c28
                        clear c28
                        as_aux_lemma =>
                          simp only [Option.some.injEq, Prod.mk.injEq] at H
                          obtain ⟨rfl, rfl⟩ := H
                          go_wp2_with (first | ((with_reducible refine gate_load (t := 56) rfl ?_); refine load_row3 (t := 56) (g := gb164) ?hg BK164.out ?ho ?hb Try.underlying56 rfl ?hs ?_; (case hg => rfl); (case ho => refine ⟨_, rfl, ?_⟩; first | (with_reducible rfl) | (go_simp; done)); (case hb => (with_reducible repeat (first | refine blk_drewN ?_ _ | refine blk_drew ?_ | refine blk_alloc ?_ _)); with_reducible exact BK164.out); (case hs => kernel_rfl)))
                          go_ret2
                          exact ⟨by first | rfl | (simp [errW_none, errW_some] <;> rfl) | (simp [*, errW_none, errW_some] <;> rfl), by repeat (first | (with_reducible first | exact HB.out | apply below_alloc | apply pw_below_drewN | apply below_drew1 | refine below_set ?_ GE164.out) | exact HB.out)⟩
                · rw [if_neg c25] at H
                  exact absurd H (by simp)

end Go.Proofs.Ytkkikdjfigffhaa.XPit
