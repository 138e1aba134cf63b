-- By a program of this work (xprint.py) over the translation; Lean checks it.
import Derived.Test.YtkkikdjfigffhaaXFicx0
import Derived.Test.YtkkikdjfigffhaaXFicx7
namespace Go.Proofs.Ytkkikdjfigffhaa.XFic
open Go.RowKit Go.Proofs.YtkkikdjfigffhaaW.PrintWords Go.Proofs.YtkkikdjfigffhaaW.PrintLast Go.Proofs.YtkkikdjfigffhaaW.PrintMore
attribute [local go_sem] max2_int min2_int max_two min_two max_three min_three max_four min_four   -- for this text's walks alone
set_option linter.unusedVariables false
set_option linter.unusedSimpArgs false

/-! ### newsreelref09_Made: function 61 -/
def newsreelref09_Made.l0 : Nat → List (S78) → Int → List Int → List Int → List (S46) → Option (List Int × List Int × (List (S46)))
  | 0, _, _, _, _, _ => none
  | k + 1, x0, x4, x323000, x323001, x323002 => if x4 < (x0.length : Int) then (if 0 ≤ x4 then (if (rd_T78 x0 x4).f0 = true then ((newsreelref09_Sync.f k x323000 x323001 x323002).bind fun bt324 => (newsreelref09_Made.l0 k x0 (wrap64 (x4 + 1)) bt324.1 bt324.2.1 bt324.2.2)) else ((newsreelref09_Write.f k x323000 x323001 x323002 ((rd_T78 x0 x4).f1) ((rd_T78 x0 x4).f2)).bind fun bt335 => (if bt335.2.2.2 = 0 then (newsreelref09_Made.l0 k x0 (wrap64 (x4 + 1)) bt335.1 bt335.2.1 bt335.2.2.1) else (newsreelref09_Made.l0 k x0 (wrap64 (x4 + 1)) x323000 x323001 x323002)))) else (none)) else (some (x323000, x323001, x323002))
def newsreelref09_Made.f (k : Nat) (l0 : List (S78)) : Option (List Int × List Int × (List (S46))) := newsreelref09_Made.l0 k l0 0 ([] : List Int) ([] : List Int) ([] : List (S46))
theorem newsreelref09_Made.mono_l : ∀ k, (∀ y0 y1 y2 y3 y4, LeO (newsreelref09_Made.l0 k y0 y1 y2 y3 y4) (newsreelref09_Made.l0 (k + 1) y0 y1 y2 y3 y4))
  | 0 => fun _ _ _ _ _ r h => by simp [newsreelref09_Made.l0] at h
  | k + 1 => by
    have ih0 := newsreelref09_Made.mono_l k
    · intro y0 y1 y2 y3 y4
      unfold newsreelref09_Made.l0
      repeat' first
      | (with_reducible exact ih0 _ _ _ _ _)
      | (with_reducible exact newsreelref09_Sync.mono _ _ _ _)
      | (with_reducible exact newsreelref09_Write.mono _ _ _ _ _ _)
      | (with_reducible exact LeO.refl _)
      | (with_reducible exact LeO.none _)
      | (with_reducible refine LeO.ite ?_ ?_)
      | (with_reducible refine LeO.bind ?_ (fun _ => ?_))
      | exact ih0 _ _ _ _ _
      | exact newsreelref09_Sync.mono _ _ _ _
      | exact newsreelref09_Write.mono _ _ _ _ _ _
      | exact LeO.none _
      | refine LeO.ite ?_ ?_
      | refine LeO.bind ?_ (fun _ => ?_)
theorem newsreelref09_Made.mono : ∀ a0 k, LeO (newsreelref09_Made.f k a0) (newsreelref09_Made.f (k + 1) a0) := by
  intro a0 k
  have ih0 := newsreelref09_Made.mono_l k
  unfold newsreelref09_Made.f
  repeat' first
      | (with_reducible exact ih0 _ _ _ _ _)
      | (with_reducible exact newsreelref09_Sync.mono _ _ _ _)
      | (with_reducible exact newsreelref09_Write.mono _ _ _ _ _ _)
      | (with_reducible exact LeO.refl _)
      | (with_reducible exact LeO.none _)
      | (with_reducible refine LeO.ite ?_ ?_)
      | (with_reducible refine LeO.bind ?_ (fun _ => ?_))
      | exact ih0 _ _ _ _ _
      | exact newsreelref09_Sync.mono _ _ _ _
      | exact newsreelref09_Write.mono _ _ _ _ _ _
      | exact LeO.none _
      | refine LeO.ite ?_ ?_
      | refine LeO.bind ?_ (fun _ => ?_)
def newsreelref09_Made.T7 : Bool × List (List Nat × List Nat) := (true, [([], []), ([], []), ([], []), ([1, 2], [1, 2]), ([3], [3]), ([4], [4]), ([], []), ([], []), ([6, 7], [6, 7]), ([8], [8]), ([9], [9]), ([0, 5, 10], [0, 5, 10]), ([11], [11]), ([12], [12]), ([12], [12]), ([], []), ([15, 13, 11, 0, 1, 2, 3, 4, 5, 6, 7, 8, 9, 10, 11, 12, 13, 15], [13, 15]), ([14, 16, 0, 1, 2, 3, 4, 5, 6, 7, 8, 9, 10, 11, 12, 13, 14, 15, 16], [14])])
def newsreelref09_Made.B7 : List Nat := [0, 0, 0, 6, 14, 30, 0, 0, 192, 448, 960, 2047, 4095, 8191, 8191, 0, 49151, 131071]
theorem newsreelref09_Made.tab7 : rtab .any (opsOf Try.f61 7) = newsreelref09_Made.T7 := by kernel_rfl
theorem newsreelref09_Made.bits7 : waitsOk newsreelref09_Made.T7.2 newsreelref09_Made.B7 = true := by kernel_rfl
set_option maxHeartbeats 8000000 in
set_option maxRecDepth 100000 in
theorem newsreelref09_Made.calls (k : Nat) (A0 : Option Addr) (c0 : Nat) (l0 : List (S78)) (r1 : List Int) (r2 : List Int) (r3 : List (S46)) (w : World) (hr0 : Kd.C k78 w A0 l0.length l0) (hc0 : l0.length ≤ c0) (h : newsreelref09_Made.f k l0 = some (r1, r2, r3)) :
    Calls Try.prog 61 #[.slice A0 l0.length c0] w fun e w' => ∃ v0_ v1_ v2_ : Value, e = .returned (.agg #[v0_, v1_, v2_]) ∧ Kd.V (Kd.int .u8) 5 w' w.heap.size (fun k_ => (w.heap.size ≤ k_) ∧ some k_ ≠ (v2_ : Value).ownBlock) v0_ r1 ∧ Kd.V (Kd.int .u8) 5 w' w.heap.size (fun k_ => (w.heap.size ≤ k_) ∧ some k_ ≠ (v2_ : Value).ownBlock) v1_ r2 ∧ Kd.N k46 46 w' w.heap.size (fun k_ => (w.heap.size ≤ k_)) v2_ r3 ∧ Below w.heap.size w w' := by
  have hu76 := Try.underlying76
  have HR0 := Aside0.mk hr0
  have HC0 := Aside0.mk hc0
  clear hr0 hc0
  have HB := Aside0.mk (Below.refl w.heap.size w)
  have H : (newsreelref09_Made.l0 k l0 0 ([] : List Int) ([] : List Int) ([] : List (S46))) = some (r1, r2, r3) := h
  clear h
  have H' := Aside0.mk H
  clear H
  go_enter Try.func61, Try.ntmps61
  go_wp2_with (first | ((with_reducible refine gate_dst (N := 2) rfl ?_); refine box_event ?hg (N := 2) ?hd (cs := #[.slice none 0 0, .slice none 0 0, .slice none 0 0]) (t := 76) ?hr ?_; (case hd => rfl); (case hg => rfl); (case hr => first | (go_simp; done) | (go_simp; rfl)); intro gb321 hg w2 hbox hb; have n0_ := Aside0.mk (below_step (below_y HB.out) hb); have n1_ := Aside0.mk (hbox); have n2_ := Aside0.mk ((by rw [hg]; exact (below_size (below_y HB.out)) : w.heap.size ≤ gb321)); have n3_ := Aside0.mk ((by rw [hg]; exact (below_size (below_y HB.out)) : w.heap.size ≤ gb321)); clear HB; have HB := n0_; have BK321 := n1_; have GW321 := n2_; have GE321 := n3_; clear n0_ n1_ n2_ n3_; clear hb hbox hg) | ((with_reducible refine gate_dst (N := 3) rfl ?_); refine box_event ?hg (N := 3) ?hd (cs := #[.slice none 0 0, .slice none 0 0, .slice none 0 0]) (t := 76) ?hr ?_; (case hd => rfl); (case hg => rfl); (case hr => first | (go_simp; done) | (go_simp; rfl)); intro gb322 hg w3 hbox hb; have n0_ := Aside0.mk (blk_below (g := gb321) (o := .cells #[.slice none 0 0, .slice none 0 0, .slice none 0 0] 76 (0, 0)) (blk_y BK321.out) hb); have n1_ := Aside0.mk (below_step (below_y HB.out) hb); have n2_ := Aside0.mk (hbox); have n3_ := Aside0.mk ((by rw [hg]; exact (below_size (below_y HB.out)) : w.heap.size ≤ gb322)); have n4_ := Aside0.mk ((by rw [hg]; exact (below_size (below_y HB.out)) : w.heap.size ≤ gb322)); have n5_ := Aside0.mk ((by rw [hg]; exact Nat.ne_of_lt (blk_lt (g := gb321) (o := .cells #[.slice none 0 0, .slice none 0 0, .slice none 0 0] 76 (0, 0)) (blk_y BK321.out)) : gb321 ≠ gb322)); have n6_ := Aside0.mk ((by rw [hg]; exact Nat.ne_of_gt (blk_lt (g := gb321) (o := .cells #[.slice none 0 0, .slice none 0 0, .slice none 0 0] 76 (0, 0)) (blk_y BK321.out)) : gb322 ≠ gb321)); clear BK321; clear HB; have BK321 := n0_; have HB := n1_; have BK322 := n2_; have GW322 := n3_; have GE322 := n4_; have NB321_322 := n5_; have NB322_321 := n6_; clear n0_ n1_ n2_ n3_ n4_ n5_ n6_; clear hb hbox hg; have hnb4 := NB322_321.out; have hnc4 := NB321_322.out; have hcz5_0 : w3.cell? ⟨gb322, 0, none⟩ = some (.slice none 0 0) := (blk_cell BK322.out 0).trans rfl; have hcz5_1 : w3.cell? ⟨gb322, 1, none⟩ = some (.slice none 0 0) := (blk_cell BK322.out 1).trans rfl; have hcz5_2 : w3.cell? ⟨gb322, 2, none⟩ = some (.slice none 0 0) := (blk_cell BK322.out 2).trans rfl; have hfz5_0 := blk_frozen BK322.out 0; have hfz5_1 := blk_frozen BK322.out 1; have hfz5_2 := blk_frozen BK322.out 2))
  go_loopg [4] k (fun kq v4 w' => ∃ (x4_1 : Int) (x323000_1 : List Int) (x323001_1 : List Int) (x323002_1 : List (S46)) (u323000 : Value) (u323001 : Value) (u323002 : Value), v4 = .int .i64 x4_1 ∧ Aside0 (newsreelref09_Made.l0 kq l0 x4_1 x323000_1 x323001_1 x323002_1 = some (r1, r2, r3)) ∧ Aside0 (kq ≤ k) ∧ Aside0 (Kd.V (Kd.int .u8) 5 w' w.heap.size (fun k_ => (w.heap.size ≤ k_) ∧ some k_ ≠ (u323002 : Value).ownBlock ∧ k_ ≠ gb321 ∧ k_ ≠ gb322) u323000 x323000_1) ∧ Aside0 (Kd.V (Kd.int .u8) 5 w' w.heap.size (fun k_ => (w.heap.size ≤ k_) ∧ some k_ ≠ (u323002 : Value).ownBlock ∧ k_ ≠ gb321 ∧ k_ ≠ gb322) u323001 x323001_1) ∧ Aside0 (Kd.N k46 46 w' w.heap.size (fun k_ => (w.heap.size ≤ k_) ∧ k_ ≠ gb321 ∧ k_ ≠ gb322) u323002 x323002_1) ∧ Aside0 (w'.heap[gb321]? = some (.cells #[(.slice none 0 0), (.slice none 0 0), (.slice none 0 0)] 76 (0, 0))) ∧ Aside0 (w'.heap[gb322]? = some (.cells #[u323000, u323001, u323002] 76 (0, 0))) ∧ Aside0 (Below w.heap.size w w'))
  case atStart => exact ⟨(0), (([] : List Int)), (([] : List Int)), (([] : List (S46))), (.slice none 0 0), (.slice none 0 0), (.slice none 0 0), (by first | rfl | (simp; done) | (simp [*]; done)), H', ⟨Nat.le_refl _⟩, ⟨(by first | exact Kd.V_nil _ _ _ _ _ | exact Kd.R_V (by first | exact Kd.R_nil _ _ _ _ _ | exact Kd.N_nil _ _ _ _ _ | exact Kd.V_nil _ _ _ _ _ | exact Kd.Q_nil _ _ _ _ _ | exact Kd.S_nil _ _ _ _ _))⟩, ⟨(by first | exact Kd.V_nil _ _ _ _ _ | exact Kd.R_V (by first | exact Kd.R_nil _ _ _ _ _ | exact Kd.N_nil _ _ _ _ _ | exact Kd.V_nil _ _ _ _ _ | exact Kd.Q_nil _ _ _ _ _ | exact Kd.S_nil _ _ _ _ _))⟩, ⟨by first | exact Kd.S_nil _ _ _ _ _ | exact Kd.N_nil _ _ _ _ _ | exact Kd.V_nil _ _ _ _ _ | exact Kd.Q_nil _ _ _ _ _ | exact Kd.R_nil _ _ _ _ _⟩, ⟨by (with_reducible repeat (first | refine blk_drewN ?_ _ | refine blk_drew ?_ | refine blk_alloc ?_ _)); refine blk_far ?_ NB321_322.out _; (with_reducible repeat (first | refine blk_drewN ?_ _ | refine blk_drew ?_ | refine blk_alloc ?_ _)); refine blk_far ?_ NB321_322.out _; (with_reducible repeat (first | refine blk_drewN ?_ _ | refine blk_drew ?_ | refine blk_alloc ?_ _)); refine blk_far ?_ NB321_322.out _; (with_reducible repeat (first | refine blk_drewN ?_ _ | refine blk_drew ?_ | refine blk_alloc ?_ _)); exact BK321.out⟩, ⟨by (with_reducible repeat (first | refine blk_drewN ?_ _ | refine blk_drew ?_ | refine blk_alloc ?_ _)); refine blk_put (cs := #[.slice none 0 0, .slice none 0 0, .slice none 0 0]) ?_ 2 _ rfl; (with_reducible repeat (first | refine blk_drewN ?_ _ | refine blk_drew ?_ | refine blk_alloc ?_ _)); refine blk_put (cs := #[.slice none 0 0, .slice none 0 0, .slice none 0 0]) ?_ 1 _ rfl; (with_reducible repeat (first | refine blk_drewN ?_ _ | refine blk_drew ?_ | refine blk_alloc ?_ _)); refine blk_put (cs := #[.slice none 0 0, .slice none 0 0, .slice none 0 0]) ?_ 0 _ rfl; (with_reducible repeat (first | refine blk_drewN ?_ _ | refine blk_drew ?_ | refine blk_alloc ?_ _)); exact BK322.out⟩, ⟨by repeat (first | (with_reducible first | exact HB.out | apply below_alloc | apply pw_below_drewN | apply below_drew1 | refine below_set ?_ GE321.out | refine below_set ?_ GE322.out) | exact HB.out)⟩⟩
  case round =>
    clear H'
    try clear p2
    try clear c4
    try clear hcz5_0
    try clear hcz5_1
    try clear hcz5_2
    try clear hfz5_0
    try clear hfz5_1
    try clear hfz5_2
    obtain ⟨x4_1, x323000_1, x323001_1, x323002_1, u323000, u323001, u323002, rfl, HA, HK1, HO_323000, HO_323001, HO_323002, BK321, BK322, HB⟩ := hrel
    cases gk with
    | zero => exact absurd HA.out (by simp [newsreelref09_Made.l0])
    | succ k1 =>
      have H := HA.out
      clear HA
      simp only [newsreelref09_Made.l0] at H
      by_cases c6 : x4_1 < (l0.length : Int)
      · rw [if_pos c6] at H
        have c6b0 : decide (x4_1 < (l0.length : Int)) = true := decide_eq_true c6
        clear c6
        by_cases c7 : 0 ≤ x4_1
        · rw [if_pos c7] at H
          have c7b0 : decide (0 ≤ x4_1) = true := decide_eq_true c7
          clear c7
          obtain ⟨bq8, hbq8⟩ : ∃ b_ : Bool, b_ = ((rd_T78 l0 x4_1).f0) := ⟨_, rfl⟩
          replace H : (if bq8 = true then ((newsreelref09_Sync.f k1 x323000_1 x323001_1 x323002_1).bind fun bt324 => (newsreelref09_Made.l0 k1 l0 (wrap64 (x4_1 + 1)) bt324.1 bt324.2.1 bt324.2.2)) else ((newsreelref09_Write.f k1 x323000_1 x323001_1 x323002_1 ((rd_T78 l0 x4_1).f1) ((rd_T78 l0 x4_1).f2)).bind fun bt335 => (if bt335.2.2.2 = 0 then (newsreelref09_Made.l0 k1 l0 (wrap64 (x4_1 + 1)) bt335.1 bt335.2.1 bt335.2.2.1) else (newsreelref09_Made.l0 k1 l0 (wrap64 (x4_1 + 1)) x323000_1 x323001_1 x323002_1)))) = some (r1, r2, r3) := by rw [← hbq8] at H; exact H
          have Nbq8 := Aside0.mk hbq8
          clear hbq8
          by_cases c9 : bq8 = true
          · subst c9
            have H1 : ((newsreelref09_Sync.f k1 x323000_1 x323001_1 x323002_1).bind fun bt324 => (newsreelref09_Made.l0 k1 l0 (wrap64 (x4_1 + 1)) bt324.1 bt324.2.1 bt324.2.2)) = some (r1, r2, r3) := by rw [if_pos rfl] at H; exact H
            clear H
            have H := H1
            clear H1
            replace H := Option.bind_eq_some_iff.mp H
            obtain ⟨⟨t324, t327, t330⟩, A100, H⟩ := H
            replace H : (newsreelref09_Made.l0 k1 l0 (wrap64 (x4_1 + 1)) t324 t327 t330) = some (r1, r2, r3) := H
            have A10 := Aside0.mk A100
            clear A100
            have H' := Aside0.mk H
            clear H
            have p323 : 0 ≤ (x4_1 : Int) := of_decide_eq_true (by first | (with_reducible assumption) | assumption)
            have q323 : x4_1 < (l0.length : Int) := of_decide_eq_true (by first | (with_reducible assumption) | assumption)
            obtain ⟨ad323, A323_2, c323_2, e323, hx323_0, hx323_1, hx323_2, hl323_2, hi323_2⟩ := at_T78 HR0.out x4_1 p323 q323
            (try rw [← Nbq8.out] at hx323_0)
            cases e323
            replace hx323_0 := (HB.out.cell (World.block_lt_of_cell? w _ hx323_0)).trans hx323_0
            replace hx323_1 := (HB.out.cell (World.block_lt_of_cell? w _ hx323_1)).trans hx323_1
            replace hx323_2 := (HB.out.cell (World.block_lt_of_cell? w _ hx323_2)).trans hx323_2
            have HR323_2 := Aside0.mk hi323_2
            have HC323_2 := Aside0.mk hl323_2
            clear hi323_2 hl323_2
            replace p323 := eq_true p323
            replace q323 := eq_true q323
            have hnb11 := NB322_321.out
            have hnc11 := NB321_322.out
            have hcz12_0 : wr.cell? ⟨gb322, 0, none⟩ = some (u323000) := (blk_cell BK322.out 0).trans rfl
            have hcz12_1 : wr.cell? ⟨gb322, 1, none⟩ = some (u323001) := (blk_cell BK322.out 1).trans rfl
            have hcz12_2 : wr.cell? ⟨gb322, 2, none⟩ = some (u323002) := (blk_cell BK322.out 2).trans rfl
            have hfz12_0 := blk_frozen BK322.out 0
            have hfz12_1 := blk_frozen BK322.out 1
            have hfz12_2 := blk_frozen BK322.out 2
            obtain ⟨Ao13, co13, eo13⟩ := Kd.V_slice HO_323000.out
            subst eo13
            obtain ⟨Ao14, co14, eo14⟩ := Kd.V_slice HO_323001.out
            subst eo14
            obtain ⟨Ao15, co15, eo15⟩ := Kd.N_slice HO_323002.out
            subst eo15
            go_wp2_with (first | ((with_reducible refine gate_callee (f := 60) rfl ?_); refine goesL_ (some 20) rfl rfl Try.func60 (by kernel_rfl) rfl #[.agg #[.slice Ao13 x323000_1.length co13, .slice Ao14 x323001_1.length co14, .slice Ao15 x323002_1.length co15]] rfl (by (try simp only [List.map_toArray, List.map_cons, List.map_nil]); first | done | rfl | (simp only [List.length_drop, List.length_take]; rfl)) ?_; (with_reducible refine (newsreelref09_Sync.calls k1 (fun k_ => ((w.heap.size ≤ k_) ∧ (some k_ ≠ (.slice Ao15 x323002_1.length co15 : Value).ownBlock ∧ (k_ ≠ gb321 ∧ k_ ≠ gb322)))) _ _ x323000_1 _ _ x323001_1 _ _ x323002_1 t324 t327 t330 _ ?side1 ?side2 ?side3 ?side4 ?side5 A10.out).mono ?_); (case side1 => exact HO_323000.out); (case side2 => exact Kd.C_y (Kd.V_reads' HO_323001.out).2.2); (case side3 => exact (Kd.V_reads' HO_323001.out).2.1); (case side4 => exact Kd.C_y (Kd.N_reads' HO_323002.out).2.2); (case side5 => exact (Kd.N_reads' HO_323002.out).2.1); rintro e w16 ⟨v325, v328, v331, rfl, ho0, ho1, ho2, hb⟩; refine ⟨_, rfl, ?_⟩; have n0_ := Aside0.mk (Kd.V_elder' (Kd.V_y HO_323000.out) (Kd.S_base ho2) hb); have n1_ := Aside0.mk (Kd.V_elder' (Kd.V_y HO_323001.out) (Kd.S_base ho2) hb); have n2_ := Aside0.mk (Kd.N_elder' (Kd.N_y HO_323002.out) (Kd.S_base ho2) hb); have n3_ := Aside0.mk (Kd.V_lower (Kd.V_mono (ok' := fun k_ => (w.heap.size ≤ k_) ∧ some k_ ≠ (v331 : Value).ownBlock ∧ some k_ ≠ (.slice Ao15 x323002_1.length co15 : Value).ownBlock ∧ k_ ≠ gb321 ∧ k_ ≠ gb322) ho0 (fun k_ hk_ => ⟨Or.elim hk_.1 (fun hs_ => hs_.1) (fun hn_ => (Nat.le_trans (below_size (below_y HB.out)) hn_)), hk_.2, Or.elim hk_.1 (fun hs_ => hs_.2.1) (fun hn_ => (Kd.fresh' (Kd.N_lt (Kd.N_y HO_323002.out)) k_ hn_)), Or.elim hk_.1 (fun hs_ => hs_.2.2.1) (fun hn_ => (Kd.freshB (g := gb321) (o := .cells #[.slice none 0 0, .slice none 0 0, .slice none 0 0] 76 (0, 0)) (blk_y BK321.out) k_ hn_)), Or.elim hk_.1 (fun hs_ => hs_.2.2.2) (fun hn_ => (Kd.freshB (g := gb322) (o := .cells #[.slice Ao13 x323000_1.length co13, .slice Ao14 x323001_1.length co14, .slice Ao15 x323002_1.length co15] 76 (0, 0)) (blk_y BK322.out) k_ hn_))⟩)) (below_size (below_y HB.out))); have n4_ := Aside0.mk (Kd.V_lower (Kd.V_mono (ok' := fun k_ => (w.heap.size ≤ k_) ∧ some k_ ≠ (v331 : Value).ownBlock ∧ some k_ ≠ (.slice Ao15 x323002_1.length co15 : Value).ownBlock ∧ k_ ≠ gb321 ∧ k_ ≠ gb322) ho1 (fun k_ hk_ => ⟨Or.elim hk_.1 (fun hs_ => hs_.1) (fun hn_ => (Nat.le_trans (below_size (below_y HB.out)) hn_)), hk_.2, Or.elim hk_.1 (fun hs_ => hs_.2.1) (fun hn_ => (Kd.fresh' (Kd.N_lt (Kd.N_y HO_323002.out)) k_ hn_)), Or.elim hk_.1 (fun hs_ => hs_.2.2.1) (fun hn_ => (Kd.freshB (g := gb321) (o := .cells #[.slice none 0 0, .slice none 0 0, .slice none 0 0] 76 (0, 0)) (blk_y BK321.out) k_ hn_)), Or.elim hk_.1 (fun hs_ => hs_.2.2.2) (fun hn_ => (Kd.freshB (g := gb322) (o := .cells #[.slice Ao13 x323000_1.length co13, .slice Ao14 x323001_1.length co14, .slice Ao15 x323002_1.length co15] 76 (0, 0)) (blk_y BK322.out) k_ hn_))⟩)) (below_size (below_y HB.out))); have n5_ := Aside0.mk (Kd.N_lower (Kd.N_mono (ok' := fun k_ => (w.heap.size ≤ k_) ∧ some k_ ≠ (.slice Ao15 x323002_1.length co15 : Value).ownBlock ∧ k_ ≠ gb321 ∧ k_ ≠ gb322) (Kd.S_N ho2) (fun k_ hk_ => ⟨(fun hn_ => (Nat.le_trans (below_size (below_y HB.out)) hn_)) hk_, (fun hn_ => (Kd.fresh' (Kd.N_lt (Kd.N_y HO_323002.out)) k_ hn_)) hk_, (fun hn_ => (Kd.freshB (g := gb321) (o := .cells #[.slice none 0 0, .slice none 0 0, .slice none 0 0] 76 (0, 0)) (blk_y BK321.out) k_ hn_)) hk_, (fun hn_ => (Kd.freshB (g := gb322) (o := .cells #[.slice Ao13 x323000_1.length co13, .slice Ao14 x323001_1.length co14, .slice Ao15 x323002_1.length co15] 76 (0, 0)) (blk_y BK322.out) k_ hn_)) hk_⟩)) (below_size (below_y HB.out))); have n6_ := Aside0.mk (blk_below (g := gb321) (o := .cells #[.slice none 0 0, .slice none 0 0, .slice none 0 0] 76 (0, 0)) (blk_y BK321.out) hb); have n7_ := Aside0.mk (blk_below (g := gb322) (o := .cells #[.slice Ao13 x323000_1.length co13, .slice Ao14 x323001_1.length co14, .slice Ao15 x323002_1.length co15] 76 (0, 0)) (blk_y BK322.out) hb); have n8_ := Aside0.mk (below_step (below_y HB.out) hb); clear HO_323000; clear HO_323001; clear HO_323002; clear BK321; clear BK322; clear HB; have HO_323000 := n0_; have HO_323001 := n1_; have HO_323002 := n2_; have HO326 := n3_; have HO329 := n4_; have HO332 := n5_; have BK321 := n6_; have BK322 := n7_; have HB := n8_; clear n0_ n1_ n2_ n3_ n4_ n5_ n6_ n7_ n8_; (try clear hb); (try clear hb2); (try clear hk); (try clear hi); (try clear ho0); (try clear ho1); (try clear ho2); obtain ⟨Ao17, co17, eo17⟩ := Kd.V_slice HO326.out; subst eo17; have hcz18_0 : w16.cell? ⟨gb322, 0, none⟩ = some (.slice Ao13 x323000_1.length co13) := (blk_cell BK322.out 0).trans rfl; have hcz18_1 : w16.cell? ⟨gb322, 1, none⟩ = some (.slice Ao14 x323001_1.length co14) := (blk_cell BK322.out 1).trans rfl; have hcz18_2 : w16.cell? ⟨gb322, 2, none⟩ = some (.slice Ao15 x323002_1.length co15) := (blk_cell BK322.out 2).trans rfl; have hfz18_0 := blk_frozen BK322.out 0; have hfz18_1 := blk_frozen BK322.out 1; have hfz18_2 := blk_frozen BK322.out 2; obtain ⟨Ao19, co19, eo19⟩ := Kd.V_slice HO329.out; subst eo19; obtain ⟨Ao20, co20, eo20⟩ := Kd.N_slice HO332.out; subst eo20))
            go_roundg k1
            case measure => have := HK1.out; omega
            case rel => exact ⟨(wrap64 (x4_1 + 1)), (t324), (t327), (t330), (.slice Ao17 t324.length co17), (.slice Ao19 t327.length co19), (.slice Ao20 t330.length co20), (by first | rfl | (simp; done) | (simp [*]; done)), H', ⟨by have := HK1.out; omega⟩, ⟨by (with_reducible repeat (first | apply Kd.V_alloc | apply Kd.V_drewN | apply Kd.V_drew)); exact Kd.V_mono (Kd.V_far (p := ⟨gb322, 2, none⟩) (Kd.V_far (p := ⟨gb322, 1, none⟩) (Kd.V_far (p := ⟨gb322, 0, none⟩) (Kd.V_mono HO326.out (fun k_ hk => (⟨hk, hk.2.2.2.2⟩ : _ ∧ k_ ≠ gb322))) (fun _ hk => hk.2) (.slice Ao17 t324.length co17)) (fun _ hk => hk.2) (.slice Ao19 t327.length co19)) (fun _ hk => hk.2) (.slice Ao20 t330.length co20)) (fun _ hk => ⟨hk.1.1, ⟨hk.1.2.1, ⟨hk.1.2.2.2.1, hk.1.2.2.2.2⟩⟩⟩)⟩, ⟨by (with_reducible repeat (first | apply Kd.V_alloc | apply Kd.V_drewN | apply Kd.V_drew)); exact Kd.V_mono (Kd.V_far (p := ⟨gb322, 2, none⟩) (Kd.V_far (p := ⟨gb322, 1, none⟩) (Kd.V_far (p := ⟨gb322, 0, none⟩) (Kd.V_mono HO329.out (fun k_ hk => (⟨hk, hk.2.2.2.2⟩ : _ ∧ k_ ≠ gb322))) (fun _ hk => hk.2) (.slice Ao17 t324.length co17)) (fun _ hk => hk.2) (.slice Ao19 t327.length co19)) (fun _ hk => hk.2) (.slice Ao20 t330.length co20)) (fun _ hk => ⟨hk.1.1, ⟨hk.1.2.1, ⟨hk.1.2.2.2.1, hk.1.2.2.2.2⟩⟩⟩)⟩, ⟨by (with_reducible repeat (first | apply Kd.N_alloc | apply Kd.N_drewN | apply Kd.N_drew)); exact Kd.N_mono (Kd.N_far (p := ⟨gb322, 2, none⟩) (Kd.N_far (p := ⟨gb322, 1, none⟩) (Kd.N_far (p := ⟨gb322, 0, none⟩) (Kd.N_mono HO332.out (fun k_ hk => (⟨hk, hk.2.2.2⟩ : _ ∧ k_ ≠ gb322))) (fun _ hk => hk.2) (.slice Ao17 t324.length co17)) (fun _ hk => hk.2) (.slice Ao19 t327.length co19)) (fun _ hk => hk.2) (.slice Ao20 t330.length co20)) (fun _ hk => ⟨hk.1.1, ⟨hk.1.2.2.1, hk.1.2.2.2⟩⟩)⟩, ⟨by (with_reducible repeat (first | refine blk_drewN ?_ _ | refine blk_drew ?_ | refine blk_alloc ?_ _)); refine blk_far ?_ NB321_322.out _; (with_reducible repeat (first | refine blk_drewN ?_ _ | refine blk_drew ?_ | refine blk_alloc ?_ _)); refine blk_far ?_ NB321_322.out _; (with_reducible repeat (first | refine blk_drewN ?_ _ | refine blk_drew ?_ | refine blk_alloc ?_ _)); refine blk_far ?_ NB321_322.out _; (with_reducible repeat (first | refine blk_drewN ?_ _ | refine blk_drew ?_ | refine blk_alloc ?_ _)); exact BK321.out⟩, ⟨by (with_reducible repeat (first | refine blk_drewN ?_ _ | refine blk_drew ?_ | refine blk_alloc ?_ _)); refine blk_put (cs := #[.slice Ao17 t324.length co17, .slice Ao19 t327.length co19, .slice Ao15 x323002_1.length co15]) ?_ 2 _ rfl; (with_reducible repeat (first | refine blk_drewN ?_ _ | refine blk_drew ?_ | refine blk_alloc ?_ _)); refine blk_put (cs := #[.slice Ao17 t324.length co17, .slice Ao14 x323001_1.length co14, .slice Ao15 x323002_1.length co15]) ?_ 1 _ rfl; (with_reducible repeat (first | refine blk_drewN ?_ _ | refine blk_drew ?_ | refine blk_alloc ?_ _)); refine blk_put (cs := #[.slice Ao13 x323000_1.length co13, .slice Ao14 x323001_1.length co14, .slice Ao15 x323002_1.length co15]) ?_ 0 _ rfl; (with_reducible repeat (first | refine blk_drewN ?_ _ | refine blk_drew ?_ | refine blk_alloc ?_ _)); exact BK322.out⟩, ⟨by repeat (first | (with_reducible first | exact HB.out | apply below_alloc | apply pw_below_drewN | apply below_drew1 | refine below_set ?_ GE321.out | refine below_set ?_ GE322.out) | exact HB.out)⟩⟩
          · replace c9 := Bool.eq_false_iff.mpr c9
            subst c9
            have H1 : ((newsreelref09_Write.f k1 x323000_1 x323001_1 x323002_1 ((rd_T78 l0 x4_1).f1) ((rd_T78 l0 x4_1).f2)).bind fun bt335 => (if bt335.2.2.2 = 0 then (newsreelref09_Made.l0 k1 l0 (wrap64 (x4_1 + 1)) bt335.1 bt335.2.1 bt335.2.2.1) else (newsreelref09_Made.l0 k1 l0 (wrap64 (x4_1 + 1)) x323000_1 x323001_1 x323002_1))) = some (r1, r2, r3) := by rw [if_neg (show ¬ (false = true) by decide)] at H; exact H
            clear H
            have H := H1
            clear H1
            replace H := Option.bind_eq_some_iff.mp H
            obtain ⟨⟨t335, t338, t341, t344⟩, A210, H⟩ := H
            replace H : (if t344 = 0 then (newsreelref09_Made.l0 k1 l0 (wrap64 (x4_1 + 1)) t335 t338 t341) else (newsreelref09_Made.l0 k1 l0 (wrap64 (x4_1 + 1)) x323000_1 x323001_1 x323002_1)) = some (r1, r2, r3) := H
            have A21 := Aside0.mk A210
            clear A210
            by_cases c22 : t344 = 0
            · rw [if_pos c22] at H
              have c22b0 : (t344 == 0) = true := beq_iff_eq.mpr c22
              have c22b1 : (t344 != 0) = false := bne_eq_false_iff_eq.mpr c22
              clear c22
              have H' := Aside0.mk H
              clear H
              have p323 : 0 ≤ (x4_1 : Int) := of_decide_eq_true (by first | (with_reducible assumption) | assumption)
              have q323 : x4_1 < (l0.length : Int) := of_decide_eq_true (by first | (with_reducible assumption) | assumption)
              obtain ⟨ad323, A323_2, c323_2, e323, hx323_0, hx323_1, hx323_2, hl323_2, hi323_2⟩ := at_T78 HR0.out x4_1 p323 q323
              (try rw [← Nbq8.out] at hx323_0)
              cases e323
              replace hx323_0 := (HB.out.cell (World.block_lt_of_cell? w _ hx323_0)).trans hx323_0
              replace hx323_1 := (HB.out.cell (World.block_lt_of_cell? w _ hx323_1)).trans hx323_1
              replace hx323_2 := (HB.out.cell (World.block_lt_of_cell? w _ hx323_2)).trans hx323_2
              have HR323_2 := Aside0.mk hi323_2
              have HC323_2 := Aside0.mk hl323_2
              clear hi323_2 hl323_2
              replace p323 := eq_true p323
              replace q323 := eq_true q323
              obtain ⟨Ao23, co23, eo23⟩ := Kd.V_slice HO_323000.out
              subst eo23
              obtain ⟨Ao24, co24, eo24⟩ := Kd.V_slice HO_323001.out
              subst eo24
              obtain ⟨Ao25, co25, eo25⟩ := Kd.N_slice HO_323002.out
              subst eo25
              try go_wp2
              have n0_ := Aside0.mk (Kd.V_drew HO_323000.out)
              have n1_ := Aside0.mk (Kd.V_drew HO_323001.out)
              have n2_ := Aside0.mk (Kd.N_drew HO_323002.out)
              have n3_ := Aside0.mk (blk_drew BK321.out)
              have n4_ := Aside0.mk (blk_drew BK322.out)
              have n5_ := Aside0.mk (below_drew1 HB.out)
              clear HO_323000
              clear HO_323001
              clear HO_323002
              clear BK321
              clear BK322
              clear HB
              have HO_323000 := n0_
              have HO_323001 := n1_
              have HO_323002 := n2_
              have BK321 := n3_
              have BK322 := n4_
              have HB := n5_
              clear n0_ n1_ n2_ n3_ n4_ n5_
              have p333 : 0 ≤ (x4_1 : Int) := of_decide_eq_true (by first | (with_reducible assumption) | assumption)
              have q333 : x4_1 < (l0.length : Int) := of_decide_eq_true (by first | (with_reducible assumption) | assumption)
              obtain ⟨ad333, A333_2, c333_2, e333, hx333_0, hx333_1, hx333_2, hl333_2, hi333_2⟩ := at_T78 HR0.out x4_1 p333 q333
              have hw333_2 := hx333_2
              have hw333_1 := hx333_1
              have hw333_0 := hx333_0
              (try rw [← Nbq8.out] at hx333_0)
              (try rw [← Nbq8.out] at hw333_0)
              obtain rfl : ad323 = ad333 := (by injection e333)
              replace hx333_0 := (HB.out.cell (World.block_lt_of_cell? w _ hx333_0)).trans hx333_0
              replace hx333_1 := (HB.out.cell (World.block_lt_of_cell? w _ hx333_1)).trans hx333_1
              replace hx333_2 := (HB.out.cell (World.block_lt_of_cell? w _ hx333_2)).trans hx333_2
              have HR333_2 := Aside0.mk hi333_2
              have HC333_2 := Aside0.mk hl333_2
              clear hi333_2 hl333_2
              replace p333 := eq_true p333
              replace q333 := eq_true q333
              have p334 : 0 ≤ (x4_1 : Int) := of_decide_eq_true (by first | (with_reducible assumption) | assumption)
              have q334 : x4_1 < (l0.length : Int) := of_decide_eq_true (by first | (with_reducible assumption) | assumption)
              obtain ⟨ad334, A334_2, c334_2, e334, hx334_0, hx334_1, hx334_2, hl334_2, hi334_2⟩ := at_T78 HR0.out x4_1 p334 q334
              have hw334_2 := hx334_2
              have hw334_1 := hx334_1
              have hw334_0 := hx334_0
              (try rw [← Nbq8.out] at hx334_0)
              (try rw [← Nbq8.out] at hw334_0)
              obtain rfl : ad323 = ad334 := (by injection e334)
              replace hx334_0 := (HB.out.cell (World.block_lt_of_cell? w _ hx334_0)).trans hx334_0
              replace hx334_1 := (HB.out.cell (World.block_lt_of_cell? w _ hx334_1)).trans hx334_1
              replace hx334_2 := (HB.out.cell (World.block_lt_of_cell? w _ hx334_2)).trans hx334_2
              have HR334_2 := Aside0.mk hi334_2
              have HC334_2 := Aside0.mk hl334_2
              clear hi334_2 hl334_2
              replace p334 := eq_true p334
              replace q334 := eq_true q334
              have ea_ := Option.some.inj (hx333_2.symm.trans hx334_2)
              injection ea_ with ea_ en_ ec_
              subst ea_
              subst ec_
              clear en_
              refine start_ (n := 18) (S := fun w' => w'.cell? ⟨gb322, 0, none⟩ = some (.slice Ao23 x323000_1.length co23) ∧ w'.cell? ⟨gb322, 1, none⟩ = some (.slice Ao24 x323001_1.length co24) ∧ w'.cell? ⟨gb322, 2, none⟩ = some (.slice Ao25 x323002_1.length co25) ∧ w'.cell? (ad323.add ((x4_1).toNat * 3)) = some (.bool (false)) ∧ w'.cell? ⟨(ad323.add ((x4_1).toNat * 3)).block, (ad323.add ((x4_1).toNat * 3)).off + 1, none⟩ = some (.int .i64 ((rd_T78 l0 x4_1).f1)) ∧ w'.cell? ⟨(ad323.add ((x4_1).toNat * 3)).block, (ad323.add ((x4_1).toNat * 3)).off + 2, none⟩ = some (.slice A333_2 ((rd_T78 l0 x4_1).f2).length c333_2) ∧ w'.cell? (ad323.add ((x4_1).toNat * 3)) = some (.bool (false)) ∧ w'.cell? ⟨(ad323.add ((x4_1).toNat * 3)).block, (ad323.add ((x4_1).toNat * 3)).off + 1, none⟩ = some (.int .i64 ((rd_T78 l0 x4_1).f1)) ∧ w'.cell? ⟨(ad323.add ((x4_1).toNat * 3)).block, (ad323.add ((x4_1).toNat * 3)).off + 2, none⟩ = some (.slice A333_2 ((rd_T78 l0 x4_1).f2).length c333_2)) (ds := []) #[false, false, false, false, false, false, false, false, false, false, false, false, false, false, false, false, false, false] (by kernel_rfl) rfl rfl ⟨(blk_cell BK322.out 0).trans rfl, (blk_cell BK322.out 1).trans rfl, (blk_cell BK322.out 2).trans rfl, ((HB.out.cell (World.block_lt_of_cell? w _ hw333_0)).trans hw333_0), ((HB.out.cell (World.block_lt_of_cell? w _ hw333_1)).trans hw333_1), ((HB.out.cell (World.block_lt_of_cell? w _ hw333_2)).trans hw333_2), ((HB.out.cell (World.block_lt_of_cell? w _ hw334_0)).trans hw334_0), ((HB.out.cell (World.block_lt_of_cell? w _ hw334_1)).trans hw334_1), ((HB.out.cell (World.block_lt_of_cell? w _ hw334_2)).trans hw334_2)⟩ (fun hHeld => ?_); refine with_tabW newsreelref09_Made.tab7 newsreelref09_Made.bits7 (fun HT_ HW_ => ?_)
              generalize wr.drew = w26 at HO_323000 HO_323001 HO_323002 BK321 BK322 HB HR333_2 HR334_2 hx333_0 hx333_1 hx333_2 hx334_0 hx334_1 hx334_2 hHeld ⊢
              refine pure_ (i := 1) (N := some 23) (v := ?_) (a' := ?_) #[false, true, false, false, false, false, false, false, false, false, false, false, false, false, false, false, false, false] rfl rfl (any_of HT_.out (by kernel_rfl)) (fun _ _ _ h => h) (Or.inl ⟨by rfl, ?_⟩) ?_ ?_
              rotate_left
              · intro w'
                go_simp
                with_reducible rfl
              rotate_left
              · simp only [Act.put, List.setIfInBounds_toArray, List.set_cons_zero, List.set_cons_succ, i64_w, i32_w]
                rfl
              refine pure_ (i := 2) (N := some 24) (v := ?_) (a' := ?_) #[false, true, true, false, false, false, false, false, false, false, false, false, false, false, false, false, false, false] rfl rfl (any_of HT_.out (by kernel_rfl)) (fun _ _ _ h => h) (Or.inl ⟨by rfl, ?_⟩) ?_ ?_
              rotate_left
              · intro w'
                go_simp
                with_reducible rfl
              rotate_left
              · simp only [Act.put, List.setIfInBounds_toArray, List.set_cons_zero, List.set_cons_succ, i64_w, i32_w]
                rfl
              refine pure_ (i := 3) (N := some 25) (v := ?_) (a' := ?_) #[false, true, true, true, false, false, false, false, false, false, false, false, false, false, false, false, false, false] rfl rfl (any_of HT_.out (by kernel_rfl)) (fun _ _ _ h => h) (Or.inl ⟨by rfl, ?_⟩) ?_ ?_
              rotate_left
              · intro w'
                go_simp
                with_reducible rfl
              rotate_left
              · simp only [Act.put, List.setIfInBounds_toArray, List.set_cons_zero, List.set_cons_succ, i64_w, i32_w]
                rfl
              refine pure_ (i := 4) (N := some 26) (v := ?_) (a' := ?_) #[false, true, true, true, true, false, false, false, false, false, false, false, false, false, false, false, false, false] rfl rfl (any_of HT_.out (by kernel_rfl)) (fun _ _ _ h => h) (Or.inl ⟨by rfl, ?_⟩) ?_ ?_
              rotate_left
              · intro w'
                go_simp
                with_reducible rfl
              rotate_left
              · simp only [Act.put, List.setIfInBounds_toArray, List.set_cons_zero, List.set_cons_succ, i64_w, i32_w]
                rfl
              refine pure_ (i := 6) (N := some 28) (v := ?_) (a' := ?_) #[false, true, true, true, true, false, true, false, false, false, false, false, false, false, false, false, false, false] rfl rfl (any_of HT_.out (by kernel_rfl)) (fun _ _ _ h => h) (Or.inl ⟨by rfl, ?_⟩) ?_ ?_
              rotate_left
              · intro w'
                go_simp
                with_reducible rfl
              rotate_left
              · simp only [Act.put, List.setIfInBounds_toArray, List.set_cons_zero, List.set_cons_succ, i64_w, i32_w]
                rfl
              refine pure_ (i := 7) (N := some 29) (v := ?_) (a' := ?_) #[false, true, true, true, true, false, true, true, false, false, false, false, false, false, false, false, false, false] rfl rfl (any_of HT_.out (by kernel_rfl)) (fun _ _ _ h => h) (Or.inl ⟨by rfl, ?_⟩) ?_ ?_
              rotate_left
              · intro w'
                go_simp
                with_reducible rfl
              rotate_left
              · simp only [Act.put, List.setIfInBounds_toArray, List.set_cons_zero, List.set_cons_succ, i64_w, i32_w]
                rfl
              refine pure_ (i := 8) (N := some 30) (v := ?_) (a' := ?_) #[false, true, true, true, true, false, true, true, true, false, false, false, false, false, false, false, false, false] rfl rfl (any_of HT_.out (by kernel_rfl)) (fun _ _ _ h => h) (Or.inl ⟨by rfl, ?_⟩) ?_ ?_
              rotate_left
              · intro w'
                go_simp
                with_reducible rfl
              rotate_left
              · simp only [Act.put, List.setIfInBounds_toArray, List.set_cons_zero, List.set_cons_succ, i64_w, i32_w]
                rfl
              refine pure_ (i := 9) (N := some 31) (v := ?_) (a' := ?_) #[false, true, true, true, true, false, true, true, true, true, false, false, false, false, false, false, false, false] rfl rfl (any_of HT_.out (by kernel_rfl)) (fun _ _ _ h => h) (Or.inl ⟨by rfl, ?_⟩) ?_ ?_
              rotate_left
              · intro w'
                go_simp
                with_reducible rfl
              rotate_left
              · simp only [Act.put, List.setIfInBounds_toArray, List.set_cons_zero, List.set_cons_succ, i64_w, i32_w]
                rfl
              refine take_ (i := 0) (N := some 22) (v := ?_) (a' := ?_) #[true, true, true, true, true, false, true, true, true, true, false, false, false, false, false, false, false, false] rfl rfl (take_ofW HT_.out HW_.out (by kernel_rfl)) (fun _ _ _ h => h) (Or.inl ⟨by rfl, ?_⟩) hHeld ?_ ?_
              rotate_left
              · rintro w' ⟨s0, s1, s2, s3, s4, s5, s6, s7, s8⟩
                go_simp
                with_reducible rfl
              rotate_left
              · simp only [Act.put, List.setIfInBounds_toArray, List.set_cons_zero, List.set_cons_succ, i64_w, i32_w]
                rfl
              refine take_ (i := 5) (N := some 27) (v := ?_) (a' := ?_) #[true, true, true, true, true, true, true, true, true, true, false, false, false, false, false, false, false, false] rfl rfl (take_ofW HT_.out HW_.out (by kernel_rfl)) (fun _ _ _ h => h) (Or.inl ⟨by rfl, ?_⟩) hHeld ?_ ?_
              rotate_left
              · rintro w' ⟨s0, s1, s2, s3, s4, s5, s6, s7, s8⟩
                go_simp
                with_reducible rfl
              rotate_left
              · simp only [Act.put, List.setIfInBounds_toArray, List.set_cons_zero, List.set_cons_succ, i64_w, i32_w]
                rfl
              refine take_ (i := 10) (N := some 32) (v := ?_) (a' := ?_) #[true, true, true, true, true, true, true, true, true, true, true, false, false, false, false, false, false, false] rfl rfl (take_ofW HT_.out HW_.out (by kernel_rfl)) (fun _ _ _ h => h) (Or.inl ⟨by rfl, ?_⟩) hHeld ?_ ?_
              rotate_left
              · rintro w' ⟨s0, s1, s2, s3, s4, s5, s6, s7, s8⟩
                go_simp
                with_reducible rfl
              rotate_left
              · simp only [Act.put, List.setIfInBounds_toArray, List.set_cons_zero, List.set_cons_succ, i64_w, i32_w]
                rfl
              refine join_ (σ := Value × Value × Value × Nat) 2 #[true, true, true, true, true, true, true, true, true, true, true, true, true, true, true, true, false, false] (fun s_ => [(33, .tuple #[.agg #[s_.1, s_.2.1, s_.2.2.1], .int .i64 t344]), (5, .pointer (some ⟨s_.2.2.2, 0, none⟩)), (21, .tuple #[.agg #[s_.1, s_.2.1, s_.2.2.1], .int .i64 t344]), (34, .agg #[s_.1, s_.2.1, s_.2.2.1]), (35, .int .i64 t344)]) (fun s_ w' => (w'.cell? ⟨gb322, 0, none⟩ = some (.slice Ao23 x323000_1.length co23) ∧ w'.cell? ⟨gb322, 1, none⟩ = some (.slice Ao24 x323001_1.length co24) ∧ w'.cell? ⟨gb322, 2, none⟩ = some (.slice Ao25 x323002_1.length co25) ∧ w'.cell? (ad323.add ((x4_1).toNat * 3)) = some (.bool (false)) ∧ w'.cell? ⟨(ad323.add ((x4_1).toNat * 3)).block, (ad323.add ((x4_1).toNat * 3)).off + 1, none⟩ = some (.int .i64 ((rd_T78 l0 x4_1).f1)) ∧ w'.cell? ⟨(ad323.add ((x4_1).toNat * 3)).block, (ad323.add ((x4_1).toNat * 3)).off + 2, none⟩ = some (.slice A333_2 ((rd_T78 l0 x4_1).f2).length c333_2) ∧ w'.cell? (ad323.add ((x4_1).toNat * 3)) = some (.bool (false)) ∧ w'.cell? ⟨(ad323.add ((x4_1).toNat * 3)).block, (ad323.add ((x4_1).toNat * 3)).off + 1, none⟩ = some (.int .i64 ((rd_T78 l0 x4_1).f1)) ∧ w'.cell? ⟨(ad323.add ((x4_1).toNat * 3)).block, (ad323.add ((x4_1).toNat * 3)).off + 2, none⟩ = some (.slice A333_2 ((rd_T78 l0 x4_1).f2).length c333_2)) ∧ (Kd.R (Kd.int .u8) 5 w' w.heap.size (fun k_ => (w.heap.size ≤ k_)) s_.1 t335) ∧ (Kd.V (Kd.int .u8) 5 w' w.heap.size (fun k_ => (w.heap.size ≤ k_) ∧ some k_ ≠ (s_.1 : Value).ownBlock ∧ some k_ ≠ (s_.2.2.1 : Value).ownBlock ∧ k_ ≠ gb321 ∧ k_ ≠ gb322 ∧ k_ ≠ s_.2.2.2) s_.2.1 t338) ∧ (Kd.N k46 46 w' w.heap.size (fun k_ => (w.heap.size ≤ k_) ∧ some k_ ≠ (s_.1 : Value).ownBlock ∧ k_ ≠ gb321 ∧ k_ ≠ gb322 ∧ k_ ≠ s_.2.2.2) s_.2.2.1 t341) ∧ (Kd.V (Kd.int .u8) 5 w' w.heap.size (fun k_ => (w.heap.size ≤ k_) ∧ some k_ ≠ (s_.1 : Value).ownBlock ∧ some k_ ≠ (s_.2.2.1 : Value).ownBlock ∧ some k_ ≠ (.slice Ao25 x323002_1.length co25 : Value).ownBlock ∧ k_ ≠ gb321 ∧ k_ ≠ gb322 ∧ k_ ≠ s_.2.2.2) (.slice Ao23 x323000_1.length co23) x323000_1) ∧ (Kd.V (Kd.int .u8) 5 w' w.heap.size (fun k_ => (w.heap.size ≤ k_) ∧ some k_ ≠ (s_.1 : Value).ownBlock ∧ some k_ ≠ (s_.2.2.1 : Value).ownBlock ∧ some k_ ≠ (.slice Ao25 x323002_1.length co25 : Value).ownBlock ∧ k_ ≠ gb321 ∧ k_ ≠ gb322 ∧ k_ ≠ s_.2.2.2) (.slice Ao24 x323001_1.length co24) x323001_1) ∧ (Kd.N k46 46 w' w.heap.size (fun k_ => (w.heap.size ≤ k_) ∧ some k_ ≠ (s_.1 : Value).ownBlock ∧ some k_ ≠ (s_.2.2.1 : Value).ownBlock ∧ k_ ≠ gb321 ∧ k_ ≠ gb322 ∧ k_ ≠ s_.2.2.2) (.slice Ao25 x323002_1.length co25) x323002_1) ∧ (w'.heap[gb321]? = some (.cells #[.slice none 0 0, .slice none 0 0, .slice none 0 0] 76 (0, 0))) ∧ (w'.heap[gb322]? = some (.cells #[.slice Ao23 x323000_1.length co23, .slice Ao24 x323001_1.length co24, .slice Ao25 x323002_1.length co25] 76 (0, 0))) ∧ (w'.heap[s_.2.2.2]? = some (.cells #[.slice none 0 0, .slice none 0 0, .slice none 0 0] 76 (0, 0))) ∧ (w.heap.size ≤ s_.2.2.2) ∧ (w.heap.size ≤ s_.2.2.2) ∧ (gb321 ≠ s_.2.2.2) ∧ (s_.2.2.2 ≠ gb321) ∧ (gb322 ≠ s_.2.2.2) ∧ (s_.2.2.2 ≠ gb322) ∧ (Below w.heap.size w w')) ?_ ?_
              rotate_left
              · intro hCont
                refine two_ (i := 11) (j := 15) (Ni := some 33) (Nj := some 5) #[true, true, true, true, true, true, true, true, true, true, true, true, false, false, false, false, false, false] #[true, true, true, true, true, true, true, true, true, true, true, false, false, false, false, true, false, false] rfl rfl rfl rfl (two_of HT_.out (by kernel_rfl)) (by decide) (by decide) (fun K hK => ?_) (fun K hK => ?_)
                · skip
                  refine goes_ Try.func53 (by kernel_rfl) rfl #[.agg #[.slice Ao23 x323000_1.length co23, .slice Ao24 x323001_1.length co24, .slice Ao25 x323002_1.length co25], .int .i64 ((rd_T78 l0 x4_1).f1), .slice A333_2 ((rd_T78 l0 x4_1).f2).length c333_2] (by rfl) rfl rfl (by (try simp only [List.map_toArray, List.map_cons, List.map_nil]); first | done | rfl | (simp only [List.length_drop, List.length_take]; rfl)) ?_
                  with_reducible refine (newsreelref09_Write.calls k1 _ _ x323000_1 (fun k_ => ((w.heap.size ≤ k_) ∧ (some k_ ≠ (.slice Ao25 x323002_1.length co25 : Value).ownBlock ∧ (k_ ≠ gb321 ∧ k_ ≠ gb322)))) _ _ x323001_1 (fun k_ => ((w.heap.size ≤ k_) ∧ (k_ ≠ gb321 ∧ k_ ≠ gb322))) _ _ x323002_1 ((rd_T78 l0 x4_1).f1) _ _ ((rd_T78 l0 x4_1).f2) t335 t338 t341 t344 _ ?side1 ?side2 ?side3 ?side4 ?side5 ?side6 A21.out).mono ?_
                  (case side1 => exact Kd.C_y (Kd.V_reads' HO_323000.out).2.2)
                  (case side2 => exact (Kd.V_reads' HO_323000.out).2.1)
                  (case side3 => exact HO_323001.out)
                  (case side4 => exact Kd.N_V (HO_323002.out))
                  (case side5 => repeat (first | exact (Kd.C_below HR334_2.out HB.out) | exact HR334_2.out | (with_reducible refine Kd.C_alloc ?_ _) | (with_reducible refine Kd.C_drewN ?_ _) | (with_reducible refine Kd.C_drew ?_)))
                  (case side6 => exact HC334_2.out)
                  rintro e w27 ⟨v336, v339, v342, rfl, ho0, ho1, ho2, hb⟩
                  refine ⟨_, rfl, ?_⟩
                  have n0_ := Aside0.mk (Kd.V_mono (Kd.V_told (Kd.V_told (Kd.V_old (Kd.V_y HO_323000.out) hb) (Kd.R_base ho0)) (Kd.N_base ho2)) (fun _ h_ => h_.1))
                  have n1_ := Aside0.mk (Kd.V_mono (Kd.V_told (Kd.V_told (Kd.V_old (Kd.V_y HO_323001.out) hb) (Kd.R_base ho0)) (Kd.N_base ho2)) (fun _ h_ => h_.1))
                  have n2_ := Aside0.mk (Kd.N_mono (Kd.N_told (Kd.N_told (Kd.N_old (Kd.N_y HO_323002.out) hb) (Kd.R_base ho0)) (Kd.N_base ho2)) (fun _ h_ => h_.1))
                  have n3_ := Aside0.mk (Kd.R_lower (Kd.R_newM (M := fun k_ => (w.heap.size ≤ k_)) (Kd.R_mono (ok' := fun k_ => True) ho0 (fun _ hk_ => trivial)) (below_size (below_y HB.out)) (fun k_ h_ => h_)) (below_size (below_y HB.out)))
                  have n4_ := Aside0.mk (Kd.V_lower (Kd.V_mono (ok' := fun k_ => (w.heap.size ≤ k_) ∧ some k_ ≠ (v336 : Value).ownBlock ∧ some k_ ≠ (v342 : Value).ownBlock ∧ k_ ≠ gb321 ∧ k_ ≠ gb322) ho1 (fun k_ hk_ => ⟨Or.elim hk_.1 (fun hs_ => Or.elim hs_ (fun hs_ => hs_.1) (fun hs_ => hs_.1)) (fun hn_ => (Nat.le_trans (below_size (below_y HB.out)) hn_)), hk_.2.1, hk_.2.2, Or.elim hk_.1 (fun hs_ => Or.elim hs_ (fun hs_ => hs_.2.2.1) (fun hs_ => hs_.2.1)) (fun hn_ => (Kd.freshB (g := gb321) (o := .cells #[.slice none 0 0, .slice none 0 0, .slice none 0 0] 76 (0, 0)) (blk_y BK321.out) k_ hn_)), Or.elim hk_.1 (fun hs_ => Or.elim hs_ (fun hs_ => hs_.2.2.2) (fun hs_ => hs_.2.2)) (fun hn_ => (Kd.freshB (g := gb322) (o := .cells #[.slice Ao23 x323000_1.length co23, .slice Ao24 x323001_1.length co24, .slice Ao25 x323002_1.length co25] 76 (0, 0)) (blk_y BK322.out) k_ hn_))⟩)) (below_size (below_y HB.out)))
                  have n5_ := Aside0.mk (Kd.N_lower (Kd.N_mono (ok' := fun k_ => (w.heap.size ≤ k_) ∧ some k_ ≠ (v336 : Value).ownBlock ∧ k_ ≠ gb321 ∧ k_ ≠ gb322) ho2 (fun k_ hk_ => ⟨Or.elim hk_.1 (fun hs_ => Or.elim hs_ (fun hs_ => hs_.1) (fun hs_ => hs_.1)) (fun hn_ => (Nat.le_trans (below_size (below_y HB.out)) hn_)), hk_.2, Or.elim hk_.1 (fun hs_ => Or.elim hs_ (fun hs_ => hs_.2.2.1) (fun hs_ => hs_.2.1)) (fun hn_ => (Kd.freshB (g := gb321) (o := .cells #[.slice none 0 0, .slice none 0 0, .slice none 0 0] 76 (0, 0)) (blk_y BK321.out) k_ hn_)), Or.elim hk_.1 (fun hs_ => Or.elim hs_ (fun hs_ => hs_.2.2.2) (fun hs_ => hs_.2.2)) (fun hn_ => (Kd.freshB (g := gb322) (o := .cells #[.slice Ao23 x323000_1.length co23, .slice Ao24 x323001_1.length co24, .slice Ao25 x323002_1.length co25] 76 (0, 0)) (blk_y BK322.out) k_ hn_))⟩)) (below_size (below_y HB.out)))
                  have n6_ := Aside0.mk (blk_below (g := gb321) (o := .cells #[.slice none 0 0, .slice none 0 0, .slice none 0 0] 76 (0, 0)) (blk_y BK321.out) hb)
                  have n7_ := Aside0.mk (blk_below (g := gb322) (o := .cells #[.slice Ao23 x323000_1.length co23, .slice Ao24 x323001_1.length co24, .slice Ao25 x323002_1.length co25] 76 (0, 0)) (blk_y BK322.out) hb)
                  have n8_ := Aside0.mk (below_step (below_y HB.out) hb)
                  clear HO_323000
                  clear HO_323001
                  clear HO_323002
                  clear BK321
                  clear BK322
                  clear HB
                  have HO_323000 := n0_
                  have HO_323001 := n1_
                  have HO_323002 := n2_
                  have HO337 := n3_
                  have HO340 := n4_
                  have HO343 := n5_
                  have BK321 := n6_
                  have BK322 := n7_
                  have HB := n8_
                  clear n0_ n1_ n2_ n3_ n4_ n5_ n6_ n7_ n8_
                  (try clear hb)
                  (try clear hb2)
                  (try clear hk)
                  (try clear hi)
                  (try clear ho0)
                  (try clear ho1)
                  (try clear ho2)
                  refine hK.out _ _ ⟨(blk_cell BK322.out 0).trans rfl, (blk_cell BK322.out 1).trans rfl, (blk_cell BK322.out 2).trans rfl, ((HB.out.cell (World.block_lt_of_cell? w _ hw333_0)).trans hw333_0), ((HB.out.cell (World.block_lt_of_cell? w _ hw333_1)).trans hw333_1), ((HB.out.cell (World.block_lt_of_cell? w _ hw333_2)).trans hw333_2), ((HB.out.cell (World.block_lt_of_cell? w _ hw334_0)).trans hw334_0), ((HB.out.cell (World.block_lt_of_cell? w _ hw334_1)).trans hw334_1), ((HB.out.cell (World.block_lt_of_cell? w _ hw334_2)).trans hw334_2)⟩ (fun hHeld => ?_)
                  clear hK K
                  refine norm_ (a' := ?_) ?_ ?_
                  rotate_left
                  · show Act.put _ (some 33) _ = _
                    simp only [Act.put, List.setIfInBounds_toArray, List.set_cons_zero, List.set_cons_succ, i64_w, i32_w]
                    rfl
                  refine pure_ (i := 12) (N := some 21) (v := ?_) (a' := ?_) #[true, true, true, true, true, true, true, true, true, true, true, true, true, false, false, false, false, false] rfl rfl (any_of HT_.out (by kernel_rfl)) (fun _ _ _ h => h) (Or.inl ⟨by rfl, ?_⟩) ?_ ?_
                  rotate_left
                  · intro w'
                    go_simp
                    with_reducible rfl
                  rotate_left
                  · simp only [Act.put, List.setIfInBounds_toArray, List.set_cons_zero, List.set_cons_succ, i64_w, i32_w]
                    rfl
                  refine pure_ (i := 13) (N := some 34) (v := ?_) (a' := ?_) #[true, true, true, true, true, true, true, true, true, true, true, true, true, true, false, false, false, false] rfl rfl (any_of HT_.out (by kernel_rfl)) (fun _ _ _ h => h) (Or.inl ⟨by rfl, ?_⟩) ?_ ?_
                  rotate_left
                  · intro w'
                    go_simp
                    with_reducible rfl
                  rotate_left
                  · simp only [Act.put, List.setIfInBounds_toArray, List.set_cons_zero, List.set_cons_succ, i64_w, i32_w]
                    rfl
                  refine pure_ (i := 14) (N := some 35) (v := ?_) (a' := ?_) #[true, true, true, true, true, true, true, true, true, true, true, true, true, true, true, false, false, false] rfl rfl (any_of HT_.out (by kernel_rfl)) (fun _ _ _ h => h) (Or.inl ⟨by rfl, ?_⟩) ?_ ?_
                  rotate_left
                  · intro w'
                    go_simp
                    with_reducible rfl
                  rotate_left
                  · simp only [Act.put, List.setIfInBounds_toArray, List.set_cons_zero, List.set_cons_succ, i64_w, i32_w]
                    rfl
                  refine one_ (i := 15) (N := some 5) #[true, true, true, true, true, true, true, true, true, true, true, true, true, true, true, true, false, false] rfl rfl (one_of HT_.out (by kernel_rfl)) (by decide) (fun K hK => ?_)
                  refine box_step ?hg (N := 5) ?hd (cs := #[.slice none 0 0, .slice none 0 0, .slice none 0 0]) (t := 76) ?hr ?_; (case hd => rfl); (case hg => rfl); (case hr => first | (go_simp; done) | (go_simp; rfl))
                  intro gb345 hg w28 hbox hb
                  have n0_ := Aside0.mk (Kd.V_below (Kd.V_elderB (Kd.V_y HO_323000.out) gb345 (Nat.le_of_eq hg.symm)) hb)
                  have n1_ := Aside0.mk (Kd.V_below (Kd.V_elderB (Kd.V_y HO_323001.out) gb345 (Nat.le_of_eq hg.symm)) hb)
                  have n2_ := Aside0.mk (Kd.N_below (Kd.N_elderB (Kd.N_y HO_323002.out) gb345 (Nat.le_of_eq hg.symm)) hb)
                  have n3_ := Aside0.mk (Kd.R_below (Kd.R_y HO337.out) hb)
                  have n4_ := Aside0.mk (Kd.V_below (Kd.V_elderB (Kd.V_y HO340.out) gb345 (Nat.le_of_eq hg.symm)) hb)
                  have n5_ := Aside0.mk (Kd.N_below (Kd.N_elderB (Kd.N_y HO343.out) gb345 (Nat.le_of_eq hg.symm)) hb)
                  have n6_ := Aside0.mk (blk_below (g := gb321) (o := .cells #[.slice none 0 0, .slice none 0 0, .slice none 0 0] 76 (0, 0)) (blk_y BK321.out) hb)
                  have n7_ := Aside0.mk (blk_below (g := gb322) (o := .cells #[.slice Ao23 x323000_1.length co23, .slice Ao24 x323001_1.length co24, .slice Ao25 x323002_1.length co25] 76 (0, 0)) (blk_y BK322.out) hb)
                  have n8_ := Aside0.mk (below_step (below_y HB.out) hb)
                  have n9_ := Aside0.mk (hbox)
                  have n10_ := Aside0.mk ((by rw [hg]; exact (below_size (below_y HB.out)) : w.heap.size ≤ gb345))
                  have n11_ := Aside0.mk ((by rw [hg]; exact (below_size (below_y HB.out)) : w.heap.size ≤ gb345))
                  have n12_ := Aside0.mk ((by rw [hg]; exact Nat.ne_of_lt (blk_lt (g := gb321) (o := .cells #[.slice none 0 0, .slice none 0 0, .slice none 0 0] 76 (0, 0)) (blk_y BK321.out)) : gb321 ≠ gb345))
                  have n13_ := Aside0.mk ((by rw [hg]; exact Nat.ne_of_gt (blk_lt (g := gb321) (o := .cells #[.slice none 0 0, .slice none 0 0, .slice none 0 0] 76 (0, 0)) (blk_y BK321.out)) : gb345 ≠ gb321))
                  have n14_ := Aside0.mk ((by rw [hg]; exact Nat.ne_of_lt (blk_lt (g := gb322) (o := .cells #[.slice Ao23 x323000_1.length co23, .slice Ao24 x323001_1.length co24, .slice Ao25 x323002_1.length co25] 76 (0, 0)) (blk_y BK322.out)) : gb322 ≠ gb345))
                  have n15_ := Aside0.mk ((by rw [hg]; exact Nat.ne_of_gt (blk_lt (g := gb322) (o := .cells #[.slice Ao23 x323000_1.length co23, .slice Ao24 x323001_1.length co24, .slice Ao25 x323002_1.length co25] 76 (0, 0)) (blk_y BK322.out)) : gb345 ≠ gb322))
                  clear HO_323000
                  clear HO_323001
                  clear HO_323002
                  clear HO337
                  clear HO340
                  clear HO343
                  clear BK321
                  clear BK322
                  clear HB
                  have HO_323000 := n0_
                  have HO_323001 := n1_
                  have HO_323002 := n2_
                  have HO337 := n3_
                  have HO340 := n4_
                  have HO343 := n5_
                  have BK321 := n6_
                  have BK322 := n7_
                  have HB := n8_
                  have BK345 := n9_
                  have GW345 := n10_
                  have GE345 := n11_
                  have NB321_345 := n12_
                  have NB345_321 := n13_
                  have NB322_345 := n14_
                  have NB345_322 := n15_
                  clear n0_ n1_ n2_ n3_ n4_ n5_ n6_ n7_ n8_ n9_ n10_ n11_ n12_ n13_ n14_ n15_
                  clear hb hbox hg
                  refine hK.out _ _ ⟨(blk_cell BK322.out 0).trans rfl, (blk_cell BK322.out 1).trans rfl, (blk_cell BK322.out 2).trans rfl, ((HB.out.cell (World.block_lt_of_cell? w _ hw333_0)).trans hw333_0), ((HB.out.cell (World.block_lt_of_cell? w _ hw333_1)).trans hw333_1), ((HB.out.cell (World.block_lt_of_cell? w _ hw333_2)).trans hw333_2), ((HB.out.cell (World.block_lt_of_cell? w _ hw334_0)).trans hw334_0), ((HB.out.cell (World.block_lt_of_cell? w _ hw334_1)).trans hw334_1), ((HB.out.cell (World.block_lt_of_cell? w _ hw334_2)).trans hw334_2)⟩ (fun hHeld => ?_)
                  clear hK K
                  refine norm_ (a' := ?_) ?_ ?_
                  rotate_left
                  · show Act.put _ (some 5) _ = _
                    simp only [Act.put, List.setIfInBounds_toArray, List.set_cons_zero, List.set_cons_succ, i64_w, i32_w]
                    rfl
                  exact norm_ (by simp only [putAll, Act.put, List.setIfInBounds_toArray, List.set_cons_zero, List.set_cons_succ]) (hCont (v336, v339, v342, gb345) _ ⟨hHeld, (by (with_reducible repeat (first | apply Kd.R_alloc | apply Kd.R_drewN | apply Kd.R_drew)); exact Kd.R_mono HO337.out (fun _ hk => hk.1)), (by (with_reducible repeat (first | apply Kd.V_alloc | apply Kd.V_drewN | apply Kd.V_drew)); exact Kd.V_mono HO340.out (fun _ hk => ⟨hk.1.1, ⟨hk.1.2.1, ⟨hk.1.2.2.1, ⟨hk.1.2.2.2.1, ⟨hk.1.2.2.2.2, hk.2⟩⟩⟩⟩⟩)), (by (with_reducible repeat (first | apply Kd.N_alloc | apply Kd.N_drewN | apply Kd.N_drew)); exact Kd.N_mono HO343.out (fun _ hk => ⟨hk.1.1, ⟨hk.1.2.1, ⟨hk.1.2.2.1, ⟨hk.1.2.2.2, hk.2⟩⟩⟩⟩)), (by (with_reducible repeat (first | apply Kd.V_alloc | apply Kd.V_drewN | apply Kd.V_drew)); exact Kd.V_mono HO_323000.out (fun _ hk => ⟨hk.1.1.1.1, ⟨hk.1.1.2, ⟨hk.1.2, ⟨hk.1.1.1.2.1, ⟨hk.1.1.1.2.2.1, ⟨hk.1.1.1.2.2.2, hk.2⟩⟩⟩⟩⟩⟩)), (by (with_reducible repeat (first | apply Kd.V_alloc | apply Kd.V_drewN | apply Kd.V_drew)); exact Kd.V_mono HO_323001.out (fun _ hk => ⟨hk.1.1.1.1, ⟨hk.1.1.2, ⟨hk.1.2, ⟨hk.1.1.1.2.1, ⟨hk.1.1.1.2.2.1, ⟨hk.1.1.1.2.2.2, hk.2⟩⟩⟩⟩⟩⟩)), (by (with_reducible repeat (first | apply Kd.N_alloc | apply Kd.N_drewN | apply Kd.N_drew)); exact Kd.N_mono HO_323002.out (fun _ hk => ⟨hk.1.1.1.1, ⟨hk.1.1.2, ⟨hk.1.2, ⟨hk.1.1.1.2.1, ⟨hk.1.1.1.2.2, hk.2⟩⟩⟩⟩⟩)), (blk_y BK321.out), (blk_y BK322.out), (blk_y BK345.out), GW345.out, GE345.out, NB321_345.out, NB345_321.out, NB322_345.out, NB345_322.out, (below_y HB.out)⟩)
                · skip
                  refine box_step ?hg (N := 5) ?hd (cs := #[.slice none 0 0, .slice none 0 0, .slice none 0 0]) (t := 76) ?hr ?_; (case hd => rfl); (case hg => rfl); (case hr => first | (go_simp; done) | (go_simp; rfl))
                  intro gb345 hg w27 hbox hb
                  have n0_ := Aside0.mk (Kd.V_below (Kd.V_elderB (Kd.V_y HO_323000.out) gb345 (Nat.le_of_eq hg.symm)) hb)
                  have n1_ := Aside0.mk (Kd.V_below (Kd.V_elderB (Kd.V_y HO_323001.out) gb345 (Nat.le_of_eq hg.symm)) hb)
                  have n2_ := Aside0.mk (Kd.N_below (Kd.N_elderB (Kd.N_y HO_323002.out) gb345 (Nat.le_of_eq hg.symm)) hb)
                  have n3_ := Aside0.mk (blk_below (g := gb321) (o := .cells #[.slice none 0 0, .slice none 0 0, .slice none 0 0] 76 (0, 0)) (blk_y BK321.out) hb)
                  have n4_ := Aside0.mk (blk_below (g := gb322) (o := .cells #[.slice Ao23 x323000_1.length co23, .slice Ao24 x323001_1.length co24, .slice Ao25 x323002_1.length co25] 76 (0, 0)) (blk_y BK322.out) hb)
                  have n5_ := Aside0.mk (below_step (below_y HB.out) hb)
                  have n6_ := Aside0.mk (hbox)
                  have n7_ := Aside0.mk ((by rw [hg]; exact (below_size (below_y HB.out)) : w.heap.size ≤ gb345))
                  have n8_ := Aside0.mk ((by rw [hg]; exact (below_size (below_y HB.out)) : w.heap.size ≤ gb345))
                  have n9_ := Aside0.mk ((by rw [hg]; exact Nat.ne_of_lt (blk_lt (g := gb321) (o := .cells #[.slice none 0 0, .slice none 0 0, .slice none 0 0] 76 (0, 0)) (blk_y BK321.out)) : gb321 ≠ gb345))
                  have n10_ := Aside0.mk ((by rw [hg]; exact Nat.ne_of_gt (blk_lt (g := gb321) (o := .cells #[.slice none 0 0, .slice none 0 0, .slice none 0 0] 76 (0, 0)) (blk_y BK321.out)) : gb345 ≠ gb321))
                  have n11_ := Aside0.mk ((by rw [hg]; exact Nat.ne_of_lt (blk_lt (g := gb322) (o := .cells #[.slice Ao23 x323000_1.length co23, .slice Ao24 x323001_1.length co24, .slice Ao25 x323002_1.length co25] 76 (0, 0)) (blk_y BK322.out)) : gb322 ≠ gb345))
                  have n12_ := Aside0.mk ((by rw [hg]; exact Nat.ne_of_gt (blk_lt (g := gb322) (o := .cells #[.slice Ao23 x323000_1.length co23, .slice Ao24 x323001_1.length co24, .slice Ao25 x323002_1.length co25] 76 (0, 0)) (blk_y BK322.out)) : gb345 ≠ gb322))
                  clear HO_323000
                  clear HO_323001
                  clear HO_323002
                  clear BK321
                  clear BK322
                  clear HB
                  have HO_323000 := n0_
                  have HO_323001 := n1_
                  have HO_323002 := n2_
                  have BK321 := n3_
                  have BK322 := n4_
                  have HB := n5_
                  have BK345 := n6_
                  have GW345 := n7_
                  have GE345 := n8_
                  have NB321_345 := n9_
                  have NB345_321 := n10_
                  have NB322_345 := n11_
                  have NB345_322 := n12_
                  clear n0_ n1_ n2_ n3_ n4_ n5_ n6_ n7_ n8_ n9_ n10_ n11_ n12_
                  clear hb hbox hg
                  refine hK.out _ _ ⟨(blk_cell BK322.out 0).trans rfl, (blk_cell BK322.out 1).trans rfl, (blk_cell BK322.out 2).trans rfl, ((HB.out.cell (World.block_lt_of_cell? w _ hw333_0)).trans hw333_0), ((HB.out.cell (World.block_lt_of_cell? w _ hw333_1)).trans hw333_1), ((HB.out.cell (World.block_lt_of_cell? w _ hw333_2)).trans hw333_2), ((HB.out.cell (World.block_lt_of_cell? w _ hw334_0)).trans hw334_0), ((HB.out.cell (World.block_lt_of_cell? w _ hw334_1)).trans hw334_1), ((HB.out.cell (World.block_lt_of_cell? w _ hw334_2)).trans hw334_2)⟩ (fun hHeld => ?_)
                  clear hK K
                  refine norm_ (a' := ?_) ?_ ?_
                  rotate_left
                  · show Act.put _ (some 5) _ = _
                    simp only [Act.put, List.setIfInBounds_toArray, List.set_cons_zero, List.set_cons_succ, i64_w, i32_w]
                    rfl
                  refine one_ (i := 11) (N := some 33) #[true, true, true, true, true, true, true, true, true, true, true, true, false, false, false, true, false, false] rfl rfl (one_of HT_.out (by kernel_rfl)) (by decide) (fun K hK => ?_)
                  refine goes_ Try.func53 (by kernel_rfl) rfl #[.agg #[.slice Ao23 x323000_1.length co23, .slice Ao24 x323001_1.length co24, .slice Ao25 x323002_1.length co25], .int .i64 ((rd_T78 l0 x4_1).f1), .slice A333_2 ((rd_T78 l0 x4_1).f2).length c333_2] (by rfl) rfl rfl (by (try simp only [List.map_toArray, List.map_cons, List.map_nil]); first | done | rfl | (simp only [List.length_drop, List.length_take]; rfl)) ?_
                  with_reducible refine (newsreelref09_Write.calls k1 _ _ x323000_1 (fun k_ => (((w.heap.size ≤ k_) ∧ (some k_ ≠ (.slice Ao25 x323002_1.length co25 : Value).ownBlock ∧ (k_ ≠ gb321 ∧ k_ ≠ gb322))) ∧ k_ ≠ gb345)) _ _ x323001_1 (fun k_ => (((w.heap.size ≤ k_) ∧ (k_ ≠ gb321 ∧ k_ ≠ gb322)) ∧ k_ ≠ gb345)) _ _ x323002_1 ((rd_T78 l0 x4_1).f1) _ _ ((rd_T78 l0 x4_1).f2) t335 t338 t341 t344 _ ?side1 ?side2 ?side3 ?side4 ?side5 ?side6 A21.out).mono ?_
                  (case side1 => exact Kd.C_y (Kd.V_reads' HO_323000.out).2.2)
                  (case side2 => exact (Kd.V_reads' HO_323000.out).2.1)
                  (case side3 => exact HO_323001.out)
                  (case side4 => exact Kd.N_V (HO_323002.out))
                  (case side5 => repeat (first | exact (Kd.C_below HR334_2.out HB.out) | exact HR334_2.out | (with_reducible refine Kd.C_alloc ?_ _) | (with_reducible refine Kd.C_drewN ?_ _) | (with_reducible refine Kd.C_drew ?_)))
                  (case side6 => exact HC334_2.out)
                  rintro e w28 ⟨v336, v339, v342, rfl, ho0, ho1, ho2, hb⟩
                  refine ⟨_, rfl, ?_⟩
                  have n0_ := Aside0.mk (Kd.V_mono (Kd.V_told (Kd.V_told (Kd.V_old (Kd.V_y HO_323000.out) hb) (Kd.R_base ho0)) (Kd.N_base ho2)) (fun _ h_ => h_.1))
                  have n1_ := Aside0.mk (Kd.V_mono (Kd.V_told (Kd.V_told (Kd.V_old (Kd.V_y HO_323001.out) hb) (Kd.R_base ho0)) (Kd.N_base ho2)) (fun _ h_ => h_.1))
                  have n2_ := Aside0.mk (Kd.N_mono (Kd.N_told (Kd.N_told (Kd.N_old (Kd.N_y HO_323002.out) hb) (Kd.R_base ho0)) (Kd.N_base ho2)) (fun _ h_ => h_.1))
                  have n3_ := Aside0.mk (Kd.R_lower (Kd.R_newM (M := fun k_ => (w.heap.size ≤ k_)) (Kd.R_mono (ok' := fun k_ => True) ho0 (fun _ hk_ => trivial)) (below_size (below_y HB.out)) (fun k_ h_ => h_)) (below_size (below_y HB.out)))
                  have n4_ := Aside0.mk (Kd.V_lower (Kd.V_mono (ok' := fun k_ => (w.heap.size ≤ k_) ∧ some k_ ≠ (v336 : Value).ownBlock ∧ some k_ ≠ (v342 : Value).ownBlock ∧ k_ ≠ gb321 ∧ k_ ≠ gb322 ∧ k_ ≠ gb345) ho1 (fun k_ hk_ => ⟨Or.elim hk_.1 (fun hs_ => Or.elim hs_ (fun hs_ => hs_.1.1) (fun hs_ => hs_.1.1)) (fun hn_ => (Nat.le_trans (below_size (below_y HB.out)) hn_)), hk_.2.1, hk_.2.2, Or.elim hk_.1 (fun hs_ => Or.elim hs_ (fun hs_ => hs_.1.2.2.1) (fun hs_ => hs_.1.2.1)) (fun hn_ => (Kd.freshB (g := gb321) (o := .cells #[.slice none 0 0, .slice none 0 0, .slice none 0 0] 76 (0, 0)) (blk_y BK321.out) k_ hn_)), Or.elim hk_.1 (fun hs_ => Or.elim hs_ (fun hs_ => hs_.1.2.2.2) (fun hs_ => hs_.1.2.2)) (fun hn_ => (Kd.freshB (g := gb322) (o := .cells #[.slice Ao23 x323000_1.length co23, .slice Ao24 x323001_1.length co24, .slice Ao25 x323002_1.length co25] 76 (0, 0)) (blk_y BK322.out) k_ hn_)), Or.elim hk_.1 (fun hs_ => Or.elim hs_ (fun hs_ => hs_.2) (fun hs_ => hs_.2)) (fun hn_ => (Kd.freshB (g := gb345) (o := .cells #[.slice none 0 0, .slice none 0 0, .slice none 0 0] 76 (0, 0)) (blk_y BK345.out) k_ hn_))⟩)) (below_size (below_y HB.out)))
                  have n5_ := Aside0.mk (Kd.N_lower (Kd.N_mono (ok' := fun k_ => (w.heap.size ≤ k_) ∧ some k_ ≠ (v336 : Value).ownBlock ∧ k_ ≠ gb321 ∧ k_ ≠ gb322 ∧ k_ ≠ gb345) ho2 (fun k_ hk_ => ⟨Or.elim hk_.1 (fun hs_ => Or.elim hs_ (fun hs_ => hs_.1.1) (fun hs_ => hs_.1.1)) (fun hn_ => (Nat.le_trans (below_size (below_y HB.out)) hn_)), hk_.2, Or.elim hk_.1 (fun hs_ => Or.elim hs_ (fun hs_ => hs_.1.2.2.1) (fun hs_ => hs_.1.2.1)) (fun hn_ => (Kd.freshB (g := gb321) (o := .cells #[.slice none 0 0, .slice none 0 0, .slice none 0 0] 76 (0, 0)) (blk_y BK321.out) k_ hn_)), Or.elim hk_.1 (fun hs_ => Or.elim hs_ (fun hs_ => hs_.1.2.2.2) (fun hs_ => hs_.1.2.2)) (fun hn_ => (Kd.freshB (g := gb322) (o := .cells #[.slice Ao23 x323000_1.length co23, .slice Ao24 x323001_1.length co24, .slice Ao25 x323002_1.length co25] 76 (0, 0)) (blk_y BK322.out) k_ hn_)), Or.elim hk_.1 (fun hs_ => Or.elim hs_ (fun hs_ => hs_.2) (fun hs_ => hs_.2)) (fun hn_ => (Kd.freshB (g := gb345) (o := .cells #[.slice none 0 0, .slice none 0 0, .slice none 0 0] 76 (0, 0)) (blk_y BK345.out) k_ hn_))⟩)) (below_size (below_y HB.out)))
                  have n6_ := Aside0.mk (blk_below (g := gb321) (o := .cells #[.slice none 0 0, .slice none 0 0, .slice none 0 0] 76 (0, 0)) (blk_y BK321.out) hb)
                  have n7_ := Aside0.mk (blk_below (g := gb322) (o := .cells #[.slice Ao23 x323000_1.length co23, .slice Ao24 x323001_1.length co24, .slice Ao25 x323002_1.length co25] 76 (0, 0)) (blk_y BK322.out) hb)
                  have n8_ := Aside0.mk (blk_below (g := gb345) (o := .cells #[.slice none 0 0, .slice none 0 0, .slice none 0 0] 76 (0, 0)) (blk_y BK345.out) hb)
                  have n9_ := Aside0.mk (below_step (below_y HB.out) hb)
                  clear HO_323000
                  clear HO_323001
                  clear HO_323002
                  clear BK321
                  clear BK322
                  clear BK345
                  clear HB
                  have HO_323000 := n0_
                  have HO_323001 := n1_
                  have HO_323002 := n2_
                  have HO337 := n3_
                  have HO340 := n4_
                  have HO343 := n5_
                  have BK321 := n6_
                  have BK322 := n7_
                  have BK345 := n8_
                  have HB := n9_
                  clear n0_ n1_ n2_ n3_ n4_ n5_ n6_ n7_ n8_ n9_
                  (try clear hb)
                  (try clear hb2)
                  (try clear hk)
                  (try clear hi)
                  (try clear ho0)
                  (try clear ho1)
                  (try clear ho2)
                  refine hK.out _ _ ⟨(blk_cell BK322.out 0).trans rfl, (blk_cell BK322.out 1).trans rfl, (blk_cell BK322.out 2).trans rfl, ((HB.out.cell (World.block_lt_of_cell? w _ hw333_0)).trans hw333_0), ((HB.out.cell (World.block_lt_of_cell? w _ hw333_1)).trans hw333_1), ((HB.out.cell (World.block_lt_of_cell? w _ hw333_2)).trans hw333_2), ((HB.out.cell (World.block_lt_of_cell? w _ hw334_0)).trans hw334_0), ((HB.out.cell (World.block_lt_of_cell? w _ hw334_1)).trans hw334_1), ((HB.out.cell (World.block_lt_of_cell? w _ hw334_2)).trans hw334_2)⟩ (fun hHeld => ?_)
                  clear hK K
                  refine norm_ (a' := ?_) ?_ ?_
                  rotate_left
                  · show Act.put _ (some 33) _ = _
                    simp only [Act.put, List.setIfInBounds_toArray, List.set_cons_zero, List.set_cons_succ, i64_w, i32_w]
                    rfl
                  refine pure_ (i := 12) (N := some 21) (v := ?_) (a' := ?_) #[true, true, true, true, true, true, true, true, true, true, true, true, true, false, false, true, false, false] rfl rfl (any_of HT_.out (by kernel_rfl)) (fun _ _ _ h => h) (Or.inl ⟨by rfl, ?_⟩) ?_ ?_
                  rotate_left
                  · intro w'
                    go_simp
                    with_reducible rfl
                  rotate_left
                  · simp only [Act.put, List.setIfInBounds_toArray, List.set_cons_zero, List.set_cons_succ, i64_w, i32_w]
                    rfl
                  refine pure_ (i := 13) (N := some 34) (v := ?_) (a' := ?_) #[true, true, true, true, true, true, true, true, true, true, true, true, true, true, false, true, false, false] rfl rfl (any_of HT_.out (by kernel_rfl)) (fun _ _ _ h => h) (Or.inl ⟨by rfl, ?_⟩) ?_ ?_
                  rotate_left
                  · intro w'
                    go_simp
                    with_reducible rfl
                  rotate_left
                  · simp only [Act.put, List.setIfInBounds_toArray, List.set_cons_zero, List.set_cons_succ, i64_w, i32_w]
                    rfl
                  refine pure_ (i := 14) (N := some 35) (v := ?_) (a' := ?_) #[true, true, true, true, true, true, true, true, true, true, true, true, true, true, true, true, false, false] rfl rfl (any_of HT_.out (by kernel_rfl)) (fun _ _ _ h => h) (Or.inl ⟨by rfl, ?_⟩) ?_ ?_
                  rotate_left
                  · intro w'
                    go_simp
                    with_reducible rfl
                  rotate_left
                  · simp only [Act.put, List.setIfInBounds_toArray, List.set_cons_zero, List.set_cons_succ, i64_w, i32_w]
                    rfl
                  exact norm_ (by simp only [putAll, Act.put, List.setIfInBounds_toArray, List.set_cons_zero, List.set_cons_succ]) (hCont (v336, v339, v342, gb345) _ ⟨hHeld, (by (with_reducible repeat (first | apply Kd.R_alloc | apply Kd.R_drewN | apply Kd.R_drew)); exact Kd.R_mono HO337.out (fun _ hk => hk.1)), (Kd.V_y HO340.out), (Kd.N_y HO343.out), (by (with_reducible repeat (first | apply Kd.V_alloc | apply Kd.V_drewN | apply Kd.V_drew)); exact Kd.V_mono HO_323000.out (fun _ hk => ⟨hk.1.1.1.1, ⟨hk.1.2, ⟨hk.2, ⟨hk.1.1.1.2.1, ⟨hk.1.1.1.2.2.1, ⟨hk.1.1.1.2.2.2, hk.1.1.2⟩⟩⟩⟩⟩⟩)), (by (with_reducible repeat (first | apply Kd.V_alloc | apply Kd.V_drewN | apply Kd.V_drew)); exact Kd.V_mono HO_323001.out (fun _ hk => ⟨hk.1.1.1.1, ⟨hk.1.2, ⟨hk.2, ⟨hk.1.1.1.2.1, ⟨hk.1.1.1.2.2.1, ⟨hk.1.1.1.2.2.2, hk.1.1.2⟩⟩⟩⟩⟩⟩)), (by (with_reducible repeat (first | apply Kd.N_alloc | apply Kd.N_drewN | apply Kd.N_drew)); exact Kd.N_mono HO_323002.out (fun _ hk => ⟨hk.1.1.1.1, ⟨hk.1.2, ⟨hk.2, ⟨hk.1.1.1.2.1, ⟨hk.1.1.1.2.2, hk.1.1.2⟩⟩⟩⟩⟩)), (blk_y BK321.out), (blk_y BK322.out), (blk_y BK345.out), GW345.out, GE345.out, NB321_345.out, NB345_321.out, NB322_345.out, NB345_322.out, (below_y HB.out)⟩)
              rintro ⟨v336, v339, v342, gb345⟩ w29 ⟨hS_, h0_, h1_, h2_, h3_, h4_, h5_, h6_, h7_, h8_, h9_, h10_, h11_, h12_, h13_, h14_, h15_⟩
              have n0_ : Aside0 (Kd.R (Kd.int .u8) 5 w29 w.heap.size (fun k_ => (w.heap.size ≤ k_)) v336 t335) := ⟨h0_⟩
              have n1_ : Aside0 (Kd.V (Kd.int .u8) 5 w29 w.heap.size (fun k_ => (w.heap.size ≤ k_) ∧ some k_ ≠ (v336 : Value).ownBlock ∧ some k_ ≠ (v342 : Value).ownBlock ∧ k_ ≠ gb321 ∧ k_ ≠ gb322 ∧ k_ ≠ gb345) v339 t338) := ⟨h1_⟩
              have n2_ : Aside0 (Kd.N k46 46 w29 w.heap.size (fun k_ => (w.heap.size ≤ k_) ∧ some k_ ≠ (v336 : Value).ownBlock ∧ k_ ≠ gb321 ∧ k_ ≠ gb322 ∧ k_ ≠ gb345) v342 t341) := ⟨h2_⟩
              have n3_ : Aside0 (Kd.V (Kd.int .u8) 5 w29 w.heap.size (fun k_ => (w.heap.size ≤ k_) ∧ some k_ ≠ (v336 : Value).ownBlock ∧ some k_ ≠ (v342 : Value).ownBlock ∧ some k_ ≠ (.slice Ao25 x323002_1.length co25 : Value).ownBlock ∧ k_ ≠ gb321 ∧ k_ ≠ gb322 ∧ k_ ≠ gb345) (.slice Ao23 x323000_1.length co23) x323000_1) := ⟨h3_⟩
              have n4_ : Aside0 (Kd.V (Kd.int .u8) 5 w29 w.heap.size (fun k_ => (w.heap.size ≤ k_) ∧ some k_ ≠ (v336 : Value).ownBlock ∧ some k_ ≠ (v342 : Value).ownBlock ∧ some k_ ≠ (.slice Ao25 x323002_1.length co25 : Value).ownBlock ∧ k_ ≠ gb321 ∧ k_ ≠ gb322 ∧ k_ ≠ gb345) (.slice Ao24 x323001_1.length co24) x323001_1) := ⟨h4_⟩
              have n5_ : Aside0 (Kd.N k46 46 w29 w.heap.size (fun k_ => (w.heap.size ≤ k_) ∧ some k_ ≠ (v336 : Value).ownBlock ∧ some k_ ≠ (v342 : Value).ownBlock ∧ k_ ≠ gb321 ∧ k_ ≠ gb322 ∧ k_ ≠ gb345) (.slice Ao25 x323002_1.length co25) x323002_1) := ⟨h5_⟩
              have n6_ : Aside0 (w29.heap[gb321]? = some (.cells #[.slice none 0 0, .slice none 0 0, .slice none 0 0] 76 (0, 0))) := ⟨h6_⟩
              have n7_ : Aside0 (w29.heap[gb322]? = some (.cells #[.slice Ao23 x323000_1.length co23, .slice Ao24 x323001_1.length co24, .slice Ao25 x323002_1.length co25] 76 (0, 0))) := ⟨h7_⟩
              have n8_ : Aside0 (w29.heap[gb345]? = some (.cells #[.slice none 0 0, .slice none 0 0, .slice none 0 0] 76 (0, 0))) := ⟨h8_⟩
              have n9_ : Aside0 (w.heap.size ≤ gb345) := ⟨h9_⟩
              have n10_ : Aside0 (w.heap.size ≤ gb345) := ⟨h10_⟩
              have n11_ : Aside0 (gb321 ≠ gb345) := ⟨h11_⟩
              have n12_ : Aside0 (gb345 ≠ gb321) := ⟨h12_⟩
              have n13_ : Aside0 (gb322 ≠ gb345) := ⟨h13_⟩
              have n14_ : Aside0 (gb345 ≠ gb322) := ⟨h14_⟩
              have n15_ : Aside0 (Below w.heap.size w w29) := ⟨h15_⟩
              clear HO_323000
              clear HO_323001
              clear HO_323002
              clear BK321
              clear BK322
              clear HB
              clear h0_ h1_ h2_ h3_ h4_ h5_ h6_ h7_ h8_ h9_ h10_ h11_ h12_ h13_ h14_ h15_
              have HO337 := n0_
              have HO340 := n1_
              have HO343 := n2_
              have HO_323000 := n3_
              have HO_323001 := n4_
              have HO_323002 := n5_
              have BK321 := n6_
              have BK322 := n7_
              have BK345 := n8_
              have GW345 := n9_
              have GE345 := n10_
              have NB321_345 := n11_
              have NB345_321 := n12_
              have NB322_345 := n13_
              have NB345_322 := n14_
              have HB := n15_
              clear n0_ n1_ n2_ n3_ n4_ n5_ n6_ n7_ n8_ n9_ n10_ n11_ n12_ n13_ n14_ n15_
              have hHeld : w29.cell? ⟨gb322, 0, none⟩ = some (.slice Ao23 x323000_1.length co23) ∧ w29.cell? ⟨gb322, 1, none⟩ = some (.slice Ao24 x323001_1.length co24) ∧ w29.cell? ⟨gb322, 2, none⟩ = some (.slice Ao25 x323002_1.length co25) ∧ w29.cell? (ad323.add ((x4_1).toNat * 3)) = some (.bool (false)) ∧ w29.cell? ⟨(ad323.add ((x4_1).toNat * 3)).block, (ad323.add ((x4_1).toNat * 3)).off + 1, none⟩ = some (.int .i64 ((rd_T78 l0 x4_1).f1)) ∧ w29.cell? ⟨(ad323.add ((x4_1).toNat * 3)).block, (ad323.add ((x4_1).toNat * 3)).off + 2, none⟩ = some (.slice A333_2 ((rd_T78 l0 x4_1).f2).length c333_2) ∧ w29.cell? (ad323.add ((x4_1).toNat * 3)) = some (.bool (false)) ∧ w29.cell? ⟨(ad323.add ((x4_1).toNat * 3)).block, (ad323.add ((x4_1).toNat * 3)).off + 1, none⟩ = some (.int .i64 ((rd_T78 l0 x4_1).f1)) ∧ w29.cell? ⟨(ad323.add ((x4_1).toNat * 3)).block, (ad323.add ((x4_1).toNat * 3)).off + 2, none⟩ = some (.slice A333_2 ((rd_T78 l0 x4_1).f2).length c333_2) := hS_
              obtain ⟨Ao30, co30, eo30⟩ := Kd.R_slice HO337.out
              (first | subst eo30 | (injection eo30 with f1_ f2_ f3_; have f4_ := f1_.symm; have f5_ := f3_.symm; clear f1_ f2_ f3_; subst f4_; subst f5_))
              obtain ⟨Ao32, co32, eo32⟩ := Kd.V_slice HO340.out
              (first | subst eo32 | (injection eo32 with f1_ f2_ f3_; have f4_ := f1_.symm; have f5_ := f3_.symm; clear f1_ f2_ f3_; subst f4_; subst f5_))
              obtain ⟨Ao34, co34, eo34⟩ := Kd.N_slice HO343.out
              (first | subst eo34 | (injection eo34 with f1_ f2_ f3_; have f4_ := f1_.symm; have f5_ := f3_.symm; clear f1_ f2_ f3_; subst f4_; subst f5_))
              refine norm_ (a' := ?_) ?_ ?_
              rotate_left
              · simp only [putAll, Act.put, List.setIfInBounds_toArray, List.set_cons_zero, List.set_cons_succ]
                rfl
              refine one_ (i := 16) (N := none) #[true, true, true, true, true, true, true, true, true, true, true, true, true, true, true, true, true, false] rfl rfl (one_of HT_.out (by kernel_rfl)) (by decide) (fun K hK => ?_)
              have hs31 : w29.cell? ⟨gb345, 0, none⟩ = some (.slice none 0 0) := (blk_cell BK345.out 0).trans rfl
              have hfs31 := blk_frozen BK345.out 0
              have hns31_0 := NB321_345.out
              have hns31_1 := NB322_345.out
              have hms31_0 := NB345_321.out
              have hms31_1 := NB345_322.out
              have hs33 : w29.cell? ⟨gb345, 1, none⟩ = some (.slice none 0 0) := (blk_cell BK345.out 1).trans rfl
              have hfs33 := blk_frozen BK345.out 1
              have hns33_0 := NB321_345.out
              have hns33_1 := NB322_345.out
              have hms33_0 := NB345_321.out
              have hms33_1 := NB345_322.out
              have hs35 : w29.cell? ⟨gb345, 2, none⟩ = some (.slice none 0 0) := (blk_cell BK345.out 2).trans rfl
              have hfs35 := blk_frozen BK345.out 2
              have hns35_0 := NB321_345.out
              have hns35_1 := NB322_345.out
              have hms35_0 := NB345_321.out
              have hms35_1 := NB345_322.out
              refine skip_ (w1 := ?_) (by rfl) rfl ?_ ?_
              rotate_left
              · go_simp
                rfl
              refine hK.out _ _ ⟨((cell_far (p := ⟨gb345, _, none⟩) NB322_345.out _).trans (((cell_far (p := ⟨gb345, _, none⟩) NB322_345.out _).trans (((cell_far (p := ⟨gb345, _, none⟩) NB322_345.out _).trans (hHeld.1)))))), ((cell_far (p := ⟨gb345, _, none⟩) NB322_345.out _).trans (((cell_far (p := ⟨gb345, _, none⟩) NB322_345.out _).trans (((cell_far (p := ⟨gb345, _, none⟩) NB322_345.out _).trans (hHeld.2.1)))))), ((cell_far (p := ⟨gb345, _, none⟩) NB322_345.out _).trans (((cell_far (p := ⟨gb345, _, none⟩) NB322_345.out _).trans (((cell_far (p := ⟨gb345, _, none⟩) NB322_345.out _).trans (hHeld.2.2.1)))))), ((cell_far (p := ⟨gb345, _, none⟩) (by first | exact Nat.ne_of_lt (Nat.lt_of_lt_of_le (by have := World.block_lt_of_cell? _ _ hw333_0; first | rwa [add_block] at this | exact this) GW345.out) | (rw [add_block]; exact Nat.ne_of_lt (Nat.lt_of_lt_of_le (by have := World.block_lt_of_cell? _ _ hw333_0; first | rwa [add_block] at this | exact this) GW345.out)) | (show (Addr.add _ _).block ≠ _; rw [add_block]; exact Nat.ne_of_lt (Nat.lt_of_lt_of_le (by have := World.block_lt_of_cell? _ _ hw333_0; first | rwa [add_block] at this | exact this) GW345.out)) | (dsimp only; exact Nat.ne_of_lt (Nat.lt_of_lt_of_le (by have := World.block_lt_of_cell? _ _ hw333_0; first | rwa [add_block] at this | exact this) GW345.out))) _).trans (((cell_far (p := ⟨gb345, _, none⟩) (by first | exact Nat.ne_of_lt (Nat.lt_of_lt_of_le (by have := World.block_lt_of_cell? _ _ hw333_0; first | rwa [add_block] at this | exact this) GW345.out) | (rw [add_block]; exact Nat.ne_of_lt (Nat.lt_of_lt_of_le (by have := World.block_lt_of_cell? _ _ hw333_0; first | rwa [add_block] at this | exact this) GW345.out)) | (show (Addr.add _ _).block ≠ _; rw [add_block]; exact Nat.ne_of_lt (Nat.lt_of_lt_of_le (by have := World.block_lt_of_cell? _ _ hw333_0; first | rwa [add_block] at this | exact this) GW345.out)) | (dsimp only; exact Nat.ne_of_lt (Nat.lt_of_lt_of_le (by have := World.block_lt_of_cell? _ _ hw333_0; first | rwa [add_block] at this | exact this) GW345.out))) _).trans (((cell_far (p := ⟨gb345, _, none⟩) (by first | exact Nat.ne_of_lt (Nat.lt_of_lt_of_le (by have := World.block_lt_of_cell? _ _ hw333_0; first | rwa [add_block] at this | exact this) GW345.out) | (rw [add_block]; exact Nat.ne_of_lt (Nat.lt_of_lt_of_le (by have := World.block_lt_of_cell? _ _ hw333_0; first | rwa [add_block] at this | exact this) GW345.out)) | (show (Addr.add _ _).block ≠ _; rw [add_block]; exact Nat.ne_of_lt (Nat.lt_of_lt_of_le (by have := World.block_lt_of_cell? _ _ hw333_0; first | rwa [add_block] at this | exact this) GW345.out)) | (dsimp only; exact Nat.ne_of_lt (Nat.lt_of_lt_of_le (by have := World.block_lt_of_cell? _ _ hw333_0; first | rwa [add_block] at this | exact this) GW345.out))) _).trans (hHeld.2.2.2.1)))))), ((cell_far (p := ⟨gb345, _, none⟩) (by first | exact Nat.ne_of_lt (Nat.lt_of_lt_of_le (by have := World.block_lt_of_cell? _ _ hw333_1; first | rwa [add_block] at this | exact this) GW345.out) | (rw [add_block]; exact Nat.ne_of_lt (Nat.lt_of_lt_of_le (by have := World.block_lt_of_cell? _ _ hw333_1; first | rwa [add_block] at this | exact this) GW345.out)) | (show (Addr.add _ _).block ≠ _; rw [add_block]; exact Nat.ne_of_lt (Nat.lt_of_lt_of_le (by have := World.block_lt_of_cell? _ _ hw333_1; first | rwa [add_block] at this | exact this) GW345.out)) | (dsimp only; exact Nat.ne_of_lt (Nat.lt_of_lt_of_le (by have := World.block_lt_of_cell? _ _ hw333_1; first | rwa [add_block] at this | exact this) GW345.out))) _).trans (((cell_far (p := ⟨gb345, _, none⟩) (by first | exact Nat.ne_of_lt (Nat.lt_of_lt_of_le (by have := World.block_lt_of_cell? _ _ hw333_1; first | rwa [add_block] at this | exact this) GW345.out) | (rw [add_block]; exact Nat.ne_of_lt (Nat.lt_of_lt_of_le (by have := World.block_lt_of_cell? _ _ hw333_1; first | rwa [add_block] at this | exact this) GW345.out)) | (show (Addr.add _ _).block ≠ _; rw [add_block]; exact Nat.ne_of_lt (Nat.lt_of_lt_of_le (by have := World.block_lt_of_cell? _ _ hw333_1; first | rwa [add_block] at this | exact this) GW345.out)) | (dsimp only; exact Nat.ne_of_lt (Nat.lt_of_lt_of_le (by have := World.block_lt_of_cell? _ _ hw333_1; first | rwa [add_block] at this | exact this) GW345.out))) _).trans (((cell_far (p := ⟨gb345, _, none⟩) (by first | exact Nat.ne_of_lt (Nat.lt_of_lt_of_le (by have := World.block_lt_of_cell? _ _ hw333_1; first | rwa [add_block] at this | exact this) GW345.out) | (rw [add_block]; exact Nat.ne_of_lt (Nat.lt_of_lt_of_le (by have := World.block_lt_of_cell? _ _ hw333_1; first | rwa [add_block] at this | exact this) GW345.out)) | (show (Addr.add _ _).block ≠ _; rw [add_block]; exact Nat.ne_of_lt (Nat.lt_of_lt_of_le (by have := World.block_lt_of_cell? _ _ hw333_1; first | rwa [add_block] at this | exact this) GW345.out)) | (dsimp only; exact Nat.ne_of_lt (Nat.lt_of_lt_of_le (by have := World.block_lt_of_cell? _ _ hw333_1; first | rwa [add_block] at this | exact this) GW345.out))) _).trans (hHeld.2.2.2.2.1)))))), ((cell_far (p := ⟨gb345, _, none⟩) (by first | exact Nat.ne_of_lt (Nat.lt_of_lt_of_le (by have := World.block_lt_of_cell? _ _ hw333_2; first | rwa [add_block] at this | exact this) GW345.out) | (rw [add_block]; exact Nat.ne_of_lt (Nat.lt_of_lt_of_le (by have := World.block_lt_of_cell? _ _ hw333_2; first | rwa [add_block] at this | exact this) GW345.out)) | (show (Addr.add _ _).block ≠ _; rw [add_block]; exact Nat.ne_of_lt (Nat.lt_of_lt_of_le (by have := World.block_lt_of_cell? _ _ hw333_2; first | rwa [add_block] at this | exact this) GW345.out)) | (dsimp only; exact Nat.ne_of_lt (Nat.lt_of_lt_of_le (by have := World.block_lt_of_cell? _ _ hw333_2; first | rwa [add_block] at this | exact this) GW345.out))) _).trans (((cell_far (p := ⟨gb345, _, none⟩) (by first | exact Nat.ne_of_lt (Nat.lt_of_lt_of_le (by have := World.block_lt_of_cell? _ _ hw333_2; first | rwa [add_block] at this | exact this) GW345.out) | (rw [add_block]; exact Nat.ne_of_lt (Nat.lt_of_lt_of_le (by have := World.block_lt_of_cell? _ _ hw333_2; first | rwa [add_block] at this | exact this) GW345.out)) | (show (Addr.add _ _).block ≠ _; rw [add_block]; exact Nat.ne_of_lt (Nat.lt_of_lt_of_le (by have := World.block_lt_of_cell? _ _ hw333_2; first | rwa [add_block] at this | exact this) GW345.out)) | (dsimp only; exact Nat.ne_of_lt (Nat.lt_of_lt_of_le (by have := World.block_lt_of_cell? _ _ hw333_2; first | rwa [add_block] at this | exact this) GW345.out))) _).trans (((cell_far (p := ⟨gb345, _, none⟩) (by first | exact Nat.ne_of_lt (Nat.lt_of_lt_of_le (by have := World.block_lt_of_cell? _ _ hw333_2; first | rwa [add_block] at this | exact this) GW345.out) | (rw [add_block]; exact Nat.ne_of_lt (Nat.lt_of_lt_of_le (by have := World.block_lt_of_cell? _ _ hw333_2; first | rwa [add_block] at this | exact this) GW345.out)) | (show (Addr.add _ _).block ≠ _; rw [add_block]; exact Nat.ne_of_lt (Nat.lt_of_lt_of_le (by have := World.block_lt_of_cell? _ _ hw333_2; first | rwa [add_block] at this | exact this) GW345.out)) | (dsimp only; exact Nat.ne_of_lt (Nat.lt_of_lt_of_le (by have := World.block_lt_of_cell? _ _ hw333_2; first | rwa [add_block] at this | exact this) GW345.out))) _).trans (hHeld.2.2.2.2.2.1)))))), ((cell_far (p := ⟨gb345, _, none⟩) (by first | exact Nat.ne_of_lt (Nat.lt_of_lt_of_le (by have := World.block_lt_of_cell? _ _ hw334_0; first | rwa [add_block] at this | exact this) GW345.out) | (rw [add_block]; exact Nat.ne_of_lt (Nat.lt_of_lt_of_le (by have := World.block_lt_of_cell? _ _ hw334_0; first | rwa [add_block] at this | exact this) GW345.out)) | (show (Addr.add _ _).block ≠ _; rw [add_block]; exact Nat.ne_of_lt (Nat.lt_of_lt_of_le (by have := World.block_lt_of_cell? _ _ hw334_0; first | rwa [add_block] at this | exact this) GW345.out)) | (dsimp only; exact Nat.ne_of_lt (Nat.lt_of_lt_of_le (by have := World.block_lt_of_cell? _ _ hw334_0; first | rwa [add_block] at this | exact this) GW345.out))) _).trans (((cell_far (p := ⟨gb345, _, none⟩) (by first | exact Nat.ne_of_lt (Nat.lt_of_lt_of_le (by have := World.block_lt_of_cell? _ _ hw334_0; first | rwa [add_block] at this | exact this) GW345.out) | (rw [add_block]; exact Nat.ne_of_lt (Nat.lt_of_lt_of_le (by have := World.block_lt_of_cell? _ _ hw334_0; first | rwa [add_block] at this | exact this) GW345.out)) | (show (Addr.add _ _).block ≠ _; rw [add_block]; exact Nat.ne_of_lt (Nat.lt_of_lt_of_le (by have := World.block_lt_of_cell? _ _ hw334_0; first | rwa [add_block] at this | exact this) GW345.out)) | (dsimp only; exact Nat.ne_of_lt (Nat.lt_of_lt_of_le (by have := World.block_lt_of_cell? _ _ hw334_0; first | rwa [add_block] at this | exact this) GW345.out))) _).trans (((cell_far (p := ⟨gb345, _, none⟩) (by first | exact Nat.ne_of_lt (Nat.lt_of_lt_of_le (by have := World.block_lt_of_cell? _ _ hw334_0; first | rwa [add_block] at this | exact this) GW345.out) | (rw [add_block]; exact Nat.ne_of_lt (Nat.lt_of_lt_of_le (by have := World.block_lt_of_cell? _ _ hw334_0; first | rwa [add_block] at this | exact this) GW345.out)) | (show (Addr.add _ _).block ≠ _; rw [add_block]; exact Nat.ne_of_lt (Nat.lt_of_lt_of_le (by have := World.block_lt_of_cell? _ _ hw334_0; first | rwa [add_block] at this | exact this) GW345.out)) | (dsimp only; exact Nat.ne_of_lt (Nat.lt_of_lt_of_le (by have := World.block_lt_of_cell? _ _ hw334_0; first | rwa [add_block] at this | exact this) GW345.out))) _).trans (hHeld.2.2.2.2.2.2.1)))))), ((cell_far (p := ⟨gb345, _, none⟩) (by first | exact Nat.ne_of_lt (Nat.lt_of_lt_of_le (by have := World.block_lt_of_cell? _ _ hw334_1; first | rwa [add_block] at this | exact this) GW345.out) | (rw [add_block]; exact Nat.ne_of_lt (Nat.lt_of_lt_of_le (by have := World.block_lt_of_cell? _ _ hw334_1; first | rwa [add_block] at this | exact this) GW345.out)) | (show (Addr.add _ _).block ≠ _; rw [add_block]; exact Nat.ne_of_lt (Nat.lt_of_lt_of_le (by have := World.block_lt_of_cell? _ _ hw334_1; first | rwa [add_block] at this | exact this) GW345.out)) | (dsimp only; exact Nat.ne_of_lt (Nat.lt_of_lt_of_le (by have := World.block_lt_of_cell? _ _ hw334_1; first | rwa [add_block] at this | exact this) GW345.out))) _).trans (((cell_far (p := ⟨gb345, _, none⟩) (by first | exact Nat.ne_of_lt (Nat.lt_of_lt_of_le (by have := World.block_lt_of_cell? _ _ hw334_1; first | rwa [add_block] at this | exact this) GW345.out) | (rw [add_block]; exact Nat.ne_of_lt (Nat.lt_of_lt_of_le (by have := World.block_lt_of_cell? _ _ hw334_1; first | rwa [add_block] at this | exact this) GW345.out)) | (show (Addr.add _ _).block ≠ _; rw [add_block]; exact Nat.ne_of_lt (Nat.lt_of_lt_of_le (by have := World.block_lt_of_cell? _ _ hw334_1; first | rwa [add_block] at this | exact this) GW345.out)) | (dsimp only; exact Nat.ne_of_lt (Nat.lt_of_lt_of_le (by have := World.block_lt_of_cell? _ _ hw334_1; first | rwa [add_block] at this | exact this) GW345.out))) _).trans (((cell_far (p := ⟨gb345, _, none⟩) (by first | exact Nat.ne_of_lt (Nat.lt_of_lt_of_le (by have := World.block_lt_of_cell? _ _ hw334_1; first | rwa [add_block] at this | exact this) GW345.out) | (rw [add_block]; exact Nat.ne_of_lt (Nat.lt_of_lt_of_le (by have := World.block_lt_of_cell? _ _ hw334_1; first | rwa [add_block] at this | exact this) GW345.out)) | (show (Addr.add _ _).block ≠ _; rw [add_block]; exact Nat.ne_of_lt (Nat.lt_of_lt_of_le (by have := World.block_lt_of_cell? _ _ hw334_1; first | rwa [add_block] at this | exact this) GW345.out)) | (dsimp only; exact Nat.ne_of_lt (Nat.lt_of_lt_of_le (by have := World.block_lt_of_cell? _ _ hw334_1; first | rwa [add_block] at this | exact this) GW345.out))) _).trans (hHeld.2.2.2.2.2.2.2.1)))))), ((cell_far (p := ⟨gb345, _, none⟩) (by first | exact Nat.ne_of_lt (Nat.lt_of_lt_of_le (by have := World.block_lt_of_cell? _ _ hw334_2; first | rwa [add_block] at this | exact this) GW345.out) | (rw [add_block]; exact Nat.ne_of_lt (Nat.lt_of_lt_of_le (by have := World.block_lt_of_cell? _ _ hw334_2; first | rwa [add_block] at this | exact this) GW345.out)) | (show (Addr.add _ _).block ≠ _; rw [add_block]; exact Nat.ne_of_lt (Nat.lt_of_lt_of_le (by have := World.block_lt_of_cell? _ _ hw334_2; first | rwa [add_block] at this | exact this) GW345.out)) | (dsimp only; exact Nat.ne_of_lt (Nat.lt_of_lt_of_le (by have := World.block_lt_of_cell? _ _ hw334_2; first | rwa [add_block] at this | exact this) GW345.out))) _).trans (((cell_far (p := ⟨gb345, _, none⟩) (by first | exact Nat.ne_of_lt (Nat.lt_of_lt_of_le (by have := World.block_lt_of_cell? _ _ hw334_2; first | rwa [add_block] at this | exact this) GW345.out) | (rw [add_block]; exact Nat.ne_of_lt (Nat.lt_of_lt_of_le (by have := World.block_lt_of_cell? _ _ hw334_2; first | rwa [add_block] at this | exact this) GW345.out)) | (show (Addr.add _ _).block ≠ _; rw [add_block]; exact Nat.ne_of_lt (Nat.lt_of_lt_of_le (by have := World.block_lt_of_cell? _ _ hw334_2; first | rwa [add_block] at this | exact this) GW345.out)) | (dsimp only; exact Nat.ne_of_lt (Nat.lt_of_lt_of_le (by have := World.block_lt_of_cell? _ _ hw334_2; first | rwa [add_block] at this | exact this) GW345.out))) _).trans (((cell_far (p := ⟨gb345, _, none⟩) (by first | exact Nat.ne_of_lt (Nat.lt_of_lt_of_le (by have := World.block_lt_of_cell? _ _ hw334_2; first | rwa [add_block] at this | exact this) GW345.out) | (rw [add_block]; exact Nat.ne_of_lt (Nat.lt_of_lt_of_le (by have := World.block_lt_of_cell? _ _ hw334_2; first | rwa [add_block] at this | exact this) GW345.out)) | (show (Addr.add _ _).block ≠ _; rw [add_block]; exact Nat.ne_of_lt (Nat.lt_of_lt_of_le (by have := World.block_lt_of_cell? _ _ hw334_2; first | rwa [add_block] at this | exact this) GW345.out)) | (dsimp only; exact Nat.ne_of_lt (Nat.lt_of_lt_of_le (by have := World.block_lt_of_cell? _ _ hw334_2; first | rwa [add_block] at this | exact this) GW345.out))) _).trans (hHeld.2.2.2.2.2.2.2.2))))))⟩ (fun hHeld => ?_)
              clear hK K
              refine pure_ (i := 17) (N := some 6) (v := ?_) (a' := ?_) #[true, true, true, true, true, true, true, true, true, true, true, true, true, true, true, true, true, true] rfl rfl (any_of HT_.out (by kernel_rfl)) (fun _ _ _ h => h) (Or.inl ⟨by rfl, ?_⟩) ?_ ?_
              rotate_left
              · intro w'
                go_simp
                with_reducible rfl
              rotate_left
              · simp only [Act.put, List.setIfInBounds_toArray, List.set_cons_zero, List.set_cons_succ, i64_w, i32_w]
                rfl
              refine done_ (done_of HT_.out (by kernel_rfl)) ?_
              have hnb36 := NB345_321.out
              have hnc36 := NB321_345.out
              have hnb37 := NB345_322.out
              have hnc37 := NB322_345.out
              have hcz38_0 : w29.cell? ⟨gb345, 0, none⟩ = some (.slice none 0 0) := (blk_cell BK345.out 0).trans rfl
              have hcz38_1 : w29.cell? ⟨gb345, 1, none⟩ = some (.slice none 0 0) := (blk_cell BK345.out 1).trans rfl
              have hcz38_2 : w29.cell? ⟨gb345, 2, none⟩ = some (.slice none 0 0) := (blk_cell BK345.out 2).trans rfl
              have hfz38_0 := blk_frozen BK345.out 0
              have hfz38_1 := blk_frozen BK345.out 1
              have hfz38_2 := blk_frozen BK345.out 2
              have hnb39 := NB322_321.out
              have hnc39 := NB321_322.out
              have hcz40_0 : w29.cell? ⟨gb322, 0, none⟩ = some (.slice Ao23 x323000_1.length co23) := (blk_cell BK322.out 0).trans rfl
              have hcz40_1 : w29.cell? ⟨gb322, 1, none⟩ = some (.slice Ao24 x323001_1.length co24) := (blk_cell BK322.out 1).trans rfl
              have hcz40_2 : w29.cell? ⟨gb322, 2, none⟩ = some (.slice Ao25 x323002_1.length co25) := (blk_cell BK322.out 2).trans rfl
              have hfz40_0 := blk_frozen BK322.out 0
              have hfz40_1 := blk_frozen BK322.out 1
              have hfz40_2 := blk_frozen BK322.out 2
              try go_wp2
              go_roundg k1
              case measure => have := HK1.out; omega
              case rel => exact ⟨(wrap64 (x4_1 + 1)), (t335), (t338), (t341), (.slice Ao30 t335.length co30), (.slice Ao32 t338.length co32), (.slice Ao34 t341.length co34), (by first | rfl | (simp; done) | (simp [*]; done)), H', ⟨by have := HK1.out; omega⟩, ⟨Kd.R_V (by (with_reducible repeat (first | apply Kd.R_alloc | apply Kd.R_drewN | apply Kd.R_drew)); exact Kd.R_mono (Kd.R_far (p := ⟨gb322, 2, none⟩) (Kd.R_far (p := ⟨gb322, 1, none⟩) (Kd.R_far (p := ⟨gb322, 0, none⟩) (Kd.R_far (p := ⟨gb345, 2, none⟩) (Kd.R_far (p := ⟨gb345, 1, none⟩) (Kd.R_far (p := ⟨gb345, 0, none⟩) (Kd.R_types (Kd.R_types (Kd.R_types (Kd.R_types (Kd.R_apart' HO337.out (Kd.N_typed HO343.out) (by decide)) BK321.out (by decide)) BK322.out (by decide)) BK345.out (by decide)) BK322.out (by decide)) (fun _ hk => hk.1.2) (.slice Ao30 t335.length co30)) (fun _ hk => hk.1.2) (.slice Ao32 t338.length co32)) (fun _ hk => hk.1.2) (.slice Ao34 t341.length co34)) (fun _ hk => hk.2) (.slice Ao30 t335.length co30)) (fun _ hk => hk.2) (.slice Ao32 t338.length co32)) (fun _ hk => hk.2) (.slice Ao34 t341.length co34)) (fun _ hk => ⟨hk.1.1.1.1.1, ⟨hk.1.1.1.1.2, ⟨hk.1.1.1.2, hk.1.1.2⟩⟩⟩))⟩, ⟨by (with_reducible repeat (first | apply Kd.V_alloc | apply Kd.V_drewN | apply Kd.V_drew)); exact Kd.V_mono (Kd.V_far (p := ⟨gb322, 2, none⟩) (Kd.V_far (p := ⟨gb322, 1, none⟩) (Kd.V_far (p := ⟨gb322, 0, none⟩) (Kd.V_far (p := ⟨gb345, 2, none⟩) (Kd.V_far (p := ⟨gb345, 1, none⟩) (Kd.V_far (p := ⟨gb345, 0, none⟩) (Kd.V_mono (Kd.V_mono HO340.out (fun k_ hk => (⟨hk, hk.2.2.2.2.2⟩ : _ ∧ k_ ≠ gb345))) (fun k_ hk => (⟨hk, hk.1.2.2.2.2.1⟩ : _ ∧ k_ ≠ gb322))) (fun _ hk => hk.1.2) (.slice Ao30 t335.length co30)) (fun _ hk => hk.1.2) (.slice Ao32 t338.length co32)) (fun _ hk => hk.1.2) (.slice Ao34 t341.length co34)) (fun _ hk => hk.2) (.slice Ao30 t335.length co30)) (fun _ hk => hk.2) (.slice Ao32 t338.length co32)) (fun _ hk => hk.2) (.slice Ao34 t341.length co34)) (fun _ hk => ⟨hk.1.1.1, ⟨hk.1.1.2.2.1, ⟨hk.1.1.2.2.2.1, hk.1.1.2.2.2.2.1⟩⟩⟩)⟩, ⟨by (with_reducible repeat (first | apply Kd.N_alloc | apply Kd.N_drewN | apply Kd.N_drew)); exact Kd.N_mono (Kd.N_far (p := ⟨gb322, 2, none⟩) (Kd.N_far (p := ⟨gb322, 1, none⟩) (Kd.N_far (p := ⟨gb322, 0, none⟩) (Kd.N_far (p := ⟨gb345, 2, none⟩) (Kd.N_far (p := ⟨gb345, 1, none⟩) (Kd.N_far (p := ⟨gb345, 0, none⟩) (Kd.N_mono (Kd.N_mono HO343.out (fun k_ hk => (⟨hk, hk.2.2.2.2⟩ : _ ∧ k_ ≠ gb345))) (fun k_ hk => (⟨hk, hk.1.2.2.2.1⟩ : _ ∧ k_ ≠ gb322))) (fun _ hk => hk.1.2) (.slice Ao30 t335.length co30)) (fun _ hk => hk.1.2) (.slice Ao32 t338.length co32)) (fun _ hk => hk.1.2) (.slice Ao34 t341.length co34)) (fun _ hk => hk.2) (.slice Ao30 t335.length co30)) (fun _ hk => hk.2) (.slice Ao32 t338.length co32)) (fun _ hk => hk.2) (.slice Ao34 t341.length co34)) (fun _ hk => ⟨hk.1.1.1, ⟨hk.1.1.2.2.1, hk.1.1.2.2.2.1⟩⟩)⟩, ⟨by (with_reducible repeat (first | refine blk_drewN ?_ _ | refine blk_drew ?_ | refine blk_alloc ?_ _)); refine blk_far ?_ NB321_322.out _; (with_reducible repeat (first | refine blk_drewN ?_ _ | refine blk_drew ?_ | refine blk_alloc ?_ _)); refine blk_far ?_ NB321_322.out _; (with_reducible repeat (first | refine blk_drewN ?_ _ | refine blk_drew ?_ | refine blk_alloc ?_ _)); refine blk_far ?_ NB321_322.out _; (with_reducible repeat (first | refine blk_drewN ?_ _ | refine blk_drew ?_ | refine blk_alloc ?_ _)); refine blk_far ?_ NB321_345.out _; (with_reducible repeat (first | refine blk_drewN ?_ _ | refine blk_drew ?_ | refine blk_alloc ?_ _)); refine blk_far ?_ NB321_345.out _; (with_reducible repeat (first | refine blk_drewN ?_ _ | refine blk_drew ?_ | refine blk_alloc ?_ _)); refine blk_far ?_ NB321_345.out _; (with_reducible repeat (first | refine blk_drewN ?_ _ | refine blk_drew ?_ | refine blk_alloc ?_ _)); exact BK321.out⟩, ⟨by (with_reducible repeat (first | refine blk_drewN ?_ _ | refine blk_drew ?_ | refine blk_alloc ?_ _)); refine blk_put (cs := #[.slice Ao30 t335.length co30, .slice Ao32 t338.length co32, .slice Ao25 x323002_1.length co25]) ?_ 2 _ rfl; (with_reducible repeat (first | refine blk_drewN ?_ _ | refine blk_drew ?_ | refine blk_alloc ?_ _)); refine blk_put (cs := #[.slice Ao30 t335.length co30, .slice Ao24 x323001_1.length co24, .slice Ao25 x323002_1.length co25]) ?_ 1 _ rfl; (with_reducible repeat (first | refine blk_drewN ?_ _ | refine blk_drew ?_ | refine blk_alloc ?_ _)); refine blk_put (cs := #[.slice Ao23 x323000_1.length co23, .slice Ao24 x323001_1.length co24, .slice Ao25 x323002_1.length co25]) ?_ 0 _ rfl; (with_reducible repeat (first | refine blk_drewN ?_ _ | refine blk_drew ?_ | refine blk_alloc ?_ _)); refine blk_far ?_ NB322_345.out _; (with_reducible repeat (first | refine blk_drewN ?_ _ | refine blk_drew ?_ | refine blk_alloc ?_ _)); refine blk_far ?_ NB322_345.out _; (with_reducible repeat (first | refine blk_drewN ?_ _ | refine blk_drew ?_ | refine blk_alloc ?_ _)); refine blk_far ?_ NB322_345.out _; (with_reducible repeat (first | refine blk_drewN ?_ _ | refine blk_drew ?_ | refine blk_alloc ?_ _)); exact BK322.out⟩, ⟨by repeat (first | (with_reducible first | exact HB.out | apply below_alloc | apply pw_below_drewN | apply below_drew1 | refine below_set ?_ GE321.out | refine below_set ?_ GE322.out | refine below_set ?_ GE345.out) | exact HB.out)⟩⟩
            · rw [if_neg c22] at H
              have c22b0 : (t344 == 0) = false := beq_eq_false_iff_ne.mpr c22
              have c22b1 : (t344 != 0) = true := bne_iff_ne.mpr c22
              have H' := Aside0.mk H
              clear H
              have p323 : 0 ≤ (x4_1 : Int) := of_decide_eq_true (by first | (with_reducible assumption) | assumption)
              have q323 : x4_1 < (l0.length : Int) := of_decide_eq_true (by first | (with_reducible assumption) | assumption)
              obtain ⟨ad323, A323_2, c323_2, e323, hx323_0, hx323_1, hx323_2, hl323_2, hi323_2⟩ := at_T78 HR0.out x4_1 p323 q323
              (try rw [← Nbq8.out] at hx323_0)
              cases e323
              replace hx323_0 := (HB.out.cell (World.block_lt_of_cell? w _ hx323_0)).trans hx323_0
              replace hx323_1 := (HB.out.cell (World.block_lt_of_cell? w _ hx323_1)).trans hx323_1
              replace hx323_2 := (HB.out.cell (World.block_lt_of_cell? w _ hx323_2)).trans hx323_2
              have HR323_2 := Aside0.mk hi323_2
              have HC323_2 := Aside0.mk hl323_2
              clear hi323_2 hl323_2
              replace p323 := eq_true p323
              replace q323 := eq_true q323
              obtain ⟨Ao41, co41, eo41⟩ := Kd.V_slice HO_323000.out
              subst eo41
              obtain ⟨Ao42, co42, eo42⟩ := Kd.V_slice HO_323001.out
              subst eo42
              obtain ⟨Ao43, co43, eo43⟩ := Kd.N_slice HO_323002.out
              subst eo43
              try go_wp2
              have n0_ := Aside0.mk (Kd.V_drew HO_323000.out)
              have n1_ := Aside0.mk (Kd.V_drew HO_323001.out)
              have n2_ := Aside0.mk (Kd.N_drew HO_323002.out)
              have n3_ := Aside0.mk (blk_drew BK321.out)
              have n4_ := Aside0.mk (blk_drew BK322.out)
              have n5_ := Aside0.mk (below_drew1 HB.out)
              clear HO_323000
              clear HO_323001
              clear HO_323002
              clear BK321
              clear BK322
              clear HB
              have HO_323000 := n0_
              have HO_323001 := n1_
              have HO_323002 := n2_
              have BK321 := n3_
              have BK322 := n4_
              have HB := n5_
              clear n0_ n1_ n2_ n3_ n4_ n5_
              have p333 : 0 ≤ (x4_1 : Int) := of_decide_eq_true (by first | (with_reducible assumption) | assumption)
              have q333 : x4_1 < (l0.length : Int) := of_decide_eq_true (by first | (with_reducible assumption) | assumption)
              obtain ⟨ad333, A333_2, c333_2, e333, hx333_0, hx333_1, hx333_2, hl333_2, hi333_2⟩ := at_T78 HR0.out x4_1 p333 q333
              have hw333_2 := hx333_2
              have hw333_1 := hx333_1
              have hw333_0 := hx333_0
              (try rw [← Nbq8.out] at hx333_0)
              (try rw [← Nbq8.out] at hw333_0)
              obtain rfl : ad323 = ad333 := (by injection e333)
              replace hx333_0 := (HB.out.cell (World.block_lt_of_cell? w _ hx333_0)).trans hx333_0
              replace hx333_1 := (HB.out.cell (World.block_lt_of_cell? w _ hx333_1)).trans hx333_1
              replace hx333_2 := (HB.out.cell (World.block_lt_of_cell? w _ hx333_2)).trans hx333_2
              have HR333_2 := Aside0.mk hi333_2
              have HC333_2 := Aside0.mk hl333_2
              clear hi333_2 hl333_2
              replace p333 := eq_true p333
              replace q333 := eq_true q333
              have p334 : 0 ≤ (x4_1 : Int) := of_decide_eq_true (by first | (with_reducible assumption) | assumption)
              have q334 : x4_1 < (l0.length : Int) := of_decide_eq_true (by first | (with_reducible assumption) | assumption)
              obtain ⟨ad334, A334_2, c334_2, e334, hx334_0, hx334_1, hx334_2, hl334_2, hi334_2⟩ := at_T78 HR0.out x4_1 p334 q334
              have hw334_2 := hx334_2
              have hw334_1 := hx334_1
              have hw334_0 := hx334_0
              (try rw [← Nbq8.out] at hx334_0)
              (try rw [← Nbq8.out] at hw334_0)
              obtain rfl : ad323 = ad334 := (by injection e334)
              replace hx334_0 := (HB.out.cell (World.block_lt_of_cell? w _ hx334_0)).trans hx334_0
              replace hx334_1 := (HB.out.cell (World.block_lt_of_cell? w _ hx334_1)).trans hx334_1
              replace hx334_2 := (HB.out.cell (World.block_lt_of_cell? w _ hx334_2)).trans hx334_2
              have HR334_2 := Aside0.mk hi334_2
              have HC334_2 := Aside0.mk hl334_2
              clear hi334_2 hl334_2
              replace p334 := eq_true p334
              replace q334 := eq_true q334
              have ea_ := Option.some.inj (hx333_2.symm.trans hx334_2)
              injection ea_ with ea_ en_ ec_
              subst ea_
              subst ec_
              clear en_
              refine start_ (n := 18) (S := fun w' => w'.cell? ⟨gb322, 0, none⟩ = some (.slice Ao41 x323000_1.length co41) ∧ w'.cell? ⟨gb322, 1, none⟩ = some (.slice Ao42 x323001_1.length co42) ∧ w'.cell? ⟨gb322, 2, none⟩ = some (.slice Ao43 x323002_1.length co43) ∧ w'.cell? (ad323.add ((x4_1).toNat * 3)) = some (.bool (false)) ∧ w'.cell? ⟨(ad323.add ((x4_1).toNat * 3)).block, (ad323.add ((x4_1).toNat * 3)).off + 1, none⟩ = some (.int .i64 ((rd_T78 l0 x4_1).f1)) ∧ w'.cell? ⟨(ad323.add ((x4_1).toNat * 3)).block, (ad323.add ((x4_1).toNat * 3)).off + 2, none⟩ = some (.slice A333_2 ((rd_T78 l0 x4_1).f2).length c333_2) ∧ w'.cell? (ad323.add ((x4_1).toNat * 3)) = some (.bool (false)) ∧ w'.cell? ⟨(ad323.add ((x4_1).toNat * 3)).block, (ad323.add ((x4_1).toNat * 3)).off + 1, none⟩ = some (.int .i64 ((rd_T78 l0 x4_1).f1)) ∧ w'.cell? ⟨(ad323.add ((x4_1).toNat * 3)).block, (ad323.add ((x4_1).toNat * 3)).off + 2, none⟩ = some (.slice A333_2 ((rd_T78 l0 x4_1).f2).length c333_2)) (ds := []) #[false, false, false, false, false, false, false, false, false, false, false, false, false, false, false, false, false, false] (by kernel_rfl) rfl rfl ⟨(blk_cell BK322.out 0).trans rfl, (blk_cell BK322.out 1).trans rfl, (blk_cell BK322.out 2).trans rfl, ((HB.out.cell (World.block_lt_of_cell? w _ hw333_0)).trans hw333_0), ((HB.out.cell (World.block_lt_of_cell? w _ hw333_1)).trans hw333_1), ((HB.out.cell (World.block_lt_of_cell? w _ hw333_2)).trans hw333_2), ((HB.out.cell (World.block_lt_of_cell? w _ hw334_0)).trans hw334_0), ((HB.out.cell (World.block_lt_of_cell? w _ hw334_1)).trans hw334_1), ((HB.out.cell (World.block_lt_of_cell? w _ hw334_2)).trans hw334_2)⟩ (fun hHeld => ?_); refine with_tabW newsreelref09_Made.tab7 newsreelref09_Made.bits7 (fun HT_ HW_ => ?_)
              generalize wr.drew = w44 at HO_323000 HO_323001 HO_323002 BK321 BK322 HB HR333_2 HR334_2 hx333_0 hx333_1 hx333_2 hx334_0 hx334_1 hx334_2 hHeld ⊢
              refine pure_ (i := 1) (N := some 23) (v := ?_) (a' := ?_) #[false, true, false, false, false, false, false, false, false, false, false, false, false, false, false, false, false, false] rfl rfl (any_of HT_.out (by kernel_rfl)) (fun _ _ _ h => h) (Or.inl ⟨by rfl, ?_⟩) ?_ ?_
              rotate_left
              · intro w'
                go_simp
                with_reducible rfl
              rotate_left
              · simp only [Act.put, List.setIfInBounds_toArray, List.set_cons_zero, List.set_cons_succ, i64_w, i32_w]
                rfl
              refine pure_ (i := 2) (N := some 24) (v := ?_) (a' := ?_) #[false, true, true, false, false, false, false, false, false, false, false, false, false, false, false, false, false, false] rfl rfl (any_of HT_.out (by kernel_rfl)) (fun _ _ _ h => h) (Or.inl ⟨by rfl, ?_⟩) ?_ ?_
              rotate_left
              · intro w'
                go_simp
                with_reducible rfl
              rotate_left
              · simp only [Act.put, List.setIfInBounds_toArray, List.set_cons_zero, List.set_cons_succ, i64_w, i32_w]
                rfl
              refine pure_ (i := 3) (N := some 25) (v := ?_) (a' := ?_) #[false, true, true, true, false, false, false, false, false, false, false, false, false, false, false, false, false, false] rfl rfl (any_of HT_.out (by kernel_rfl)) (fun _ _ _ h => h) (Or.inl ⟨by rfl, ?_⟩) ?_ ?_
              rotate_left
              · intro w'
                go_simp
                with_reducible rfl
              rotate_left
              · simp only [Act.put, List.setIfInBounds_toArray, List.set_cons_zero, List.set_cons_succ, i64_w, i32_w]
                rfl
              refine pure_ (i := 4) (N := some 26) (v := ?_) (a' := ?_) #[false, true, true, true, true, false, false, false, false, false, false, false, false, false, false, false, false, false] rfl rfl (any_of HT_.out (by kernel_rfl)) (fun _ _ _ h => h) (Or.inl ⟨by rfl, ?_⟩) ?_ ?_
              rotate_left
              · intro w'
                go_simp
                with_reducible rfl
              rotate_left
              · simp only [Act.put, List.setIfInBounds_toArray, List.set_cons_zero, List.set_cons_succ, i64_w, i32_w]
                rfl
              refine pure_ (i := 6) (N := some 28) (v := ?_) (a' := ?_) #[false, true, true, true, true, false, true, false, false, false, false, false, false, false, false, false, false, false] rfl rfl (any_of HT_.out (by kernel_rfl)) (fun _ _ _ h => h) (Or.inl ⟨by rfl, ?_⟩) ?_ ?_
              rotate_left
              · intro w'
                go_simp
                with_reducible rfl
              rotate_left
              · simp only [Act.put, List.setIfInBounds_toArray, List.set_cons_zero, List.set_cons_succ, i64_w, i32_w]
                rfl
              refine pure_ (i := 7) (N := some 29) (v := ?_) (a' := ?_) #[false, true, true, true, true, false, true, true, false, false, false, false, false, false, false, false, false, false] rfl rfl (any_of HT_.out (by kernel_rfl)) (fun _ _ _ h => h) (Or.inl ⟨by rfl, ?_⟩) ?_ ?_
              rotate_left
              · intro w'
                go_simp
                with_reducible rfl
              rotate_left
              · simp only [Act.put, List.setIfInBounds_toArray, List.set_cons_zero, List.set_cons_succ, i64_w, i32_w]
                rfl
              refine pure_ (i := 8) (N := some 30) (v := ?_) (a' := ?_) #[false, true, true, true, true, false, true, true, true, false, false, false, false, false, false, false, false, false] rfl rfl (any_of HT_.out (by kernel_rfl)) (fun _ _ _ h => h) (Or.inl ⟨by rfl, ?_⟩) ?_ ?_
              rotate_left
              · intro w'
                go_simp
                with_reducible rfl
              rotate_left
              · simp only [Act.put, List.setIfInBounds_toArray, List.set_cons_zero, List.set_cons_succ, i64_w, i32_w]
                rfl
              refine pure_ (i := 9) (N := some 31) (v := ?_) (a' := ?_) #[false, true, true, true, true, false, true, true, true, true, false, false, false, false, false, false, false, false] rfl rfl (any_of HT_.out (by kernel_rfl)) (fun _ _ _ h => h) (Or.inl ⟨by rfl, ?_⟩) ?_ ?_
              rotate_left
              · intro w'
                go_simp
                with_reducible rfl
              rotate_left
              · simp only [Act.put, List.setIfInBounds_toArray, List.set_cons_zero, List.set_cons_succ, i64_w, i32_w]
                rfl
              refine take_ (i := 0) (N := some 22) (v := ?_) (a' := ?_) #[true, true, true, true, true, false, true, true, true, true, false, false, false, false, false, false, false, false] rfl rfl (take_ofW HT_.out HW_.out (by kernel_rfl)) (fun _ _ _ h => h) (Or.inl ⟨by rfl, ?_⟩) hHeld ?_ ?_
              rotate_left
              · rintro w' ⟨s0, s1, s2, s3, s4, s5, s6, s7, s8⟩
                go_simp
                with_reducible rfl
              rotate_left
              · simp only [Act.put, List.setIfInBounds_toArray, List.set_cons_zero, List.set_cons_succ, i64_w, i32_w]
                rfl
              refine take_ (i := 5) (N := some 27) (v := ?_) (a' := ?_) #[true, true, true, true, true, true, true, true, true, true, false, false, false, false, false, false, false, false] rfl rfl (take_ofW HT_.out HW_.out (by kernel_rfl)) (fun _ _ _ h => h) (Or.inl ⟨by rfl, ?_⟩) hHeld ?_ ?_
              rotate_left
              · rintro w' ⟨s0, s1, s2, s3, s4, s5, s6, s7, s8⟩
                go_simp
                with_reducible rfl
              rotate_left
              · simp only [Act.put, List.setIfInBounds_toArray, List.set_cons_zero, List.set_cons_succ, i64_w, i32_w]
                rfl
              refine take_ (i := 10) (N := some 32) (v := ?_) (a' := ?_) #[true, true, true, true, true, true, true, true, true, true, true, false, false, false, false, false, false, false] rfl rfl (take_ofW HT_.out HW_.out (by kernel_rfl)) (fun _ _ _ h => h) (Or.inl ⟨by rfl, ?_⟩) hHeld ?_ ?_
              rotate_left
              · rintro w' ⟨s0, s1, s2, s3, s4, s5, s6, s7, s8⟩
                go_simp
                with_reducible rfl
              rotate_left
              · simp only [Act.put, List.setIfInBounds_toArray, List.set_cons_zero, List.set_cons_succ, i64_w, i32_w]
                rfl
              refine join_ (σ := Value × Value × Value × Nat) 2 #[true, true, true, true, true, true, true, true, true, true, true, true, true, true, true, true, false, false] (fun s_ => [(33, .tuple #[.agg #[s_.1, s_.2.1, s_.2.2.1], .int .i64 t344]), (5, .pointer (some ⟨s_.2.2.2, 0, none⟩)), (21, .tuple #[.agg #[s_.1, s_.2.1, s_.2.2.1], .int .i64 t344]), (34, .agg #[s_.1, s_.2.1, s_.2.2.1]), (35, .int .i64 t344)]) (fun s_ w' => (w'.cell? ⟨gb322, 0, none⟩ = some (.slice Ao41 x323000_1.length co41) ∧ w'.cell? ⟨gb322, 1, none⟩ = some (.slice Ao42 x323001_1.length co42) ∧ w'.cell? ⟨gb322, 2, none⟩ = some (.slice Ao43 x323002_1.length co43) ∧ w'.cell? (ad323.add ((x4_1).toNat * 3)) = some (.bool (false)) ∧ w'.cell? ⟨(ad323.add ((x4_1).toNat * 3)).block, (ad323.add ((x4_1).toNat * 3)).off + 1, none⟩ = some (.int .i64 ((rd_T78 l0 x4_1).f1)) ∧ w'.cell? ⟨(ad323.add ((x4_1).toNat * 3)).block, (ad323.add ((x4_1).toNat * 3)).off + 2, none⟩ = some (.slice A333_2 ((rd_T78 l0 x4_1).f2).length c333_2) ∧ w'.cell? (ad323.add ((x4_1).toNat * 3)) = some (.bool (false)) ∧ w'.cell? ⟨(ad323.add ((x4_1).toNat * 3)).block, (ad323.add ((x4_1).toNat * 3)).off + 1, none⟩ = some (.int .i64 ((rd_T78 l0 x4_1).f1)) ∧ w'.cell? ⟨(ad323.add ((x4_1).toNat * 3)).block, (ad323.add ((x4_1).toNat * 3)).off + 2, none⟩ = some (.slice A333_2 ((rd_T78 l0 x4_1).f2).length c333_2)) ∧ (Kd.R (Kd.int .u8) 5 w' w.heap.size (fun k_ => (w.heap.size ≤ k_)) s_.1 t335) ∧ (Kd.V (Kd.int .u8) 5 w' w.heap.size (fun k_ => (w.heap.size ≤ k_) ∧ some k_ ≠ (s_.1 : Value).ownBlock ∧ some k_ ≠ (s_.2.2.1 : Value).ownBlock ∧ k_ ≠ gb321 ∧ k_ ≠ gb322 ∧ k_ ≠ s_.2.2.2) s_.2.1 t338) ∧ (Kd.N k46 46 w' w.heap.size (fun k_ => (w.heap.size ≤ k_) ∧ some k_ ≠ (s_.1 : Value).ownBlock ∧ k_ ≠ gb321 ∧ k_ ≠ gb322 ∧ k_ ≠ s_.2.2.2) s_.2.2.1 t341) ∧ (Kd.V (Kd.int .u8) 5 w' w.heap.size (fun k_ => (w.heap.size ≤ k_) ∧ some k_ ≠ (s_.1 : Value).ownBlock ∧ some k_ ≠ (s_.2.2.1 : Value).ownBlock ∧ some k_ ≠ (.slice Ao43 x323002_1.length co43 : Value).ownBlock ∧ k_ ≠ gb321 ∧ k_ ≠ gb322 ∧ k_ ≠ s_.2.2.2) (.slice Ao41 x323000_1.length co41) x323000_1) ∧ (Kd.V (Kd.int .u8) 5 w' w.heap.size (fun k_ => (w.heap.size ≤ k_) ∧ some k_ ≠ (s_.1 : Value).ownBlock ∧ some k_ ≠ (s_.2.2.1 : Value).ownBlock ∧ some k_ ≠ (.slice Ao43 x323002_1.length co43 : Value).ownBlock ∧ k_ ≠ gb321 ∧ k_ ≠ gb322 ∧ k_ ≠ s_.2.2.2) (.slice Ao42 x323001_1.length co42) x323001_1) ∧ (Kd.N k46 46 w' w.heap.size (fun k_ => (w.heap.size ≤ k_) ∧ some k_ ≠ (s_.1 : Value).ownBlock ∧ some k_ ≠ (s_.2.2.1 : Value).ownBlock ∧ k_ ≠ gb321 ∧ k_ ≠ gb322 ∧ k_ ≠ s_.2.2.2) (.slice Ao43 x323002_1.length co43) x323002_1) ∧ (w'.heap[gb321]? = some (.cells #[.slice none 0 0, .slice none 0 0, .slice none 0 0] 76 (0, 0))) ∧ (w'.heap[gb322]? = some (.cells #[.slice Ao41 x323000_1.length co41, .slice Ao42 x323001_1.length co42, .slice Ao43 x323002_1.length co43] 76 (0, 0))) ∧ (w'.heap[s_.2.2.2]? = some (.cells #[.slice none 0 0, .slice none 0 0, .slice none 0 0] 76 (0, 0))) ∧ (w.heap.size ≤ s_.2.2.2) ∧ (w.heap.size ≤ s_.2.2.2) ∧ (gb321 ≠ s_.2.2.2) ∧ (s_.2.2.2 ≠ gb321) ∧ (gb322 ≠ s_.2.2.2) ∧ (s_.2.2.2 ≠ gb322) ∧ (Below w.heap.size w w')) ?_ ?_
              rotate_left
              · intro hCont
                refine two_ (i := 11) (j := 15) (Ni := some 33) (Nj := some 5) #[true, true, true, true, true, true, true, true, true, true, true, true, false, false, false, false, false, false] #[true, true, true, true, true, true, true, true, true, true, true, false, false, false, false, true, false, false] rfl rfl rfl rfl (two_of HT_.out (by kernel_rfl)) (by decide) (by decide) (fun K hK => ?_) (fun K hK => ?_)
                · skip
                  refine goes_ Try.func53 (by kernel_rfl) rfl #[.agg #[.slice Ao41 x323000_1.length co41, .slice Ao42 x323001_1.length co42, .slice Ao43 x323002_1.length co43], .int .i64 ((rd_T78 l0 x4_1).f1), .slice A333_2 ((rd_T78 l0 x4_1).f2).length c333_2] (by rfl) rfl rfl (by (try simp only [List.map_toArray, List.map_cons, List.map_nil]); first | done | rfl | (simp only [List.length_drop, List.length_take]; rfl)) ?_
                  with_reducible refine (newsreelref09_Write.calls k1 _ _ x323000_1 (fun k_ => ((w.heap.size ≤ k_) ∧ (some k_ ≠ (.slice Ao43 x323002_1.length co43 : Value).ownBlock ∧ (k_ ≠ gb321 ∧ k_ ≠ gb322)))) _ _ x323001_1 (fun k_ => ((w.heap.size ≤ k_) ∧ (k_ ≠ gb321 ∧ k_ ≠ gb322))) _ _ x323002_1 ((rd_T78 l0 x4_1).f1) _ _ ((rd_T78 l0 x4_1).f2) t335 t338 t341 t344 _ ?side1 ?side2 ?side3 ?side4 ?side5 ?side6 A21.out).mono ?_
                  (case side1 => exact Kd.C_y (Kd.V_reads' HO_323000.out).2.2)
                  (case side2 => exact (Kd.V_reads' HO_323000.out).2.1)
                  (case side3 => exact HO_323001.out)
                  (case side4 => exact Kd.N_V (HO_323002.out))
                  (case side5 => repeat (first | exact (Kd.C_below HR334_2.out HB.out) | exact HR334_2.out | (with_reducible refine Kd.C_alloc ?_ _) | (with_reducible refine Kd.C_drewN ?_ _) | (with_reducible refine Kd.C_drew ?_)))
                  (case side6 => exact HC334_2.out)
                  rintro e w45 ⟨v336, v339, v342, rfl, ho0, ho1, ho2, hb⟩
                  refine ⟨_, rfl, ?_⟩
                  have n0_ := Aside0.mk (Kd.V_mono (Kd.V_told (Kd.V_told (Kd.V_old (Kd.V_y HO_323000.out) hb) (Kd.R_base ho0)) (Kd.N_base ho2)) (fun _ h_ => h_.1))
                  have n1_ := Aside0.mk (Kd.V_mono (Kd.V_told (Kd.V_told (Kd.V_old (Kd.V_y HO_323001.out) hb) (Kd.R_base ho0)) (Kd.N_base ho2)) (fun _ h_ => h_.1))
                  have n2_ := Aside0.mk (Kd.N_mono (Kd.N_told (Kd.N_told (Kd.N_old (Kd.N_y HO_323002.out) hb) (Kd.R_base ho0)) (Kd.N_base ho2)) (fun _ h_ => h_.1))
                  have n3_ := Aside0.mk (Kd.R_lower (Kd.R_newM (M := fun k_ => (w.heap.size ≤ k_)) (Kd.R_mono (ok' := fun k_ => True) ho0 (fun _ hk_ => trivial)) (below_size (below_y HB.out)) (fun k_ h_ => h_)) (below_size (below_y HB.out)))
                  have n4_ := Aside0.mk (Kd.V_lower (Kd.V_mono (ok' := fun k_ => (w.heap.size ≤ k_) ∧ some k_ ≠ (v336 : Value).ownBlock ∧ some k_ ≠ (v342 : Value).ownBlock ∧ k_ ≠ gb321 ∧ k_ ≠ gb322) ho1 (fun k_ hk_ => ⟨Or.elim hk_.1 (fun hs_ => Or.elim hs_ (fun hs_ => hs_.1) (fun hs_ => hs_.1)) (fun hn_ => (Nat.le_trans (below_size (below_y HB.out)) hn_)), hk_.2.1, hk_.2.2, Or.elim hk_.1 (fun hs_ => Or.elim hs_ (fun hs_ => hs_.2.2.1) (fun hs_ => hs_.2.1)) (fun hn_ => (Kd.freshB (g := gb321) (o := .cells #[.slice none 0 0, .slice none 0 0, .slice none 0 0] 76 (0, 0)) (blk_y BK321.out) k_ hn_)), Or.elim hk_.1 (fun hs_ => Or.elim hs_ (fun hs_ => hs_.2.2.2) (fun hs_ => hs_.2.2)) (fun hn_ => (Kd.freshB (g := gb322) (o := .cells #[.slice Ao41 x323000_1.length co41, .slice Ao42 x323001_1.length co42, .slice Ao43 x323002_1.length co43] 76 (0, 0)) (blk_y BK322.out) k_ hn_))⟩)) (below_size (below_y HB.out)))
                  have n5_ := Aside0.mk (Kd.N_lower (Kd.N_mono (ok' := fun k_ => (w.heap.size ≤ k_) ∧ some k_ ≠ (v336 : Value).ownBlock ∧ k_ ≠ gb321 ∧ k_ ≠ gb322) ho2 (fun k_ hk_ => ⟨Or.elim hk_.1 (fun hs_ => Or.elim hs_ (fun hs_ => hs_.1) (fun hs_ => hs_.1)) (fun hn_ => (Nat.le_trans (below_size (below_y HB.out)) hn_)), hk_.2, Or.elim hk_.1 (fun hs_ => Or.elim hs_ (fun hs_ => hs_.2.2.1) (fun hs_ => hs_.2.1)) (fun hn_ => (Kd.freshB (g := gb321) (o := .cells #[.slice none 0 0, .slice none 0 0, .slice none 0 0] 76 (0, 0)) (blk_y BK321.out) k_ hn_)), Or.elim hk_.1 (fun hs_ => Or.elim hs_ (fun hs_ => hs_.2.2.2) (fun hs_ => hs_.2.2)) (fun hn_ => (Kd.freshB (g := gb322) (o := .cells #[.slice Ao41 x323000_1.length co41, .slice Ao42 x323001_1.length co42, .slice Ao43 x323002_1.length co43] 76 (0, 0)) (blk_y BK322.out) k_ hn_))⟩)) (below_size (below_y HB.out)))
                  have n6_ := Aside0.mk (blk_below (g := gb321) (o := .cells #[.slice none 0 0, .slice none 0 0, .slice none 0 0] 76 (0, 0)) (blk_y BK321.out) hb)
                  have n7_ := Aside0.mk (blk_below (g := gb322) (o := .cells #[.slice Ao41 x323000_1.length co41, .slice Ao42 x323001_1.length co42, .slice Ao43 x323002_1.length co43] 76 (0, 0)) (blk_y BK322.out) hb)
                  have n8_ := Aside0.mk (below_step (below_y HB.out) hb)
                  clear HO_323000
                  clear HO_323001
                  clear HO_323002
                  clear BK321
                  clear BK322
                  clear HB
                  have HO_323000 := n0_
                  have HO_323001 := n1_
                  have HO_323002 := n2_
                  have HO337 := n3_
                  have HO340 := n4_
                  have HO343 := n5_
                  have BK321 := n6_
                  have BK322 := n7_
                  have HB := n8_
                  clear n0_ n1_ n2_ n3_ n4_ n5_ n6_ n7_ n8_
                  (try clear hb)
                  (try clear hb2)
                  (try clear hk)
                  (try clear hi)
                  (try clear ho0)
                  (try clear ho1)
                  (try clear ho2)
                  refine hK.out _ _ ⟨(blk_cell BK322.out 0).trans rfl, (blk_cell BK322.out 1).trans rfl, (blk_cell BK322.out 2).trans rfl, ((HB.out.cell (World.block_lt_of_cell? w _ hw333_0)).trans hw333_0), ((HB.out.cell (World.block_lt_of_cell? w _ hw333_1)).trans hw333_1), ((HB.out.cell (World.block_lt_of_cell? w _ hw333_2)).trans hw333_2), ((HB.out.cell (World.block_lt_of_cell? w _ hw334_0)).trans hw334_0), ((HB.out.cell (World.block_lt_of_cell? w _ hw334_1)).trans hw334_1), ((HB.out.cell (World.block_lt_of_cell? w _ hw334_2)).trans hw334_2)⟩ (fun hHeld => ?_)
                  clear hK K
                  refine norm_ (a' := ?_) ?_ ?_
                  rotate_left
                  · show Act.put _ (some 33) _ = _
                    simp only [Act.put, List.setIfInBounds_toArray, List.set_cons_zero, List.set_cons_succ, i64_w, i32_w]
                    rfl
                  refine pure_ (i := 12) (N := some 21) (v := ?_) (a' := ?_) #[true, true, true, true, true, true, true, true, true, true, true, true, true, false, false, false, false, false] rfl rfl (any_of HT_.out (by kernel_rfl)) (fun _ _ _ h => h) (Or.inl ⟨by rfl, ?_⟩) ?_ ?_
                  rotate_left
                  · intro w'
                    go_simp
                    with_reducible rfl
                  rotate_left
                  · simp only [Act.put, List.setIfInBounds_toArray, List.set_cons_zero, List.set_cons_succ, i64_w, i32_w]
                    rfl
                  refine pure_ (i := 13) (N := some 34) (v := ?_) (a' := ?_) #[true, true, true, true, true, true, true, true, true, true, true, true, true, true, false, false, false, false] rfl rfl (any_of HT_.out (by kernel_rfl)) (fun _ _ _ h => h) (Or.inl ⟨by rfl, ?_⟩) ?_ ?_
                  rotate_left
                  · intro w'
                    go_simp
                    with_reducible rfl
                  rotate_left
                  · simp only [Act.put, List.setIfInBounds_toArray, List.set_cons_zero, List.set_cons_succ, i64_w, i32_w]
                    rfl
                  refine pure_ (i := 14) (N := some 35) (v := ?_) (a' := ?_) #[true, true, true, true, true, true, true, true, true, true, true, true, true, true, true, false, false, false] rfl rfl (any_of HT_.out (by kernel_rfl)) (fun _ _ _ h => h) (Or.inl ⟨by rfl, ?_⟩) ?_ ?_
                  rotate_left
                  · intro w'
                    go_simp
                    with_reducible rfl
                  rotate_left
                  · simp only [Act.put, List.setIfInBounds_toArray, List.set_cons_zero, List.set_cons_succ, i64_w, i32_w]
                    rfl
                  refine one_ (i := 15) (N := some 5) #[true, true, true, true, true, true, true, true, true, true, true, true, true, true, true, true, false, false] rfl rfl (one_of HT_.out (by kernel_rfl)) (by decide) (fun K hK => ?_)
                  refine box_step ?hg (N := 5) ?hd (cs := #[.slice none 0 0, .slice none 0 0, .slice none 0 0]) (t := 76) ?hr ?_; (case hd => rfl); (case hg => rfl); (case hr => first | (go_simp; done) | (go_simp; rfl))
                  intro gb345 hg w46 hbox hb
                  have n0_ := Aside0.mk (Kd.V_below (Kd.V_elderB (Kd.V_y HO_323000.out) gb345 (Nat.le_of_eq hg.symm)) hb)
                  have n1_ := Aside0.mk (Kd.V_below (Kd.V_elderB (Kd.V_y HO_323001.out) gb345 (Nat.le_of_eq hg.symm)) hb)
                  have n2_ := Aside0.mk (Kd.N_below (Kd.N_elderB (Kd.N_y HO_323002.out) gb345 (Nat.le_of_eq hg.symm)) hb)
                  have n3_ := Aside0.mk (Kd.R_below (Kd.R_y HO337.out) hb)
                  have n4_ := Aside0.mk (Kd.V_below (Kd.V_elderB (Kd.V_y HO340.out) gb345 (Nat.le_of_eq hg.symm)) hb)
                  have n5_ := Aside0.mk (Kd.N_below (Kd.N_elderB (Kd.N_y HO343.out) gb345 (Nat.le_of_eq hg.symm)) hb)
                  have n6_ := Aside0.mk (blk_below (g := gb321) (o := .cells #[.slice none 0 0, .slice none 0 0, .slice none 0 0] 76 (0, 0)) (blk_y BK321.out) hb)
                  have n7_ := Aside0.mk (blk_below (g := gb322) (o := .cells #[.slice Ao41 x323000_1.length co41, .slice Ao42 x323001_1.length co42, .slice Ao43 x323002_1.length co43] 76 (0, 0)) (blk_y BK322.out) hb)
                  have n8_ := Aside0.mk (below_step (below_y HB.out) hb)
                  have n9_ := Aside0.mk (hbox)
                  have n10_ := Aside0.mk ((by rw [hg]; exact (below_size (below_y HB.out)) : w.heap.size ≤ gb345))
                  have n11_ := Aside0.mk ((by rw [hg]; exact (below_size (below_y HB.out)) : w.heap.size ≤ gb345))
                  have n12_ := Aside0.mk ((by rw [hg]; exact Nat.ne_of_lt (blk_lt (g := gb321) (o := .cells #[.slice none 0 0, .slice none 0 0, .slice none 0 0] 76 (0, 0)) (blk_y BK321.out)) : gb321 ≠ gb345))
                  have n13_ := Aside0.mk ((by rw [hg]; exact Nat.ne_of_gt (blk_lt (g := gb321) (o := .cells #[.slice none 0 0, .slice none 0 0, .slice none 0 0] 76 (0, 0)) (blk_y BK321.out)) : gb345 ≠ gb321))
                  have n14_ := Aside0.mk ((by rw [hg]; exact Nat.ne_of_lt (blk_lt (g := gb322) (o := .cells #[.slice Ao41 x323000_1.length co41, .slice Ao42 x323001_1.length co42, .slice Ao43 x323002_1.length co43] 76 (0, 0)) (blk_y BK322.out)) : gb322 ≠ gb345))
                  have n15_ := Aside0.mk ((by rw [hg]; exact Nat.ne_of_gt (blk_lt (g := gb322) (o := .cells #[.slice Ao41 x323000_1.length co41, .slice Ao42 x323001_1.length co42, .slice Ao43 x323002_1.length co43] 76 (0, 0)) (blk_y BK322.out)) : gb345 ≠ gb322))
                  clear HO_323000
                  clear HO_323001
                  clear HO_323002
                  clear HO337
                  clear HO340
                  clear HO343
                  clear BK321
                  clear BK322
                  clear HB
                  have HO_323000 := n0_
                  have HO_323001 := n1_
                  have HO_323002 := n2_
                  have HO337 := n3_
                  have HO340 := n4_
                  have HO343 := n5_
                  have BK321 := n6_
                  have BK322 := n7_
                  have HB := n8_
                  have BK345 := n9_
                  have GW345 := n10_
                  have GE345 := n11_
                  have NB321_345 := n12_
                  have NB345_321 := n13_
                  have NB322_345 := n14_
                  have NB345_322 := n15_
                  clear n0_ n1_ n2_ n3_ n4_ n5_ n6_ n7_ n8_ n9_ n10_ n11_ n12_ n13_ n14_ n15_
                  clear hb hbox hg
                  refine hK.out _ _ ⟨(blk_cell BK322.out 0).trans rfl, (blk_cell BK322.out 1).trans rfl, (blk_cell BK322.out 2).trans rfl, ((HB.out.cell (World.block_lt_of_cell? w _ hw333_0)).trans hw333_0), ((HB.out.cell (World.block_lt_of_cell? w _ hw333_1)).trans hw333_1), ((HB.out.cell (World.block_lt_of_cell? w _ hw333_2)).trans hw333_2), ((HB.out.cell (World.block_lt_of_cell? w _ hw334_0)).trans hw334_0), ((HB.out.cell (World.block_lt_of_cell? w _ hw334_1)).trans hw334_1), ((HB.out.cell (World.block_lt_of_cell? w _ hw334_2)).trans hw334_2)⟩ (fun hHeld => ?_)
                  clear hK K
                  refine norm_ (a' := ?_) ?_ ?_
                  rotate_left
                  · show Act.put _ (some 5) _ = _
                    simp only [Act.put, List.setIfInBounds_toArray, List.set_cons_zero, List.set_cons_succ, i64_w, i32_w]
                    rfl
                  exact norm_ (by simp only [putAll, Act.put, List.setIfInBounds_toArray, List.set_cons_zero, List.set_cons_succ]) (hCont (v336, v339, v342, gb345) _ ⟨hHeld, (by (with_reducible repeat (first | apply Kd.R_alloc | apply Kd.R_drewN | apply Kd.R_drew)); exact Kd.R_mono HO337.out (fun _ hk => hk.1)), (by (with_reducible repeat (first | apply Kd.V_alloc | apply Kd.V_drewN | apply Kd.V_drew)); exact Kd.V_mono HO340.out (fun _ hk => ⟨hk.1.1, ⟨hk.1.2.1, ⟨hk.1.2.2.1, ⟨hk.1.2.2.2.1, ⟨hk.1.2.2.2.2, hk.2⟩⟩⟩⟩⟩)), (by (with_reducible repeat (first | apply Kd.N_alloc | apply Kd.N_drewN | apply Kd.N_drew)); exact Kd.N_mono HO343.out (fun _ hk => ⟨hk.1.1, ⟨hk.1.2.1, ⟨hk.1.2.2.1, ⟨hk.1.2.2.2, hk.2⟩⟩⟩⟩)), (by (with_reducible repeat (first | apply Kd.V_alloc | apply Kd.V_drewN | apply Kd.V_drew)); exact Kd.V_mono HO_323000.out (fun _ hk => ⟨hk.1.1.1.1, ⟨hk.1.1.2, ⟨hk.1.2, ⟨hk.1.1.1.2.1, ⟨hk.1.1.1.2.2.1, ⟨hk.1.1.1.2.2.2, hk.2⟩⟩⟩⟩⟩⟩)), (by (with_reducible repeat (first | apply Kd.V_alloc | apply Kd.V_drewN | apply Kd.V_drew)); exact Kd.V_mono HO_323001.out (fun _ hk => ⟨hk.1.1.1.1, ⟨hk.1.1.2, ⟨hk.1.2, ⟨hk.1.1.1.2.1, ⟨hk.1.1.1.2.2.1, ⟨hk.1.1.1.2.2.2, hk.2⟩⟩⟩⟩⟩⟩)), (by (with_reducible repeat (first | apply Kd.N_alloc | apply Kd.N_drewN | apply Kd.N_drew)); exact Kd.N_mono HO_323002.out (fun _ hk => ⟨hk.1.1.1.1, ⟨hk.1.1.2, ⟨hk.1.2, ⟨hk.1.1.1.2.1, ⟨hk.1.1.1.2.2, hk.2⟩⟩⟩⟩⟩)), (blk_y BK321.out), (blk_y BK322.out), (blk_y BK345.out), GW345.out, GE345.out, NB321_345.out, NB345_321.out, NB322_345.out, NB345_322.out, (below_y HB.out)⟩)
                · skip
                  refine box_step ?hg (N := 5) ?hd (cs := #[.slice none 0 0, .slice none 0 0, .slice none 0 0]) (t := 76) ?hr ?_; (case hd => rfl); (case hg => rfl); (case hr => first | (go_simp; done) | (go_simp; rfl))
                  intro gb345 hg w45 hbox hb
                  have n0_ := Aside0.mk (Kd.V_below (Kd.V_elderB (Kd.V_y HO_323000.out) gb345 (Nat.le_of_eq hg.symm)) hb)
                  have n1_ := Aside0.mk (Kd.V_below (Kd.V_elderB (Kd.V_y HO_323001.out) gb345 (Nat.le_of_eq hg.symm)) hb)
                  have n2_ := Aside0.mk (Kd.N_below (Kd.N_elderB (Kd.N_y HO_323002.out) gb345 (Nat.le_of_eq hg.symm)) hb)
                  have n3_ := Aside0.mk (blk_below (g := gb321) (o := .cells #[.slice none 0 0, .slice none 0 0, .slice none 0 0] 76 (0, 0)) (blk_y BK321.out) hb)
                  have n4_ := Aside0.mk (blk_below (g := gb322) (o := .cells #[.slice Ao41 x323000_1.length co41, .slice Ao42 x323001_1.length co42, .slice Ao43 x323002_1.length co43] 76 (0, 0)) (blk_y BK322.out) hb)
                  have n5_ := Aside0.mk (below_step (below_y HB.out) hb)
                  have n6_ := Aside0.mk (hbox)
                  have n7_ := Aside0.mk ((by rw [hg]; exact (below_size (below_y HB.out)) : w.heap.size ≤ gb345))
                  have n8_ := Aside0.mk ((by rw [hg]; exact (below_size (below_y HB.out)) : w.heap.size ≤ gb345))
                  have n9_ := Aside0.mk ((by rw [hg]; exact Nat.ne_of_lt (blk_lt (g := gb321) (o := .cells #[.slice none 0 0, .slice none 0 0, .slice none 0 0] 76 (0, 0)) (blk_y BK321.out)) : gb321 ≠ gb345))
                  have n10_ := Aside0.mk ((by rw [hg]; exact Nat.ne_of_gt (blk_lt (g := gb321) (o := .cells #[.slice none 0 0, .slice none 0 0, .slice none 0 0] 76 (0, 0)) (blk_y BK321.out)) : gb345 ≠ gb321))
                  have n11_ := Aside0.mk ((by rw [hg]; exact Nat.ne_of_lt (blk_lt (g := gb322) (o := .cells #[.slice Ao41 x323000_1.length co41, .slice Ao42 x323001_1.length co42, .slice Ao43 x323002_1.length co43] 76 (0, 0)) (blk_y BK322.out)) : gb322 ≠ gb345))
                  have n12_ := Aside0.mk ((by rw [hg]; exact Nat.ne_of_gt (blk_lt (g := gb322) (o := .cells #[.slice Ao41 x323000_1.length co41, .slice Ao42 x323001_1.length co42, .slice Ao43 x323002_1.length co43] 76 (0, 0)) (blk_y BK322.out)) : gb345 ≠ gb322))
                  clear HO_323000
                  clear HO_323001
                  clear HO_323002
                  clear BK321
                  clear BK322
                  clear HB
                  have HO_323000 := n0_
                  have HO_323001 := n1_
                  have HO_323002 := n2_
                  have BK321 := n3_
                  have BK322 := n4_
                  have HB := n5_
                  have BK345 := n6_
                  have GW345 := n7_
                  have GE345 := n8_
                  have NB321_345 := n9_
                  have NB345_321 := n10_
                  have NB322_345 := n11_
                  have NB345_322 := n12_
                  clear n0_ n1_ n2_ n3_ n4_ n5_ n6_ n7_ n8_ n9_ n10_ n11_ n12_
                  clear hb hbox hg
                  refine hK.out _ _ ⟨(blk_cell BK322.out 0).trans rfl, (blk_cell BK322.out 1).trans rfl, (blk_cell BK322.out 2).trans rfl, ((HB.out.cell (World.block_lt_of_cell? w _ hw333_0)).trans hw333_0), ((HB.out.cell (World.block_lt_of_cell? w _ hw333_1)).trans hw333_1), ((HB.out.cell (World.block_lt_of_cell? w _ hw333_2)).trans hw333_2), ((HB.out.cell (World.block_lt_of_cell? w _ hw334_0)).trans hw334_0), ((HB.out.cell (World.block_lt_of_cell? w _ hw334_1)).trans hw334_1), ((HB.out.cell (World.block_lt_of_cell? w _ hw334_2)).trans hw334_2)⟩ (fun hHeld => ?_)
                  clear hK K
                  refine norm_ (a' := ?_) ?_ ?_
                  rotate_left
                  · show Act.put _ (some 5) _ = _
                    simp only [Act.put, List.setIfInBounds_toArray, List.set_cons_zero, List.set_cons_succ, i64_w, i32_w]
                    rfl
                  refine one_ (i := 11) (N := some 33) #[true, true, true, true, true, true, true, true, true, true, true, true, false, false, false, true, false, false] rfl rfl (one_of HT_.out (by kernel_rfl)) (by decide) (fun K hK => ?_)
                  refine goes_ Try.func53 (by kernel_rfl) rfl #[.agg #[.slice Ao41 x323000_1.length co41, .slice Ao42 x323001_1.length co42, .slice Ao43 x323002_1.length co43], .int .i64 ((rd_T78 l0 x4_1).f1), .slice A333_2 ((rd_T78 l0 x4_1).f2).length c333_2] (by rfl) rfl rfl (by (try simp only [List.map_toArray, List.map_cons, List.map_nil]); first | done | rfl | (simp only [List.length_drop, List.length_take]; rfl)) ?_
                  with_reducible refine (newsreelref09_Write.calls k1 _ _ x323000_1 (fun k_ => (((w.heap.size ≤ k_) ∧ (some k_ ≠ (.slice Ao43 x323002_1.length co43 : Value).ownBlock ∧ (k_ ≠ gb321 ∧ k_ ≠ gb322))) ∧ k_ ≠ gb345)) _ _ x323001_1 (fun k_ => (((w.heap.size ≤ k_) ∧ (k_ ≠ gb321 ∧ k_ ≠ gb322)) ∧ k_ ≠ gb345)) _ _ x323002_1 ((rd_T78 l0 x4_1).f1) _ _ ((rd_T78 l0 x4_1).f2) t335 t338 t341 t344 _ ?side1 ?side2 ?side3 ?side4 ?side5 ?side6 A21.out).mono ?_
                  (case side1 => exact Kd.C_y (Kd.V_reads' HO_323000.out).2.2)
                  (case side2 => exact (Kd.V_reads' HO_323000.out).2.1)
                  (case side3 => exact HO_323001.out)
                  (case side4 => exact Kd.N_V (HO_323002.out))
                  (case side5 => repeat (first | exact (Kd.C_below HR334_2.out HB.out) | exact HR334_2.out | (with_reducible refine Kd.C_alloc ?_ _) | (with_reducible refine Kd.C_drewN ?_ _) | (with_reducible refine Kd.C_drew ?_)))
                  (case side6 => exact HC334_2.out)
                  rintro e w46 ⟨v336, v339, v342, rfl, ho0, ho1, ho2, hb⟩
                  refine ⟨_, rfl, ?_⟩
                  have n0_ := Aside0.mk (Kd.V_mono (Kd.V_told (Kd.V_told (Kd.V_old (Kd.V_y HO_323000.out) hb) (Kd.R_base ho0)) (Kd.N_base ho2)) (fun _ h_ => h_.1))
                  have n1_ := Aside0.mk (Kd.V_mono (Kd.V_told (Kd.V_told (Kd.V_old (Kd.V_y HO_323001.out) hb) (Kd.R_base ho0)) (Kd.N_base ho2)) (fun _ h_ => h_.1))
                  have n2_ := Aside0.mk (Kd.N_mono (Kd.N_told (Kd.N_told (Kd.N_old (Kd.N_y HO_323002.out) hb) (Kd.R_base ho0)) (Kd.N_base ho2)) (fun _ h_ => h_.1))
                  have n3_ := Aside0.mk (Kd.R_lower (Kd.R_newM (M := fun k_ => (w.heap.size ≤ k_)) (Kd.R_mono (ok' := fun k_ => True) ho0 (fun _ hk_ => trivial)) (below_size (below_y HB.out)) (fun k_ h_ => h_)) (below_size (below_y HB.out)))
                  have n4_ := Aside0.mk (Kd.V_lower (Kd.V_mono (ok' := fun k_ => (w.heap.size ≤ k_) ∧ some k_ ≠ (v336 : Value).ownBlock ∧ some k_ ≠ (v342 : Value).ownBlock ∧ k_ ≠ gb321 ∧ k_ ≠ gb322 ∧ k_ ≠ gb345) ho1 (fun k_ hk_ => ⟨Or.elim hk_.1 (fun hs_ => Or.elim hs_ (fun hs_ => hs_.1.1) (fun hs_ => hs_.1.1)) (fun hn_ => (Nat.le_trans (below_size (below_y HB.out)) hn_)), hk_.2.1, hk_.2.2, Or.elim hk_.1 (fun hs_ => Or.elim hs_ (fun hs_ => hs_.1.2.2.1) (fun hs_ => hs_.1.2.1)) (fun hn_ => (Kd.freshB (g := gb321) (o := .cells #[.slice none 0 0, .slice none 0 0, .slice none 0 0] 76 (0, 0)) (blk_y BK321.out) k_ hn_)), Or.elim hk_.1 (fun hs_ => Or.elim hs_ (fun hs_ => hs_.1.2.2.2) (fun hs_ => hs_.1.2.2)) (fun hn_ => (Kd.freshB (g := gb322) (o := .cells #[.slice Ao41 x323000_1.length co41, .slice Ao42 x323001_1.length co42, .slice Ao43 x323002_1.length co43] 76 (0, 0)) (blk_y BK322.out) k_ hn_)), Or.elim hk_.1 (fun hs_ => Or.elim hs_ (fun hs_ => hs_.2) (fun hs_ => hs_.2)) (fun hn_ => (Kd.freshB (g := gb345) (o := .cells #[.slice none 0 0, .slice none 0 0, .slice none 0 0] 76 (0, 0)) (blk_y BK345.out) k_ hn_))⟩)) (below_size (below_y HB.out)))
                  have n5_ := Aside0.mk (Kd.N_lower (Kd.N_mono (ok' := fun k_ => (w.heap.size ≤ k_) ∧ some k_ ≠ (v336 : Value).ownBlock ∧ k_ ≠ gb321 ∧ k_ ≠ gb322 ∧ k_ ≠ gb345) ho2 (fun k_ hk_ => ⟨Or.elim hk_.1 (fun hs_ => Or.elim hs_ (fun hs_ => hs_.1.1) (fun hs_ => hs_.1.1)) (fun hn_ => (Nat.le_trans (below_size (below_y HB.out)) hn_)), hk_.2, Or.elim hk_.1 (fun hs_ => Or.elim hs_ (fun hs_ => hs_.1.2.2.1) (fun hs_ => hs_.1.2.1)) (fun hn_ => (Kd.freshB (g := gb321) (o := .cells #[.slice none 0 0, .slice none 0 0, .slice none 0 0] 76 (0, 0)) (blk_y BK321.out) k_ hn_)), Or.elim hk_.1 (fun hs_ => Or.elim hs_ (fun hs_ => hs_.1.2.2.2) (fun hs_ => hs_.1.2.2)) (fun hn_ => (Kd.freshB (g := gb322) (o := .cells #[.slice Ao41 x323000_1.length co41, .slice Ao42 x323001_1.length co42, .slice Ao43 x323002_1.length co43] 76 (0, 0)) (blk_y BK322.out) k_ hn_)), Or.elim hk_.1 (fun hs_ => Or.elim hs_ (fun hs_ => hs_.2) (fun hs_ => hs_.2)) (fun hn_ => (Kd.freshB (g := gb345) (o := .cells #[.slice none 0 0, .slice none 0 0, .slice none 0 0] 76 (0, 0)) (blk_y BK345.out) k_ hn_))⟩)) (below_size (below_y HB.out)))
                  have n6_ := Aside0.mk (blk_below (g := gb321) (o := .cells #[.slice none 0 0, .slice none 0 0, .slice none 0 0] 76 (0, 0)) (blk_y BK321.out) hb)
                  have n7_ := Aside0.mk (blk_below (g := gb322) (o := .cells #[.slice Ao41 x323000_1.length co41, .slice Ao42 x323001_1.length co42, .slice Ao43 x323002_1.length co43] 76 (0, 0)) (blk_y BK322.out) hb)
                  have n8_ := Aside0.mk (blk_below (g := gb345) (o := .cells #[.slice none 0 0, .slice none 0 0, .slice none 0 0] 76 (0, 0)) (blk_y BK345.out) hb)
                  have n9_ := Aside0.mk (below_step (below_y HB.out) hb)
                  clear HO_323000
                  clear HO_323001
                  clear HO_323002
                  clear BK321
                  clear BK322
                  clear BK345
                  clear HB
                  have HO_323000 := n0_
                  have HO_323001 := n1_
                  have HO_323002 := n2_
                  have HO337 := n3_
                  have HO340 := n4_
                  have HO343 := n5_
                  have BK321 := n6_
                  have BK322 := n7_
                  have BK345 := n8_
                  have HB := n9_
                  clear n0_ n1_ n2_ n3_ n4_ n5_ n6_ n7_ n8_ n9_
                  (try clear hb)
                  (try clear hb2)
                  (try clear hk)
                  (try clear hi)
                  (try clear ho0)
                  (try clear ho1)
                  (try clear ho2)
                  refine hK.out _ _ ⟨(blk_cell BK322.out 0).trans rfl, (blk_cell BK322.out 1).trans rfl, (blk_cell BK322.out 2).trans rfl, ((HB.out.cell (World.block_lt_of_cell? w _ hw333_0)).trans hw333_0), ((HB.out.cell (World.block_lt_of_cell? w _ hw333_1)).trans hw333_1), ((HB.out.cell (World.block_lt_of_cell? w _ hw333_2)).trans hw333_2), ((HB.out.cell (World.block_lt_of_cell? w _ hw334_0)).trans hw334_0), ((HB.out.cell (World.block_lt_of_cell? w _ hw334_1)).trans hw334_1), ((HB.out.cell (World.block_lt_of_cell? w _ hw334_2)).trans hw334_2)⟩ (fun hHeld => ?_)
                  clear hK K
                  refine norm_ (a' := ?_) ?_ ?_
                  rotate_left
                  · show Act.put _ (some 33) _ = _
                    simp only [Act.put, List.setIfInBounds_toArray, List.set_cons_zero, List.set_cons_succ, i64_w, i32_w]
                    rfl
                  refine pure_ (i := 12) (N := some 21) (v := ?_) (a' := ?_) #[true, true, true, true, true, true, true, true, true, true, true, true, true, false, false, true, false, false] rfl rfl (any_of HT_.out (by kernel_rfl)) (fun _ _ _ h => h) (Or.inl ⟨by rfl, ?_⟩) ?_ ?_
                  rotate_left
                  · intro w'
                    go_simp
                    with_reducible rfl
                  rotate_left
                  · simp only [Act.put, List.setIfInBounds_toArray, List.set_cons_zero, List.set_cons_succ, i64_w, i32_w]
                    rfl
                  refine pure_ (i := 13) (N := some 34) (v := ?_) (a' := ?_) #[true, true, true, true, true, true, true, true, true, true, true, true, true, true, false, true, false, false] rfl rfl (any_of HT_.out (by kernel_rfl)) (fun _ _ _ h => h) (Or.inl ⟨by rfl, ?_⟩) ?_ ?_
                  rotate_left
                  · intro w'
                    go_simp
                    with_reducible rfl
                  rotate_left
                  · simp only [Act.put, List.setIfInBounds_toArray, List.set_cons_zero, List.set_cons_succ, i64_w, i32_w]
                    rfl
                  refine pure_ (i := 14) (N := some 35) (v := ?_) (a' := ?_) #[true, true, true, true, true, true, true, true, true, true, true, true, true, true, true, true, false, false] rfl rfl (any_of HT_.out (by kernel_rfl)) (fun _ _ _ h => h) (Or.inl ⟨by rfl, ?_⟩) ?_ ?_
                  rotate_left
                  · intro w'
                    go_simp
                    with_reducible rfl
                  rotate_left
                  · simp only [Act.put, List.setIfInBounds_toArray, List.set_cons_zero, List.set_cons_succ, i64_w, i32_w]
                    rfl
                  exact norm_ (by simp only [putAll, Act.put, List.setIfInBounds_toArray, List.set_cons_zero, List.set_cons_succ]) (hCont (v336, v339, v342, gb345) _ ⟨hHeld, (by (with_reducible repeat (first | apply Kd.R_alloc | apply Kd.R_drewN | apply Kd.R_drew)); exact Kd.R_mono HO337.out (fun _ hk => hk.1)), (Kd.V_y HO340.out), (Kd.N_y HO343.out), (by (with_reducible repeat (first | apply Kd.V_alloc | apply Kd.V_drewN | apply Kd.V_drew)); exact Kd.V_mono HO_323000.out (fun _ hk => ⟨hk.1.1.1.1, ⟨hk.1.2, ⟨hk.2, ⟨hk.1.1.1.2.1, ⟨hk.1.1.1.2.2.1, ⟨hk.1.1.1.2.2.2, hk.1.1.2⟩⟩⟩⟩⟩⟩)), (by (with_reducible repeat (first | apply Kd.V_alloc | apply Kd.V_drewN | apply Kd.V_drew)); exact Kd.V_mono HO_323001.out (fun _ hk => ⟨hk.1.1.1.1, ⟨hk.1.2, ⟨hk.2, ⟨hk.1.1.1.2.1, ⟨hk.1.1.1.2.2.1, ⟨hk.1.1.1.2.2.2, hk.1.1.2⟩⟩⟩⟩⟩⟩)), (by (with_reducible repeat (first | apply Kd.N_alloc | apply Kd.N_drewN | apply Kd.N_drew)); exact Kd.N_mono HO_323002.out (fun _ hk => ⟨hk.1.1.1.1, ⟨hk.1.2, ⟨hk.2, ⟨hk.1.1.1.2.1, ⟨hk.1.1.1.2.2, hk.1.1.2⟩⟩⟩⟩⟩)), (blk_y BK321.out), (blk_y BK322.out), (blk_y BK345.out), GW345.out, GE345.out, NB321_345.out, NB345_321.out, NB322_345.out, NB345_322.out, (below_y HB.out)⟩)
              rintro ⟨v336, v339, v342, gb345⟩ w47 ⟨hS_, h0_, h1_, h2_, h3_, h4_, h5_, h6_, h7_, h8_, h9_, h10_, h11_, h12_, h13_, h14_, h15_⟩
              have n0_ : Aside0 (Kd.R (Kd.int .u8) 5 w47 w.heap.size (fun k_ => (w.heap.size ≤ k_)) v336 t335) := ⟨h0_⟩
              have n1_ : Aside0 (Kd.V (Kd.int .u8) 5 w47 w.heap.size (fun k_ => (w.heap.size ≤ k_) ∧ some k_ ≠ (v336 : Value).ownBlock ∧ some k_ ≠ (v342 : Value).ownBlock ∧ k_ ≠ gb321 ∧ k_ ≠ gb322 ∧ k_ ≠ gb345) v339 t338) := ⟨h1_⟩
              have n2_ : Aside0 (Kd.N k46 46 w47 w.heap.size (fun k_ => (w.heap.size ≤ k_) ∧ some k_ ≠ (v336 : Value).ownBlock ∧ k_ ≠ gb321 ∧ k_ ≠ gb322 ∧ k_ ≠ gb345) v342 t341) := ⟨h2_⟩
              have n3_ : Aside0 (Kd.V (Kd.int .u8) 5 w47 w.heap.size (fun k_ => (w.heap.size ≤ k_) ∧ some k_ ≠ (v336 : Value).ownBlock ∧ some k_ ≠ (v342 : Value).ownBlock ∧ some k_ ≠ (.slice Ao43 x323002_1.length co43 : Value).ownBlock ∧ k_ ≠ gb321 ∧ k_ ≠ gb322 ∧ k_ ≠ gb345) (.slice Ao41 x323000_1.length co41) x323000_1) := ⟨h3_⟩
              have n4_ : Aside0 (Kd.V (Kd.int .u8) 5 w47 w.heap.size (fun k_ => (w.heap.size ≤ k_) ∧ some k_ ≠ (v336 : Value).ownBlock ∧ some k_ ≠ (v342 : Value).ownBlock ∧ some k_ ≠ (.slice Ao43 x323002_1.length co43 : Value).ownBlock ∧ k_ ≠ gb321 ∧ k_ ≠ gb322 ∧ k_ ≠ gb345) (.slice Ao42 x323001_1.length co42) x323001_1) := ⟨h4_⟩
              have n5_ : Aside0 (Kd.N k46 46 w47 w.heap.size (fun k_ => (w.heap.size ≤ k_) ∧ some k_ ≠ (v336 : Value).ownBlock ∧ some k_ ≠ (v342 : Value).ownBlock ∧ k_ ≠ gb321 ∧ k_ ≠ gb322 ∧ k_ ≠ gb345) (.slice Ao43 x323002_1.length co43) x323002_1) := ⟨h5_⟩
              have n6_ : Aside0 (w47.heap[gb321]? = some (.cells #[.slice none 0 0, .slice none 0 0, .slice none 0 0] 76 (0, 0))) := ⟨h6_⟩
              have n7_ : Aside0 (w47.heap[gb322]? = some (.cells #[.slice Ao41 x323000_1.length co41, .slice Ao42 x323001_1.length co42, .slice Ao43 x323002_1.length co43] 76 (0, 0))) := ⟨h7_⟩
              have n8_ : Aside0 (w47.heap[gb345]? = some (.cells #[.slice none 0 0, .slice none 0 0, .slice none 0 0] 76 (0, 0))) := ⟨h8_⟩
              have n9_ : Aside0 (w.heap.size ≤ gb345) := ⟨h9_⟩
              have n10_ : Aside0 (w.heap.size ≤ gb345) := ⟨h10_⟩
              have n11_ : Aside0 (gb321 ≠ gb345) := ⟨h11_⟩
              have n12_ : Aside0 (gb345 ≠ gb321) := ⟨h12_⟩
              have n13_ : Aside0 (gb322 ≠ gb345) := ⟨h13_⟩
              have n14_ : Aside0 (gb345 ≠ gb322) := ⟨h14_⟩
              have n15_ : Aside0 (Below w.heap.size w w47) := ⟨h15_⟩
              clear HO_323000
              clear HO_323001
              clear HO_323002
              clear BK321
              clear BK322
              clear HB
              clear h0_ h1_ h2_ h3_ h4_ h5_ h6_ h7_ h8_ h9_ h10_ h11_ h12_ h13_ h14_ h15_
              have HO337 := n0_
              have HO340 := n1_
              have HO343 := n2_
              have HO_323000 := n3_
              have HO_323001 := n4_
              have HO_323002 := n5_
              have BK321 := n6_
              have BK322 := n7_
              have BK345 := n8_
              have GW345 := n9_
              have GE345 := n10_
              have NB321_345 := n11_
              have NB345_321 := n12_
              have NB322_345 := n13_
              have NB345_322 := n14_
              have HB := n15_
              clear n0_ n1_ n2_ n3_ n4_ n5_ n6_ n7_ n8_ n9_ n10_ n11_ n12_ n13_ n14_ n15_
              have hHeld : w47.cell? ⟨gb322, 0, none⟩ = some (.slice Ao41 x323000_1.length co41) ∧ w47.cell? ⟨gb322, 1, none⟩ = some (.slice Ao42 x323001_1.length co42) ∧ w47.cell? ⟨gb322, 2, none⟩ = some (.slice Ao43 x323002_1.length co43) ∧ w47.cell? (ad323.add ((x4_1).toNat * 3)) = some (.bool (false)) ∧ w47.cell? ⟨(ad323.add ((x4_1).toNat * 3)).block, (ad323.add ((x4_1).toNat * 3)).off + 1, none⟩ = some (.int .i64 ((rd_T78 l0 x4_1).f1)) ∧ w47.cell? ⟨(ad323.add ((x4_1).toNat * 3)).block, (ad323.add ((x4_1).toNat * 3)).off + 2, none⟩ = some (.slice A333_2 ((rd_T78 l0 x4_1).f2).length c333_2) ∧ w47.cell? (ad323.add ((x4_1).toNat * 3)) = some (.bool (false)) ∧ w47.cell? ⟨(ad323.add ((x4_1).toNat * 3)).block, (ad323.add ((x4_1).toNat * 3)).off + 1, none⟩ = some (.int .i64 ((rd_T78 l0 x4_1).f1)) ∧ w47.cell? ⟨(ad323.add ((x4_1).toNat * 3)).block, (ad323.add ((x4_1).toNat * 3)).off + 2, none⟩ = some (.slice A333_2 ((rd_T78 l0 x4_1).f2).length c333_2) := hS_
              obtain ⟨Ao48, co48, eo48⟩ := Kd.R_slice HO337.out
              (first | subst eo48 | (injection eo48 with f1_ f2_ f3_; have f4_ := f1_.symm; have f5_ := f3_.symm; clear f1_ f2_ f3_; subst f4_; subst f5_))
              obtain ⟨Ao50, co50, eo50⟩ := Kd.V_slice HO340.out
              (first | subst eo50 | (injection eo50 with f1_ f2_ f3_; have f4_ := f1_.symm; have f5_ := f3_.symm; clear f1_ f2_ f3_; subst f4_; subst f5_))
              obtain ⟨Ao52, co52, eo52⟩ := Kd.N_slice HO343.out
              (first | subst eo52 | (injection eo52 with f1_ f2_ f3_; have f4_ := f1_.symm; have f5_ := f3_.symm; clear f1_ f2_ f3_; subst f4_; subst f5_))
              refine norm_ (a' := ?_) ?_ ?_
              rotate_left
              · simp only [putAll, Act.put, List.setIfInBounds_toArray, List.set_cons_zero, List.set_cons_succ]
                rfl
              refine one_ (i := 16) (N := none) #[true, true, true, true, true, true, true, true, true, true, true, true, true, true, true, true, true, false] rfl rfl (one_of HT_.out (by kernel_rfl)) (by decide) (fun K hK => ?_)
              have hs49 : w47.cell? ⟨gb345, 0, none⟩ = some (.slice none 0 0) := (blk_cell BK345.out 0).trans rfl
              have hfs49 := blk_frozen BK345.out 0
              have hns49_0 := NB321_345.out
              have hns49_1 := NB322_345.out
              have hms49_0 := NB345_321.out
              have hms49_1 := NB345_322.out
              have hs51 : w47.cell? ⟨gb345, 1, none⟩ = some (.slice none 0 0) := (blk_cell BK345.out 1).trans rfl
              have hfs51 := blk_frozen BK345.out 1
              have hns51_0 := NB321_345.out
              have hns51_1 := NB322_345.out
              have hms51_0 := NB345_321.out
              have hms51_1 := NB345_322.out
              have hs53 : w47.cell? ⟨gb345, 2, none⟩ = some (.slice none 0 0) := (blk_cell BK345.out 2).trans rfl
              have hfs53 := blk_frozen BK345.out 2
              have hns53_0 := NB321_345.out
              have hns53_1 := NB322_345.out
              have hms53_0 := NB345_321.out
              have hms53_1 := NB345_322.out
              refine skip_ (w1 := ?_) (by rfl) rfl ?_ ?_
              rotate_left
              · go_simp
                rfl
              refine hK.out _ _ ⟨((cell_far (p := ⟨gb345, _, none⟩) NB322_345.out _).trans (((cell_far (p := ⟨gb345, _, none⟩) NB322_345.out _).trans (((cell_far (p := ⟨gb345, _, none⟩) NB322_345.out _).trans (hHeld.1)))))), ((cell_far (p := ⟨gb345, _, none⟩) NB322_345.out _).trans (((cell_far (p := ⟨gb345, _, none⟩) NB322_345.out _).trans (((cell_far (p := ⟨gb345, _, none⟩) NB322_345.out _).trans (hHeld.2.1)))))), ((cell_far (p := ⟨gb345, _, none⟩) NB322_345.out _).trans (((cell_far (p := ⟨gb345, _, none⟩) NB322_345.out _).trans (((cell_far (p := ⟨gb345, _, none⟩) NB322_345.out _).trans (hHeld.2.2.1)))))), ((cell_far (p := ⟨gb345, _, none⟩) (by first | exact Nat.ne_of_lt (Nat.lt_of_lt_of_le (by have := World.block_lt_of_cell? _ _ hw333_0; first | rwa [add_block] at this | exact this) GW345.out) | (rw [add_block]; exact Nat.ne_of_lt (Nat.lt_of_lt_of_le (by have := World.block_lt_of_cell? _ _ hw333_0; first | rwa [add_block] at this | exact this) GW345.out)) | (show (Addr.add _ _).block ≠ _; rw [add_block]; exact Nat.ne_of_lt (Nat.lt_of_lt_of_le (by have := World.block_lt_of_cell? _ _ hw333_0; first | rwa [add_block] at this | exact this) GW345.out)) | (dsimp only; exact Nat.ne_of_lt (Nat.lt_of_lt_of_le (by have := World.block_lt_of_cell? _ _ hw333_0; first | rwa [add_block] at this | exact this) GW345.out))) _).trans (((cell_far (p := ⟨gb345, _, none⟩) (by first | exact Nat.ne_of_lt (Nat.lt_of_lt_of_le (by have := World.block_lt_of_cell? _ _ hw333_0; first | rwa [add_block] at this | exact this) GW345.out) | (rw [add_block]; exact Nat.ne_of_lt (Nat.lt_of_lt_of_le (by have := World.block_lt_of_cell? _ _ hw333_0; first | rwa [add_block] at this | exact this) GW345.out)) | (show (Addr.add _ _).block ≠ _; rw [add_block]; exact Nat.ne_of_lt (Nat.lt_of_lt_of_le (by have := World.block_lt_of_cell? _ _ hw333_0; first | rwa [add_block] at this | exact this) GW345.out)) | (dsimp only; exact Nat.ne_of_lt (Nat.lt_of_lt_of_le (by have := World.block_lt_of_cell? _ _ hw333_0; first | rwa [add_block] at this | exact this) GW345.out))) _).trans (((cell_far (p := ⟨gb345, _, none⟩) (by first | exact Nat.ne_of_lt (Nat.lt_of_lt_of_le (by have := World.block_lt_of_cell? _ _ hw333_0; first | rwa [add_block] at this | exact this) GW345.out) | (rw [add_block]; exact Nat.ne_of_lt (Nat.lt_of_lt_of_le (by have := World.block_lt_of_cell? _ _ hw333_0; first | rwa [add_block] at this | exact this) GW345.out)) | (show (Addr.add _ _).block ≠ _; rw [add_block]; exact Nat.ne_of_lt (Nat.lt_of_lt_of_le (by have := World.block_lt_of_cell? _ _ hw333_0; first | rwa [add_block] at this | exact this) GW345.out)) | (dsimp only; exact Nat.ne_of_lt (Nat.lt_of_lt_of_le (by have := World.block_lt_of_cell? _ _ hw333_0; first | rwa [add_block] at this | exact this) GW345.out))) _).trans (hHeld.2.2.2.1)))))), ((cell_far (p := ⟨gb345, _, none⟩) (by first | exact Nat.ne_of_lt (Nat.lt_of_lt_of_le (by have := World.block_lt_of_cell? _ _ hw333_1; first | rwa [add_block] at this | exact this) GW345.out) | (rw [add_block]; exact Nat.ne_of_lt (Nat.lt_of_lt_of_le (by have := World.block_lt_of_cell? _ _ hw333_1; first | rwa [add_block] at this | exact this) GW345.out)) | (show (Addr.add _ _).block ≠ _; rw [add_block]; exact Nat.ne_of_lt (Nat.lt_of_lt_of_le (by have := World.block_lt_of_cell? _ _ hw333_1; first | rwa [add_block] at this | exact this) GW345.out)) | (dsimp only; exact Nat.ne_of_lt (Nat.lt_of_lt_of_le (by have := World.block_lt_of_cell? _ _ hw333_1; first | rwa [add_block] at this | exact this) GW345.out))) _).trans (((cell_far (p := ⟨gb345, _, none⟩) (by first | exact Nat.ne_of_lt (Nat.lt_of_lt_of_le (by have := World.block_lt_of_cell? _ _ hw333_1; first | rwa [add_block] at this | exact this) GW345.out) | (rw [add_block]; exact Nat.ne_of_lt (Nat.lt_of_lt_of_le (by have := World.block_lt_of_cell? _ _ hw333_1; first | rwa [add_block] at this | exact this) GW345.out)) | (show (Addr.add _ _).block ≠ _; rw [add_block]; exact Nat.ne_of_lt (Nat.lt_of_lt_of_le (by have := World.block_lt_of_cell? _ _ hw333_1; first | rwa [add_block] at this | exact this) GW345.out)) | (dsimp only; exact Nat.ne_of_lt (Nat.lt_of_lt_of_le (by have := World.block_lt_of_cell? _ _ hw333_1; first | rwa [add_block] at this | exact this) GW345.out))) _).trans (((cell_far (p := ⟨gb345, _, none⟩) (by first | exact Nat.ne_of_lt (Nat.lt_of_lt_of_le (by have := World.block_lt_of_cell? _ _ hw333_1; first | rwa [add_block] at this | exact this) GW345.out) | (rw [add_block]; exact Nat.ne_of_lt (Nat.lt_of_lt_of_le (by have := World.block_lt_of_cell? _ _ hw333_1; first | rwa [add_block] at this | exact this) GW345.out)) | (show (Addr.add _ _).block ≠ _; rw [add_block]; exact Nat.ne_of_lt (Nat.lt_of_lt_of_le (by have := World.block_lt_of_cell? _ _ hw333_1; first | rwa [add_block] at this | exact this) GW345.out)) | (dsimp only; exact Nat.ne_of_lt (Nat.lt_of_lt_of_le (by have := World.block_lt_of_cell? _ _ hw333_1; first | rwa [add_block] at this | exact this) GW345.out))) _).trans (hHeld.2.2.2.2.1)))))), ((cell_far (p := ⟨gb345, _, none⟩) (by first | exact Nat.ne_of_lt (Nat.lt_of_lt_of_le (by have := World.block_lt_of_cell? _ _ hw333_2; first | rwa [add_block] at this | exact this) GW345.out) | (rw [add_block]; exact Nat.ne_of_lt (Nat.lt_of_lt_of_le (by have := World.block_lt_of_cell? _ _ hw333_2; first | rwa [add_block] at this | exact this) GW345.out)) | (show (Addr.add _ _).block ≠ _; rw [add_block]; exact Nat.ne_of_lt (Nat.lt_of_lt_of_le (by have := World.block_lt_of_cell? _ _ hw333_2; first | rwa [add_block] at this | exact this) GW345.out)) | (dsimp only; exact Nat.ne_of_lt (Nat.lt_of_lt_of_le (by have := World.block_lt_of_cell? _ _ hw333_2; first | rwa [add_block] at this | exact this) GW345.out))) _).trans (((cell_far (p := ⟨gb345, _, none⟩) (by first | exact Nat.ne_of_lt (Nat.lt_of_lt_of_le (by have := World.block_lt_of_cell? _ _ hw333_2; first | rwa [add_block] at this | exact this) GW345.out) | (rw [add_block]; exact Nat.ne_of_lt (Nat.lt_of_lt_of_le (by have := World.block_lt_of_cell? _ _ hw333_2; first | rwa [add_block] at this | exact this) GW345.out)) | (show (Addr.add _ _).block ≠ _; rw [add_block]; exact Nat.ne_of_lt (Nat.lt_of_lt_of_le (by have := World.block_lt_of_cell? _ _ hw333_2; first | rwa [add_block] at this | exact this) GW345.out)) | (dsimp only; exact Nat.ne_of_lt (Nat.lt_of_lt_of_le (by have := World.block_lt_of_cell? _ _ hw333_2; first | rwa [add_block] at this | exact this) GW345.out))) _).trans (((cell_far (p := ⟨gb345, _, none⟩) (by first | exact Nat.ne_of_lt (Nat.lt_of_lt_of_le (by have := World.block_lt_of_cell? _ _ hw333_2; first | rwa [add_block] at this | exact this) GW345.out) | (rw [add_block]; exact Nat.ne_of_lt (Nat.lt_of_lt_of_le (by have := World.block_lt_of_cell? _ _ hw333_2; first | rwa [add_block] at this | exact this) GW345.out)) | (show (Addr.add _ _).block ≠ _; rw [add_block]; exact Nat.ne_of_lt (Nat.lt_of_lt_of_le (by have := World.block_lt_of_cell? _ _ hw333_2; first | rwa [add_block] at this | exact this) GW345.out)) | (dsimp only; exact Nat.ne_of_lt (Nat.lt_of_lt_of_le (by have := World.block_lt_of_cell? _ _ hw333_2; first | rwa [add_block] at this | exact this) GW345.out))) _).trans (hHeld.2.2.2.2.2.1)))))), ((cell_far (p := ⟨gb345, _, none⟩) (by first | exact Nat.ne_of_lt (Nat.lt_of_lt_of_le (by have := World.block_lt_of_cell? _ _ hw334_0; first | rwa [add_block] at this | exact this) GW345.out) | (rw [add_block]; exact Nat.ne_of_lt (Nat.lt_of_lt_of_le (by have := World.block_lt_of_cell? _ _ hw334_0; first | rwa [add_block] at this | exact this) GW345.out)) | (show (Addr.add _ _).block ≠ _; rw [add_block]; exact Nat.ne_of_lt (Nat.lt_of_lt_of_le (by have := World.block_lt_of_cell? _ _ hw334_0; first | rwa [add_block] at this | exact this) GW345.out)) | (dsimp only; exact Nat.ne_of_lt (Nat.lt_of_lt_of_le (by have := World.block_lt_of_cell? _ _ hw334_0; first | rwa [add_block] at this | exact this) GW345.out))) _).trans (((cell_far (p := ⟨gb345, _, none⟩) (by first | exact Nat.ne_of_lt (Nat.lt_of_lt_of_le (by have := World.block_lt_of_cell? _ _ hw334_0; first | rwa [add_block] at this | exact this) GW345.out) | (rw [add_block]; exact Nat.ne_of_lt (Nat.lt_of_lt_of_le (by have := World.block_lt_of_cell? _ _ hw334_0; first | rwa [add_block] at this | exact this) GW345.out)) | (show (Addr.add _ _).block ≠ _; rw [add_block]; exact Nat.ne_of_lt (Nat.lt_of_lt_of_le (by have := World.block_lt_of_cell? _ _ hw334_0; first | rwa [add_block] at this | exact this) GW345.out)) | (dsimp only; exact Nat.ne_of_lt (Nat.lt_of_lt_of_le (by have := World.block_lt_of_cell? _ _ hw334_0; first | rwa [add_block] at this | exact this) GW345.out))) _).trans (((cell_far (p := ⟨gb345, _, none⟩) (by first | exact Nat.ne_of_lt (Nat.lt_of_lt_of_le (by have := World.block_lt_of_cell? _ _ hw334_0; first | rwa [add_block] at this | exact this) GW345.out) | (rw [add_block]; exact Nat.ne_of_lt (Nat.lt_of_lt_of_le (by have := World.block_lt_of_cell? _ _ hw334_0; first | rwa [add_block] at this | exact this) GW345.out)) | (show (Addr.add _ _).block ≠ _; rw [add_block]; exact Nat.ne_of_lt (Nat.lt_of_lt_of_le (by have := World.block_lt_of_cell? _ _ hw334_0; first | rwa [add_block] at this | exact this) GW345.out)) | (dsimp only; exact Nat.ne_of_lt (Nat.lt_of_lt_of_le (by have := World.block_lt_of_cell? _ _ hw334_0; first | rwa [add_block] at this | exact this) GW345.out))) _).trans (hHeld.2.2.2.2.2.2.1)))))), ((cell_far (p := ⟨gb345, _, none⟩) (by first | exact Nat.ne_of_lt (Nat.lt_of_lt_of_le (by have := World.block_lt_of_cell? _ _ hw334_1; first | rwa [add_block] at this | exact this) GW345.out) | (rw [add_block]; exact Nat.ne_of_lt (Nat.lt_of_lt_of_le (by have := World.block_lt_of_cell? _ _ hw334_1; first | rwa [add_block] at this | exact this) GW345.out)) | (show (Addr.add _ _).block ≠ _; rw [add_block]; exact Nat.ne_of_lt (Nat.lt_of_lt_of_le (by have := World.block_lt_of_cell? _ _ hw334_1; first | rwa [add_block] at this | exact this) GW345.out)) | (dsimp only; exact Nat.ne_of_lt (Nat.lt_of_lt_of_le (by have := World.block_lt_of_cell? _ _ hw334_1; first | rwa [add_block] at this | exact this) GW345.out))) _).trans (((cell_far (p := ⟨gb345, _, none⟩) (by first | exact Nat.ne_of_lt (Nat.lt_of_lt_of_le (by have := World.block_lt_of_cell? _ _ hw334_1; first | rwa [add_block] at this | exact this) GW345.out) | (rw [add_block]; exact Nat.ne_of_lt (Nat.lt_of_lt_of_le (by have := World.block_lt_of_cell? _ _ hw334_1; first | rwa [add_block] at this | exact this) GW345.out)) | (show (Addr.add _ _).block ≠ _; rw [add_block]; exact Nat.ne_of_lt (Nat.lt_of_lt_of_le (by have := World.block_lt_of_cell? _ _ hw334_1; first | rwa [add_block] at this | exact this) GW345.out)) | (dsimp only; exact Nat.ne_of_lt (Nat.lt_of_lt_of_le (by have := World.block_lt_of_cell? _ _ hw334_1; first | rwa [add_block] at this | exact this) GW345.out))) _).trans (((cell_far (p := ⟨gb345, _, none⟩) (by first | exact Nat.ne_of_lt (Nat.lt_of_lt_of_le (by have := World.block_lt_of_cell? _ _ hw334_1; first | rwa [add_block] at this | exact this) GW345.out) | (rw [add_block]; exact Nat.ne_of_lt (Nat.lt_of_lt_of_le (by have := World.block_lt_of_cell? _ _ hw334_1; first | rwa [add_block] at this | exact this) GW345.out)) | (show (Addr.add _ _).block ≠ _; rw [add_block]; exact Nat.ne_of_lt (Nat.lt_of_lt_of_le (by have := World.block_lt_of_cell? _ _ hw334_1; first | rwa [add_block] at this | exact this) GW345.out)) | (dsimp only; exact Nat.ne_of_lt (Nat.lt_of_lt_of_le (by have := World.block_lt_of_cell? _ _ hw334_1; first | rwa [add_block] at this | exact this) GW345.out))) _).trans (hHeld.2.2.2.2.2.2.2.1)))))), ((cell_far (p := ⟨gb345, _, none⟩) (by first | exact Nat.ne_of_lt (Nat.lt_of_lt_of_le (by have := World.block_lt_of_cell? _ _ hw334_2; first | rwa [add_block] at this | exact this) GW345.out) | (rw [add_block]; exact Nat.ne_of_lt (Nat.lt_of_lt_of_le (by have := World.block_lt_of_cell? _ _ hw334_2; first | rwa [add_block] at this | exact this) GW345.out)) | (show (Addr.add _ _).block ≠ _; rw [add_block]; exact Nat.ne_of_lt (Nat.lt_of_lt_of_le (by have := World.block_lt_of_cell? _ _ hw334_2; first | rwa [add_block] at this | exact this) GW345.out)) | (dsimp only; exact Nat.ne_of_lt (Nat.lt_of_lt_of_le (by have := World.block_lt_of_cell? _ _ hw334_2; first | rwa [add_block] at this | exact this) GW345.out))) _).trans (((cell_far (p := ⟨gb345, _, none⟩) (by first | exact Nat.ne_of_lt (Nat.lt_of_lt_of_le (by have := World.block_lt_of_cell? _ _ hw334_2; first | rwa [add_block] at this | exact this) GW345.out) | (rw [add_block]; exact Nat.ne_of_lt (Nat.lt_of_lt_of_le (by have := World.block_lt_of_cell? _ _ hw334_2; first | rwa [add_block] at this | exact this) GW345.out)) | (show (Addr.add _ _).block ≠ _; rw [add_block]; exact Nat.ne_of_lt (Nat.lt_of_lt_of_le (by have := World.block_lt_of_cell? _ _ hw334_2; first | rwa [add_block] at this | exact this) GW345.out)) | (dsimp only; exact Nat.ne_of_lt (Nat.lt_of_lt_of_le (by have := World.block_lt_of_cell? _ _ hw334_2; first | rwa [add_block] at this | exact this) GW345.out))) _).trans (((cell_far (p := ⟨gb345, _, none⟩) (by first | exact Nat.ne_of_lt (Nat.lt_of_lt_of_le (by have := World.block_lt_of_cell? _ _ hw334_2; first | rwa [add_block] at this | exact this) GW345.out) | (rw [add_block]; exact Nat.ne_of_lt (Nat.lt_of_lt_of_le (by have := World.block_lt_of_cell? _ _ hw334_2; first | rwa [add_block] at this | exact this) GW345.out)) | (show (Addr.add _ _).block ≠ _; rw [add_block]; exact Nat.ne_of_lt (Nat.lt_of_lt_of_le (by have := World.block_lt_of_cell? _ _ hw334_2; first | rwa [add_block] at this | exact this) GW345.out)) | (dsimp only; exact Nat.ne_of_lt (Nat.lt_of_lt_of_le (by have := World.block_lt_of_cell? _ _ hw334_2; first | rwa [add_block] at this | exact this) GW345.out))) _).trans (hHeld.2.2.2.2.2.2.2.2))))))⟩ (fun hHeld => ?_)
              clear hK K
              refine pure_ (i := 17) (N := some 6) (v := ?_) (a' := ?_) #[true, true, true, true, true, true, true, true, true, true, true, true, true, true, true, true, true, true] rfl rfl (any_of HT_.out (by kernel_rfl)) (fun _ _ _ h => h) (Or.inl ⟨by rfl, ?_⟩) ?_ ?_
              rotate_left
              · intro w'
                go_simp
                with_reducible rfl
              rotate_left
              · simp only [Act.put, List.setIfInBounds_toArray, List.set_cons_zero, List.set_cons_succ, i64_w, i32_w]
                rfl
              refine done_ (done_of HT_.out (by kernel_rfl)) ?_
              try go_wp2
              go_roundg k1
              case measure => have := HK1.out; omega
              case rel => exact ⟨(wrap64 (x4_1 + 1)), (x323000_1), (x323001_1), (x323002_1), (.slice Ao41 x323000_1.length co41), (.slice Ao42 x323001_1.length co42), (.slice Ao43 x323002_1.length co43), (by first | rfl | (simp; done) | (simp [*]; done)), H', ⟨by have := HK1.out; omega⟩, ⟨by (with_reducible repeat (first | apply Kd.V_alloc | apply Kd.V_drewN | apply Kd.V_drew)); exact Kd.V_mono (Kd.V_far (p := ⟨gb345, 2, none⟩) (Kd.V_far (p := ⟨gb345, 1, none⟩) (Kd.V_far (p := ⟨gb345, 0, none⟩) (Kd.V_mono HO_323000.out (fun k_ hk => (⟨hk, hk.2.2.2.2.2.2⟩ : _ ∧ k_ ≠ gb345))) (fun _ hk => hk.2) (.slice Ao48 t335.length co48)) (fun _ hk => hk.2) (.slice Ao50 t338.length co50)) (fun _ hk => hk.2) (.slice Ao52 t341.length co52)) (fun _ hk => ⟨hk.1.1, ⟨hk.1.2.2.2.1, ⟨hk.1.2.2.2.2.1, hk.1.2.2.2.2.2.1⟩⟩⟩)⟩, ⟨by (with_reducible repeat (first | apply Kd.V_alloc | apply Kd.V_drewN | apply Kd.V_drew)); exact Kd.V_mono (Kd.V_far (p := ⟨gb345, 2, none⟩) (Kd.V_far (p := ⟨gb345, 1, none⟩) (Kd.V_far (p := ⟨gb345, 0, none⟩) (Kd.V_mono HO_323001.out (fun k_ hk => (⟨hk, hk.2.2.2.2.2.2⟩ : _ ∧ k_ ≠ gb345))) (fun _ hk => hk.2) (.slice Ao48 t335.length co48)) (fun _ hk => hk.2) (.slice Ao50 t338.length co50)) (fun _ hk => hk.2) (.slice Ao52 t341.length co52)) (fun _ hk => ⟨hk.1.1, ⟨hk.1.2.2.2.1, ⟨hk.1.2.2.2.2.1, hk.1.2.2.2.2.2.1⟩⟩⟩)⟩, ⟨by (with_reducible repeat (first | apply Kd.N_alloc | apply Kd.N_drewN | apply Kd.N_drew)); exact Kd.N_mono (Kd.N_far (p := ⟨gb345, 2, none⟩) (Kd.N_far (p := ⟨gb345, 1, none⟩) (Kd.N_far (p := ⟨gb345, 0, none⟩) (Kd.N_mono HO_323002.out (fun k_ hk => (⟨hk, hk.2.2.2.2.2⟩ : _ ∧ k_ ≠ gb345))) (fun _ hk => hk.2) (.slice Ao48 t335.length co48)) (fun _ hk => hk.2) (.slice Ao50 t338.length co50)) (fun _ hk => hk.2) (.slice Ao52 t341.length co52)) (fun _ hk => ⟨hk.1.1, ⟨hk.1.2.2.2.1, hk.1.2.2.2.2.1⟩⟩)⟩, ⟨by (with_reducible repeat (first | refine blk_drewN ?_ _ | refine blk_drew ?_ | refine blk_alloc ?_ _)); refine blk_far ?_ NB321_345.out _; (with_reducible repeat (first | refine blk_drewN ?_ _ | refine blk_drew ?_ | refine blk_alloc ?_ _)); refine blk_far ?_ NB321_345.out _; (with_reducible repeat (first | refine blk_drewN ?_ _ | refine blk_drew ?_ | refine blk_alloc ?_ _)); refine blk_far ?_ NB321_345.out _; (with_reducible repeat (first | refine blk_drewN ?_ _ | refine blk_drew ?_ | refine blk_alloc ?_ _)); exact BK321.out⟩, ⟨by (with_reducible repeat (first | refine blk_drewN ?_ _ | refine blk_drew ?_ | refine blk_alloc ?_ _)); refine blk_far ?_ NB322_345.out _; (with_reducible repeat (first | refine blk_drewN ?_ _ | refine blk_drew ?_ | refine blk_alloc ?_ _)); refine blk_far ?_ NB322_345.out _; (with_reducible repeat (first | refine blk_drewN ?_ _ | refine blk_drew ?_ | refine blk_alloc ?_ _)); refine blk_far ?_ NB322_345.out _; (with_reducible repeat (first | refine blk_drewN ?_ _ | refine blk_drew ?_ | refine blk_alloc ?_ _)); exact BK322.out⟩, ⟨by repeat (first | (with_reducible first | exact HB.out | apply below_alloc | apply pw_below_drewN | apply below_drew1 | refine below_set ?_ GE321.out | refine below_set ?_ GE322.out | refine below_set ?_ GE345.out) | exact HB.out)⟩⟩
        · rw [if_neg c7] at H
          exact absurd H (by simp)
      · rw [if_neg c6] at H
        have c6b0 : decide (x4_1 < (l0.length : Int)) = false := decide_eq_false c6
        clear c6
        simp only [Option.some.injEq, Prod.mk.injEq] at H
        obtain ⟨rfl, rfl, rfl⟩ := H
        have hnb54 := NB322_321.out
        have hnc54 := NB321_322.out
        have hcz55_0 : wr.cell? ⟨gb322, 0, none⟩ = some (u323000) := (blk_cell BK322.out 0).trans rfl
        have hcz55_1 : wr.cell? ⟨gb322, 1, none⟩ = some (u323001) := (blk_cell BK322.out 1).trans rfl
        have hcz55_2 : wr.cell? ⟨gb322, 2, none⟩ = some (u323002) := (blk_cell BK322.out 2).trans rfl
        have hfz55_0 := blk_frozen BK322.out 0
        have hfz55_1 := blk_frozen BK322.out 1
        have hfz55_2 := blk_frozen BK322.out 2
        obtain ⟨Ao56, co56, eo56⟩ := Kd.V_slice HO_323000.out
        subst eo56
        have hcz57_0 : wr.cell? ⟨gb321, 0, none⟩ = some (.slice none 0 0) := (blk_cell BK321.out 0).trans rfl
        have hcz57_1 : wr.cell? ⟨gb321, 1, none⟩ = some (.slice none 0 0) := (blk_cell BK321.out 1).trans rfl
        have hcz57_2 : wr.cell? ⟨gb321, 2, none⟩ = some (.slice none 0 0) := (blk_cell BK321.out 2).trans rfl
        have hfz57_0 := blk_frozen BK321.out 0
        have hfz57_1 := blk_frozen BK321.out 1
        have hfz57_2 := blk_frozen BK321.out 2
        obtain ⟨Ao58, co58, eo58⟩ := Kd.V_slice HO_323001.out
        subst eo58
        obtain ⟨Ao59, co59, eo59⟩ := Kd.N_slice HO_323002.out
        subst eo59
        go_wp2
        refine bodyPost_ret (results_cell_row rfl _ _ gb321 76 #[.slice Ao56 x323000_1.length co56, .slice Ao58 x323001_1.length co58, .slice Ao59 x323002_1.length co59] (0, 0) _ rfl (by (with_reducible repeat (first | refine blk_drewN ?_ _ | refine blk_drew ?_ | refine blk_alloc ?_ _)); refine blk_put (cs := #[.slice Ao56 x323000_1.length co56, .slice Ao58 x323001_1.length co58, .slice none 0 0]) ?_ 2 _ rfl; (with_reducible repeat (first | refine blk_drewN ?_ _ | refine blk_drew ?_ | refine blk_alloc ?_ _)); refine blk_put (cs := #[.slice Ao56 x323000_1.length co56, .slice none 0 0, .slice none 0 0]) ?_ 1 _ rfl; (with_reducible repeat (first | refine blk_drewN ?_ _ | refine blk_drew ?_ | refine blk_alloc ?_ _)); refine blk_put (cs := #[.slice none 0 0, .slice none 0 0, .slice none 0 0]) ?_ 0 _ rfl; (with_reducible repeat (first | refine blk_drewN ?_ _ | refine blk_drew ?_ | refine blk_alloc ?_ _)); exact BK321.out) Try.underlying76 rfl (by kernel_rfl)) rfl ?_
        exact ⟨_, _, _, by first | rfl | (simp [errW_none, errW_some] <;> rfl) | (simp [*, errW_none, errW_some] <;> rfl), by (with_reducible repeat (first | apply Kd.V_alloc | apply Kd.V_drewN | apply Kd.V_drew)); exact Kd.V_mono (Kd.V_far (p := ⟨gb321, 2, none⟩) (Kd.V_far (p := ⟨gb321, 1, none⟩) (Kd.V_far (p := ⟨gb321, 0, none⟩) (Kd.V_mono HO_323000.out (fun k_ hk => (⟨hk, hk.2.2.1⟩ : _ ∧ k_ ≠ gb321))) (fun _ hk => hk.2) (.slice Ao56 x323000_1.length co56)) (fun _ hk => hk.2) (.slice Ao58 x323001_1.length co58)) (fun _ hk => hk.2) (.slice Ao59 x323002_1.length co59)) (fun _ hk => ⟨hk.1.1, hk.1.2.1⟩), by (with_reducible repeat (first | apply Kd.V_alloc | apply Kd.V_drewN | apply Kd.V_drew)); exact Kd.V_mono (Kd.V_far (p := ⟨gb321, 2, none⟩) (Kd.V_far (p := ⟨gb321, 1, none⟩) (Kd.V_far (p := ⟨gb321, 0, none⟩) (Kd.V_mono HO_323001.out (fun k_ hk => (⟨hk, hk.2.2.1⟩ : _ ∧ k_ ≠ gb321))) (fun _ hk => hk.2) (.slice Ao56 x323000_1.length co56)) (fun _ hk => hk.2) (.slice Ao58 x323001_1.length co58)) (fun _ hk => hk.2) (.slice Ao59 x323002_1.length co59)) (fun _ hk => ⟨hk.1.1, hk.1.2.1⟩), by (with_reducible repeat (first | apply Kd.N_alloc | apply Kd.N_drewN | apply Kd.N_drew)); exact Kd.N_mono (Kd.N_far (p := ⟨gb321, 2, none⟩) (Kd.N_far (p := ⟨gb321, 1, none⟩) (Kd.N_far (p := ⟨gb321, 0, none⟩) (Kd.N_mono HO_323002.out (fun k_ hk => (⟨hk, hk.2.1⟩ : _ ∧ k_ ≠ gb321))) (fun _ hk => hk.2) (.slice Ao56 x323000_1.length co56)) (fun _ hk => hk.2) (.slice Ao58 x323001_1.length co58)) (fun _ hk => hk.2) (.slice Ao59 x323002_1.length co59)) (fun _ hk => hk.1.1), by repeat (first | (with_reducible first | exact HB.out | apply below_alloc | apply pw_below_drewN | apply below_drew1 | refine below_set ?_ GE321.out | refine below_set ?_ GE322.out) | exact HB.out)⟩

end Go.Proofs.Ytkkikdjfigffhaa.XFic
