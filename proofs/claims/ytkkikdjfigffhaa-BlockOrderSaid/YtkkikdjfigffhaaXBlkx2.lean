-- By a program of this work (xprint.py) over the translation; Lean checks it.
import Derived.Test.YtkkikdjfigffhaaXBlkx0
import Derived.Test.YtkkikdjfigffhaaXBlkx1
namespace Go.Proofs.Ytkkikdjfigffhaa.XBlk
open Go.RowKit Go.Proofs.YtkkikdjfigffhaaW.PrintWords Go.Proofs.YtkkikdjfigffhaaW.PrintLast Go.Proofs.YtkkikdjfigffhaaW.PrintMore
attribute [local go_sem] max2_int min2_int max_two min_two max_three min_three max_four min_four   -- for this text's walks alone
set_option linter.unusedVariables false
set_option linter.unusedSimpArgs false

/-! ### newsreellaw08_awake: function 29 -/
def newsreellaw08_awake.j0 : Nat → List (S46) → Bool → Option (Bool)
  | 0, _, _ => none
  | k + 1, x1, x25 => if x25 = true then (some false) else (if 0 < (x1.length : Int) then (if ((rd_T46 x1 0).f0) = 10 then (if (((rd_T46 x1 0).f1).length : Int) = 6 then (if 1 < (x1.length : Int) then (if ((rd_T46 x1 1).f0) = 16 then (if (((rd_T46 x1 1).f1).length : Int) = 14 then ((block_Lay.f (([1] : List Int)) (([(⟨3, (([9] : List Int))⟩ : S46)] : List (S46)))).bind fun t145 => ((newsreelref01_Bytes.f t145 (([1, 0, 0, 9] : List Int))).bind fun t151 => (some t151))) else (some false)) else (some false)) else (none)) else (some false)) else (some false)) else (none))
def newsreellaw08_awake.f (k : Nat)  : Option (Bool) := if 20 ≤ 281474976710656 then ((block_Pieces.f k 10 (List.replicate 20 0)).bind fun bt121 => ((block_Pieces.f k 65536 (([1] : List Int))).bind fun bt128 => (if bt121.2 = 0 then (if (bt121.1.length : Int) = 2 then (newsreellaw08_awake.j0 k bt121.1 (bt128.2 != 4)) else (newsreellaw08_awake.j0 k bt121.1 true)) else (newsreellaw08_awake.j0 k bt121.1 true)))) else (none)
theorem newsreellaw08_awake.mono_l : ∀ k, (∀ y0 y1, LeO (newsreellaw08_awake.j0 k y0 y1) (newsreellaw08_awake.j0 (k + 1) y0 y1))
  | 0 => fun _ _ r h => by simp [newsreellaw08_awake.j0] at h
  | k + 1 => by
    have ih0 := newsreellaw08_awake.mono_l k
    · intro y0 y1
      unfold newsreellaw08_awake.j0
      repeat' first
      | (with_reducible exact ih0 _ _)
      | (with_reducible exact block_Pieces.mono _ _ _)
      | (with_reducible exact LeO.refl _)
      | (with_reducible exact LeO.none _)
      | (with_reducible refine LeO.ite ?_ ?_)
      | (with_reducible refine LeO.bind ?_ (fun _ => ?_))
      | exact ih0 _ _
      | exact block_Pieces.mono _ _ _
      | exact LeO.none _
      | refine LeO.ite ?_ ?_
      | refine LeO.bind ?_ (fun _ => ?_)
theorem newsreellaw08_awake.mono : ∀ k, LeO (newsreellaw08_awake.f k ) (newsreellaw08_awake.f (k + 1) ) := by
  intro  k
  have ih0 := newsreellaw08_awake.mono_l k
  unfold newsreellaw08_awake.f
  repeat' first
      | (with_reducible exact ih0 _ _)
      | (with_reducible exact block_Pieces.mono _ _ _)
      | (with_reducible exact LeO.refl _)
      | (with_reducible exact LeO.none _)
      | (with_reducible refine LeO.ite ?_ ?_)
      | (with_reducible refine LeO.bind ?_ (fun _ => ?_))
      | exact ih0 _ _
      | exact block_Pieces.mono _ _ _
      | exact LeO.none _
      | refine LeO.ite ?_ ?_
      | refine LeO.bind ?_ (fun _ => ?_)
set_option maxHeartbeats 8000000 in
set_option maxRecDepth 100000 in
theorem newsreellaw08_awake.calls (k : Nat)  (r : Bool) (w : World) (h : newsreellaw08_awake.f k  = some r) :
    Calls Try.prog 29 #[] w fun e w' => e = .returned (.bool r) ∧ Below w.heap.size w w' := by
  have hu46 := Try.underlying46
  have HB := Aside0.mk (Below.refl w.heap.size w)
  have H : (if 20 ≤ 281474976710656 then ((block_Pieces.f k 10 (List.replicate 20 0)).bind fun bt121 => ((block_Pieces.f k 65536 (([1] : List Int))).bind fun bt128 => (if bt121.2 = 0 then (if (bt121.1.length : Int) = 2 then (newsreellaw08_awake.j0 k bt121.1 (bt128.2 != 4)) else (newsreellaw08_awake.j0 k bt121.1 true)) else (newsreellaw08_awake.j0 k bt121.1 true)))) else (none)) = some r := h
  clear h
  by_cases c1 : 20 ≤ 281474976710656
  · rw [if_pos c1] at H
    have c1b0 := eq_true c1
    have c1b1 : decide (20 ≤ 281474976710656) = true := decide_eq_true c1
    clear c1
    obtain ⟨y118, hy118⟩ : ∃ y_ : List Int, y_ = (List.replicate 20 0) := ⟨_, rfl⟩
    replace H : ((block_Pieces.f k 10 y118).bind fun bt121 => ((block_Pieces.f k 65536 (([1] : List Int))).bind fun bt128 => (if bt121.2 = 0 then (if (bt121.1.length : Int) = 2 then (newsreellaw08_awake.j0 k bt121.1 (bt128.2 != 4)) else (newsreellaw08_awake.j0 k bt121.1 true)) else (newsreellaw08_awake.j0 k bt121.1 true)))) = some r := by first | (rw [hy118]; with_reducible exact H) | (have H2_ := (Option.bind_some _ _).symm.trans H; rw [hy118]; with_reducible exact H2_) | (have H2_ := (Option.bind_some _ _).symm.trans H; with_reducible exact H2_) | with_reducible exact H | (rw [hy118]; exact H) | exact H
    have Ny118 := Aside0.mk hy118
    clear hy118
    replace H := Option.bind_eq_some_iff.mp H
    obtain ⟨⟨t121, t124⟩, A20, H⟩ := H
    replace H : ((block_Pieces.f k 65536 (([1] : List Int))).bind fun bt128 => (if t124 = 0 then (if (t121.length : Int) = 2 then (newsreellaw08_awake.j0 k t121 (bt128.2 != 4)) else (newsreellaw08_awake.j0 k t121 true)) else (newsreellaw08_awake.j0 k t121 true))) = some r := H
    have A2 := Aside0.mk A20
    clear A20
    obtain ⟨y125, hy125⟩ : ∃ y_ : List Int, y_ = (([1] : List Int)) := ⟨_, rfl⟩
    replace H : ((block_Pieces.f k 65536 y125).bind fun bt128 => (if t124 = 0 then (if (t121.length : Int) = 2 then (newsreellaw08_awake.j0 k t121 (bt128.2 != 4)) else (newsreellaw08_awake.j0 k t121 true)) else (newsreellaw08_awake.j0 k t121 true))) = some r := by first | (rw [hy125]; with_reducible exact H) | (have H2_ := (Option.bind_some _ _).symm.trans H; rw [hy125]; with_reducible exact H2_) | (have H2_ := (Option.bind_some _ _).symm.trans H; with_reducible exact H2_) | with_reducible exact H | (rw [hy125]; exact H) | exact H
    have Ny125 := Aside0.mk hy125
    clear hy125
    replace H := Option.bind_eq_some_iff.mp H
    obtain ⟨⟨t128, t131⟩, A30, H⟩ := H
    replace H : (if t124 = 0 then (if (t121.length : Int) = 2 then (newsreellaw08_awake.j0 k t121 (t131 != 4)) else (newsreellaw08_awake.j0 k t121 true)) else (newsreellaw08_awake.j0 k t121 true)) = some r := H
    have A3 := Aside0.mk A30
    clear A30
    have HC4 := Aside0.mk H
    clear H
    go_enter Try.func29, Try.ntmps29
    go_upto_region 3 with (first | ((with_reducible refine gate_dst (N := 6) rfl ?_); (try (refine gate_guard (by rfl) ?_; dsimp only)); refine Kd.R_make (Kd.int .u8) _ 5 rfl (N := 6) rfl 27 _ _ rfl 20 rfl rfl Try.underlying27 (.int .u8 0) 1 info5 rfl (by decide) (by omega) 0 (ok := fun _ => True) (okp := fun _ => True) rfl (fun _ hk => hk) trivial (by omega) (by omega) (Below.refl _ _) (Nat.le_refl _) ?_; intro v119 w5 ho6 hb hg_ hnew_; clear hg_ hnew_; (first | rw [← Ny118.out] at ho6 | (simp only [Int.reduceToNat] at ho6; rw [← Ny118.out] at ho6)); have n0_ := Aside0.mk (Kd.R_lower ho6 (below_size (by repeat (first | (with_reducible first | exact HB.out | apply below_alloc | apply pw_below_drewN | apply below_drew1) | exact HB.out)))); have n1_ := Aside0.mk (below_step (by repeat (first | (with_reducible first | exact HB.out | apply below_alloc | apply pw_below_drewN | apply below_drew1) | exact HB.out)) hb); clear HB; have HO120 := n0_; have HB := n1_; clear n0_ n1_; clear hb ho6; obtain ⟨Ao7, co7, eo7⟩ := Kd.R_slice HO120.out; subst eo7) | ((with_reducible refine gate_callee (f := 30) rfl ?_); refine goesL_ (some 7) rfl rfl Try.func30 (by kernel_rfl) rfl #[.int .i64 10, .slice Ao7 y118.length co7] rfl (by (try simp only [List.map_toArray, List.map_cons, List.map_nil]); first | done | rfl | (simp only [List.length_drop, List.length_take]; rfl)) ?_; (with_reducible refine (block_Pieces.calls k 10 (fun k_ => some k_ = (.slice Ao7 y118.length co7 : Value).ownBlock) _ _ y118 t121 t124 _ ?side1 A2.out).mono ?_); (case side1 => exact Kd.R_V (Kd.R_tight rfl (HO120.out))); rintro e w8 ⟨v122, rfl, ho0, hb⟩; refine ⟨_, rfl, ?_⟩; have n0_ := Aside0.mk (Kd.R_below (by (with_reducible repeat (first | apply Kd.R_alloc | apply Kd.R_drewN | apply Kd.R_drew)); exact HO120.out) hb); have n1_ := Aside0.mk (Kd.N_lower (Kd.N_mono (ok' := fun k_ => True) (Kd.S_N ho0) (fun k_ hk_ => trivial)) (below_size (by repeat (first | (with_reducible first | exact HB.out | apply below_alloc | apply pw_below_drewN | apply below_drew1) | exact HB.out)))); have n2_ := Aside0.mk (below_step (by repeat (first | (with_reducible first | exact HB.out | apply below_alloc | apply pw_below_drewN | apply below_drew1) | exact HB.out)) hb); clear HO120; clear HB; have HO120 := n0_; have HO123 := n1_; have HB := n2_; clear n0_ n1_ n2_; (try clear hb); (try clear hb2); (try clear hk); (try clear hi); (try clear ho0)) | ((with_reducible refine gate_dst (N := 11) rfl ?_); (try (refine gate_guard (by rfl) ?_; dsimp only)); refine Kd.R_lit (Kd.int .u8) _ 5 ?hg (N := 11) ?hd (xs := ([1] : List Int)) (inner := [.int .u8 1]) (ok := fun _ => True) (okp := fun _ => True) ?hr ?hp (fun _ hk => hk) trivial (Below.refl _ _) (Nat.le_refl _) (by simp) ?_; (case hd => rfl); (case hg => rfl); (case hr => first | (go_simp; done) | (go_simp; rfl)); (case hp => exact (Reps.one (show Kd.M (Kd.int .u8) _ _ _ 1 [.int .u8 1] from rfl) (Reps.none _ _))); intro v126 w9 ho10 hb hg_ hnew_; clear hg_ hnew_; (first | rw [← Ny125.out] at ho10 | (simp only [Int.reduceToNat] at ho10; rw [← Ny125.out] at ho10)); have n0_ := Aside0.mk (Kd.R_elder' (by (with_reducible repeat (first | apply Kd.R_alloc | apply Kd.R_drewN | apply Kd.R_drew)); exact HO120.out) (Kd.R_base ho10) hb); have n1_ := Aside0.mk (Kd.N_elder' (by (with_reducible repeat (first | apply Kd.N_alloc | apply Kd.N_drewN | apply Kd.N_drew)); exact HO123.out) (Kd.R_base ho10) hb); have n2_ := Aside0.mk (Kd.R_lower (Kd.R_new' ho10 (Kd.R_lt (by (with_reducible repeat (first | apply Kd.R_alloc | apply Kd.R_drewN | apply Kd.R_drew)); exact HO120.out))) (below_size (by repeat (first | (with_reducible first | exact HB.out | apply below_alloc | apply pw_below_drewN | apply below_drew1) | exact HB.out)))); have n3_ := Aside0.mk (below_step (by repeat (first | (with_reducible first | exact HB.out | apply below_alloc | apply pw_below_drewN | apply below_drew1) | exact HB.out)) hb); clear HO120; clear HO123; clear HB; have HO120 := n0_; have HO123 := n1_; have HO127 := n2_; have HB := n3_; clear n0_ n1_ n2_ n3_; clear hb ho10; obtain ⟨Ao11, co11, eo11⟩ := Kd.R_slice HO127.out; subst eo11) | ((with_reducible refine gate_callee (f := 30) rfl ?_); refine goesL_ (some 12) rfl rfl Try.func30 (by kernel_rfl) rfl #[.int .i64 65536, .slice Ao11 y125.length co11] rfl (by (try simp only [List.map_toArray, List.map_cons, List.map_nil]); first | done | rfl | (simp only [List.length_drop, List.length_take]; rfl)) ?_; (with_reducible refine (block_Pieces.calls k 65536 (fun k_ => some k_ = (.slice Ao11 y125.length co11 : Value).ownBlock) _ _ y125 t128 t131 _ ?side1 A3.out).mono ?_); (case side1 => exact Kd.R_V (Kd.R_tight rfl (Kd.R_apart' (HO127.out) (Kd.N_typed HO123.out) (by decide)))); rintro e w12 ⟨v129, rfl, ho0, hb⟩; refine ⟨_, rfl, ?_⟩; have n0_ := Aside0.mk (Kd.R_below (by (with_reducible repeat (first | apply Kd.R_alloc | apply Kd.R_drewN | apply Kd.R_drew)); exact HO120.out) hb); have n1_ := Aside0.mk (Kd.N_elder' (by (with_reducible repeat (first | apply Kd.N_alloc | apply Kd.N_drewN | apply Kd.N_drew)); exact HO123.out) (Kd.S_base ho0) hb); have n2_ := Aside0.mk (Kd.R_below (by (with_reducible repeat (first | apply Kd.R_alloc | apply Kd.R_drewN | apply Kd.R_drew)); exact HO127.out) hb); have n3_ := Aside0.mk (Kd.N_lower (Kd.N_mono (ok' := fun k_ => some k_ ≠ (.slice Ao7 y118.length co7 : Value).ownBlock ∧ some k_ ≠ (v122 : Value).ownBlock) (Kd.S_N ho0) (fun k_ hk_ => ⟨(fun hn_ => (Kd.fresh' (Kd.R_lt (by (with_reducible repeat (first | apply Kd.R_alloc | apply Kd.R_drewN | apply Kd.R_drew)); exact HO120.out)) k_ hn_)) hk_, (fun hn_ => (Kd.fresh' (Kd.N_lt (by (with_reducible repeat (first | apply Kd.N_alloc | apply Kd.N_drewN | apply Kd.N_drew)); exact HO123.out)) k_ hn_)) hk_⟩)) (below_size (by repeat (first | (with_reducible first | exact HB.out | apply below_alloc | apply pw_below_drewN | apply below_drew1) | exact HB.out)))); have n4_ := Aside0.mk (below_step (by repeat (first | (with_reducible first | exact HB.out | apply below_alloc | apply pw_below_drewN | apply below_drew1) | exact HB.out)) hb); clear HO120; clear HO123; clear HO127; clear HB; have HO120 := n0_; have HO123 := n1_; have HO127 := n2_; have HO130 := n3_; have HB := n4_; clear n0_ n1_ n2_ n3_ n4_; (try clear hb); (try clear hb2); (try clear hk); (try clear hi); (try clear ho0)))
    (try simp only [Act.put, List.setIfInBounds_toArray, List.set_cons_zero, List.set_cons_succ])
    go_cut [25] (fun v25 wc => ∃ (kq : Nat) (x25_3 : Bool), v25 = .bool x25_3 ∧ Aside0 (newsreellaw08_awake.j0 kq t121 x25_3 = some r) ∧ Aside0 (kq ≤ k) ∧ Aside0 (Kd.N k46 46 wc w.heap.size (fun _ => True) v122 t121) ∧ Aside0 (Below w.heap.size w wc))
    case first =>
      have H := HC4.out
      clear HC4
      by_cases c13 : t124 = 0
      · rw [if_pos c13] at H
        have c13b0 : (t124 == 0) = true := beq_iff_eq.mpr c13
        have c13b1 : (t124 != 0) = false := bne_eq_false_iff_eq.mpr c13
        clear c13
        (first | rw [c13b0] | (simp only [i64_w, i32_w]; rw [c13b0]) | skip)
        by_cases c14 : (t121.length : Int) = 2
        · rw [if_pos c14] at H
          have c14b0 : ((t121.length : Int) == 2) = true := beq_iff_eq.mpr c14
          have c14b1 : ((t121.length : Int) != 2) = false := bne_eq_false_iff_eq.mpr c14
          clear c14
          have H' := Aside0.mk H
          clear H
          obtain ⟨Ao15, co15, eo15⟩ := Kd.N_slice HO123.out
          subst eo15
          go_wp2
          go_meet
          case rel => exact ⟨_, ((t131 != 4)), (by first | rfl | (simp; done) | (simp [*]; done)), H', ⟨by first | omega | exact Nat.le_refl _⟩, ⟨by (with_reducible repeat (first | apply Kd.N_alloc | apply Kd.N_drewN | apply Kd.N_drew)); exact Kd.N_mono HO123.out (fun _ hk => trivial)⟩, ⟨by repeat (first | (with_reducible first | exact HB.out | apply below_alloc | apply pw_below_drewN | apply below_drew1) | exact HB.out)⟩⟩
        · rw [if_neg c14] at H
          have c14b0 : ((t121.length : Int) == 2) = false := beq_eq_false_iff_ne.mpr c14
          have c14b1 : ((t121.length : Int) != 2) = true := bne_iff_ne.mpr c14
          have H' := Aside0.mk H
          clear H
          obtain ⟨Ao16, co16, eo16⟩ := Kd.N_slice HO123.out
          subst eo16
          go_wp2
          go_meet
          case rel => exact ⟨_, (true), (by first | rfl | (simp; done) | (simp [*]; done)), H', ⟨by first | omega | exact Nat.le_refl _⟩, ⟨by (with_reducible repeat (first | apply Kd.N_alloc | apply Kd.N_drewN | apply Kd.N_drew)); exact Kd.N_mono HO123.out (fun _ hk => trivial)⟩, ⟨by repeat (first | (with_reducible first | exact HB.out | apply below_alloc | apply pw_below_drewN | apply below_drew1) | exact HB.out)⟩⟩
      · rw [if_neg c13] at H
        have c13b0 : (t124 == 0) = false := beq_eq_false_iff_ne.mpr c13
        have c13b1 : (t124 != 0) = true := bne_iff_ne.mpr c13
        (first | rw [c13b0] | (simp only [i64_w, i32_w]; rw [c13b0]) | skip)
        have H' := Aside0.mk H
        clear H
        go_wp2
        go_meet
        case rel => exact ⟨_, (true), (by first | rfl | (simp; done) | (simp [*]; done)), H', ⟨by first | omega | exact Nat.le_refl _⟩, ⟨by (with_reducible repeat (first | apply Kd.N_alloc | apply Kd.N_drewN | apply Kd.N_drew)); exact Kd.N_mono HO123.out (fun _ hk => trivial)⟩, ⟨by repeat (first | (with_reducible first | exact HB.out | apply below_alloc | apply pw_below_drewN | apply below_drew1) | exact HB.out)⟩⟩
    case rest =>
      clear HC4
      try clear c1
      try clear c1b0
      try clear c1b1
      try clear c2
      try clear p2
      try clear c3
      try clear c13
      try clear c13b0
      try clear c13b1
      try clear c14
      try clear c14b0
      try clear c14b1
      obtain ⟨kq, x25_3, rfl, HA, HJ3, HO_1, HB⟩ := hcut
      cases kq with
      | zero => exact absurd HA.out (by simp [newsreellaw08_awake.j0])
      | succ kj3 =>
        have H := HA.out
        clear HA
        simp only [newsreellaw08_awake.j0] at H
        by_cases c17 : x25_3 = true
        · subst c17
          have H1 : (some false) = some r := by rw [if_pos rfl] at H; exact H
          clear H
          have H := H1
          clear H1
          obtain rfl := Option.some.inj H
          go_wp2
          go_ret
          exact ⟨by first | rfl | (simp [errW_none, errW_some] <;> rfl) | (simp [*, errW_none, errW_some] <;> rfl), by repeat (first | (with_reducible first | exact HB.out | apply below_alloc | apply pw_below_drewN | apply below_drew1) | exact HB.out)⟩
        · replace c17 := Bool.eq_false_iff.mpr c17
          subst c17
          have H1 : (if 0 < (t121.length : Int) then (if ((rd_T46 t121 0).f0) = 10 then (if (((rd_T46 t121 0).f1).length : Int) = 6 then (if 1 < (t121.length : Int) then (if ((rd_T46 t121 1).f0) = 16 then (if (((rd_T46 t121 1).f1).length : Int) = 14 then ((block_Lay.f (([1] : List Int)) (([(⟨3, (([9] : List Int))⟩ : S46)] : List (S46)))).bind fun t145 => ((newsreelref01_Bytes.f t145 (([1, 0, 0, 9] : List Int))).bind fun t151 => (some t151))) else (some false)) else (some false)) else (none)) else (some false)) else (some false)) else (none)) = some r := by rw [if_neg (show ¬ (false = true) by decide)] at H; exact H
          clear H
          have H := H1
          clear H1
          by_cases c18 : 0 < (t121.length : Int)
          · rw [if_pos c18] at H
            have c18b0 : decide (0 < (t121.length : Int)) = true := decide_eq_true c18
            have c18b1 : decide (0 < t121.length) = true := decide_eq_true (by omega)
            clear c18
            by_cases c19 : ((rd_T46 t121 0).f0) = 10
            · rw [if_pos c19] at H
              have c19b0 : (((rd_T46 t121 0).f0) == 10) = true := beq_iff_eq.mpr c19
              have c19b1 : (((rd_T46 t121 0).f0) != 10) = false := bne_eq_false_iff_eq.mpr c19
              clear c19
              by_cases c20 : (((rd_T46 t121 0).f1).length : Int) = 6
              · rw [if_pos c20] at H
                have c20b0 : ((((rd_T46 t121 0).f1).length : Int) == 6) = true := beq_iff_eq.mpr c20
                have c20b1 : ((((rd_T46 t121 0).f1).length : Int) != 6) = false := bne_eq_false_iff_eq.mpr c20
                clear c20
                by_cases c21 : 1 < (t121.length : Int)
                · rw [if_pos c21] at H
                  have c21b0 : decide (1 < (t121.length : Int)) = true := decide_eq_true c21
                  have c21b1 : decide (1 < t121.length) = true := decide_eq_true (by omega)
                  clear c21
                  by_cases c22 : ((rd_T46 t121 1).f0) = 16
                  · rw [if_pos c22] at H
                    have c22b0 : (((rd_T46 t121 1).f0) == 16) = true := beq_iff_eq.mpr c22
                    have c22b1 : (((rd_T46 t121 1).f0) != 16) = false := bne_eq_false_iff_eq.mpr c22
                    clear c22
                    by_cases c23 : (((rd_T46 t121 1).f1).length : Int) = 14
                    · rw [if_pos c23] at H
                      have c23b0 : ((((rd_T46 t121 1).f1).length : Int) == 14) = true := beq_iff_eq.mpr c23
                      have c23b1 : ((((rd_T46 t121 1).f1).length : Int) != 14) = false := bne_eq_false_iff_eq.mpr c23
                      clear c23
                      obtain ⟨y136, hy136⟩ : ∃ y_ : List Int, y_ = (([1] : List Int)) := ⟨_, rfl⟩
                      replace H : ((block_Lay.f y136 (([(⟨3, (([9] : List Int))⟩ : S46)] : List (S46)))).bind fun t145 => ((newsreelref01_Bytes.f t145 (([1, 0, 0, 9] : List Int))).bind fun t151 => (some t151))) = some r := by first | (rw [hy136]; with_reducible exact H) | (have H2_ := (Option.bind_some _ _).symm.trans H; rw [hy136]; with_reducible exact H2_) | (have H2_ := (Option.bind_some _ _).symm.trans H; with_reducible exact H2_) | with_reducible exact H | (rw [hy136]; exact H) | exact H
                      have Ny136 := Aside0.mk hy136
                      clear hy136
                      obtain ⟨y139, hy139⟩ : ∃ y_ : List Int, y_ = (([9] : List Int)) := ⟨_, rfl⟩
                      replace H : ((block_Lay.f y136 (([(⟨3, y139⟩ : S46)] : List (S46)))).bind fun t145 => ((newsreelref01_Bytes.f t145 (([1, 0, 0, 9] : List Int))).bind fun t151 => (some t151))) = some r := by first | (rw [hy139]; with_reducible exact H) | (have H2_ := (Option.bind_some _ _).symm.trans H; rw [hy139]; with_reducible exact H2_) | (have H2_ := (Option.bind_some _ _).symm.trans H; with_reducible exact H2_) | with_reducible exact H | (rw [hy139]; exact H) | exact H
                      have Ny139 := Aside0.mk hy139
                      clear hy139
                      obtain ⟨y142, hy142⟩ : ∃ y_ : List (S46), y_ = (([(⟨3, y139⟩ : S46)] : List (S46))) := ⟨_, rfl⟩
                      replace H : ((block_Lay.f y136 y142).bind fun t145 => ((newsreelref01_Bytes.f t145 (([1, 0, 0, 9] : List Int))).bind fun t151 => (some t151))) = some r := by first | (rw [hy142]; with_reducible exact H) | (have H2_ := (Option.bind_some _ _).symm.trans H; rw [hy142]; with_reducible exact H2_) | (have H2_ := (Option.bind_some _ _).symm.trans H; with_reducible exact H2_) | with_reducible exact H | (rw [hy142]; exact H) | exact H
                      have Ny142 := Aside0.mk hy142
                      clear hy142
                      replace H := Option.bind_eq_some_iff.mp H
                      obtain ⟨t145, A240, H⟩ := H
                      replace H : ((newsreelref01_Bytes.f t145 (([1, 0, 0, 9] : List Int))).bind fun t151 => (some t151)) = some r := H
                      have A24 := Aside0.mk A240
                      clear A240
                      obtain ⟨y148, hy148⟩ : ∃ y_ : List Int, y_ = (([1, 0, 0, 9] : List Int)) := ⟨_, rfl⟩
                      replace H : ((newsreelref01_Bytes.f t145 y148).bind fun t151 => (some t151)) = some r := by first | (rw [hy148]; with_reducible exact H) | (have H2_ := (Option.bind_some _ _).symm.trans H; rw [hy148]; with_reducible exact H2_) | (have H2_ := (Option.bind_some _ _).symm.trans H; with_reducible exact H2_) | with_reducible exact H | (rw [hy148]; exact H) | exact H
                      have Ny148 := Aside0.mk hy148
                      clear hy148
                      replace H := Option.bind_eq_some_iff.mp H
                      obtain ⟨t151, A250, H⟩ := H
                      replace H : (some t151) = some r := H
                      have A25 := Aside0.mk A250
                      clear A250
                      obtain rfl := Option.some.inj H
                      obtain ⟨Ao26, co26, eo26⟩ := Kd.N_slice HO_1.out
                      subst eo26
                      have p132 : 0 ≤ (0 : Int) := (by omega)
                      have q132 : 0 < (t121.length : Int) := of_decide_eq_true (by first | (with_reducible assumption) | assumption)
                      obtain ⟨ad132, A132_1, c132_1, e132, hx132_0, hx132_1, hl132_1, hi132_1⟩ := at_T46 (Kd.N_reads' HO_1.out).2.2 0 p132 q132
                      cases e132
                      obtain ⟨ce132, hce132, hMe132, hcc132⟩ := Kd.N_get HO_1.out z46 0 p132 (by first | exact q132 | exact of_decide_eq_true (by first | (with_reducible assumption) | assumption) | (have e_ := (Kd.N_reads' HO_1.out).1; omega))
                      obtain ⟨ua132_1, uc132_1, rfl, ul132_1, ge132_1⟩ := k46_openF hMe132
                      have hv132_1 := hcc132 1 _ rfl
                      rw [add_field _ _ 1 (by omega)] at hv132_1
                      replace hv132_1 := Option.some.inj (hv132_1.symm.trans hx132_1)
                      injection hv132_1 with hva_ hvn_ hvc_
                      rw [hva_] at ge132_1
                      rw [hvc_] at ul132_1
                      have HL132_1 := Aside0.mk (show Kd.V (Kd.int .u8) 5 _ w.heap.size _ _ ((rd_T46 t121 0).f1) from Kd.V_mk ul132_1 ge132_1)
                      clear hva_ hvn_ hvc_ ge132_1 ul132_1
                      clear hcc132 hce132
                      have qi132 : (0 < t121.length) = True := eq_true (by omega)
                      (try rw [show ((0 : Int)).toNat = 0 from rfl] at hx132_0)
                      (try rw [show 0 * 2 = 0 from rfl] at hx132_0)
                      (try rw [Addr.add_zero'] at hx132_0)
                      (try rw [show ((0 : Int)).toNat = 0 from rfl] at hx132_1)
                      (try rw [show 0 * 2 = 0 from rfl] at hx132_1)
                      (try rw [Addr.add_zero'] at hx132_1)
                      have HR132_1 := Aside0.mk hi132_1
                      have HC132_1 := Aside0.mk hl132_1
                      clear hi132_1 hl132_1
                      replace p132 := eq_true p132
                      replace q132 := eq_true q132
                      have p133 : 0 ≤ (0 : Int) := (by omega)
                      have q133 : 0 < (t121.length : Int) := of_decide_eq_true (by first | (with_reducible assumption) | assumption)
                      obtain ⟨ad133, A133_1, c133_1, e133, hx133_0, hx133_1, hl133_1, hi133_1⟩ := at_T46 (Kd.N_reads' HO_1.out).2.2 0 p133 q133
                      obtain rfl : ad132 = ad133 := (by injection e133)
                      obtain ⟨ce133, hce133, hMe133, hcc133⟩ := Kd.N_get HO_1.out z46 0 p133 (by first | exact q133 | exact of_decide_eq_true (by first | (with_reducible assumption) | assumption) | (have e_ := (Kd.N_reads' HO_1.out).1; omega))
                      obtain ⟨ua133_1, uc133_1, rfl, ul133_1, ge133_1⟩ := k46_openF hMe133
                      have hv133_1 := hcc133 1 _ rfl
                      rw [add_field _ _ 1 (by omega)] at hv133_1
                      replace hv133_1 := Option.some.inj (hv133_1.symm.trans hx133_1)
                      injection hv133_1 with hva_ hvn_ hvc_
                      rw [hva_] at ge133_1
                      rw [hvc_] at ul133_1
                      have HL133_1 := Aside0.mk (show Kd.V (Kd.int .u8) 5 _ w.heap.size _ _ ((rd_T46 t121 0).f1) from Kd.V_mk ul133_1 ge133_1)
                      clear hva_ hvn_ hvc_ ge133_1 ul133_1
                      clear hcc133 hce133
                      have qi133 : (0 < t121.length) = True := eq_true (by omega)
                      (try rw [show ((0 : Int)).toNat = 0 from rfl] at hx133_0)
                      (try rw [show 0 * 2 = 0 from rfl] at hx133_0)
                      (try rw [Addr.add_zero'] at hx133_0)
                      (try rw [show ((0 : Int)).toNat = 0 from rfl] at hx133_1)
                      (try rw [show 0 * 2 = 0 from rfl] at hx133_1)
                      (try rw [Addr.add_zero'] at hx133_1)
                      have HR133_1 := Aside0.mk hi133_1
                      have HC133_1 := Aside0.mk hl133_1
                      clear hi133_1 hl133_1
                      replace p133 := eq_true p133
                      replace q133 := eq_true q133
                      have ea_ := Option.some.inj (hx132_1.symm.trans hx133_1)
                      injection ea_ with ea_ en_ ec_
                      subst ea_
                      subst ec_
                      clear en_
                      have p134 : 0 ≤ (1 : Int) := (by omega)
                      have q134 : 1 < (t121.length : Int) := of_decide_eq_true (by first | (with_reducible assumption) | assumption)
                      obtain ⟨ad134, A134_1, c134_1, e134, hx134_0, hx134_1, hl134_1, hi134_1⟩ := at_T46 (Kd.N_reads' HO_1.out).2.2 1 p134 q134
                      obtain rfl : ad132 = ad134 := (by injection e134)
                      obtain ⟨ce134, hce134, hMe134, hcc134⟩ := Kd.N_get HO_1.out z46 1 p134 (by first | exact q134 | exact of_decide_eq_true (by first | (with_reducible assumption) | assumption) | (have e_ := (Kd.N_reads' HO_1.out).1; omega))
                      obtain ⟨ua134_1, uc134_1, rfl, ul134_1, ge134_1⟩ := k46_openF hMe134
                      have hv134_1 := hcc134 1 _ rfl
                      rw [add_field _ _ 1 (by omega)] at hv134_1
                      replace hv134_1 := Option.some.inj (hv134_1.symm.trans hx134_1)
                      injection hv134_1 with hva_ hvn_ hvc_
                      rw [hva_] at ge134_1
                      rw [hvc_] at ul134_1
                      have HL134_1 := Aside0.mk (show Kd.V (Kd.int .u8) 5 _ w.heap.size _ _ ((rd_T46 t121 1).f1) from Kd.V_mk ul134_1 ge134_1)
                      clear hva_ hvn_ hvc_ ge134_1 ul134_1
                      clear hcc134 hce134
                      (try simp only [show (1 : Int).toNat = 1 from rfl, Nat.reduceMul, Nat.reduceEqDiff, Go.Addr.add, ↓reduceIte] at hx134_0)
                      (try simp only [show (1 : Int).toNat = 1 from rfl, Nat.reduceMul, Nat.reduceEqDiff, Go.Addr.add, ↓reduceIte] at hx134_1)
                      have qi134 : (1 < t121.length) = True := eq_true (by omega)
                      (try rw [show ((1 : Int)).toNat = 1 from rfl] at hx134_0)
                      (try rw [show 1 * 2 = 2 from rfl] at hx134_0)
                      (try rw [show ((1 : Int)).toNat = 1 from rfl] at hx134_1)
                      (try rw [show 1 * 2 = 2 from rfl] at hx134_1)
                      have HR134_1 := Aside0.mk hi134_1
                      have HC134_1 := Aside0.mk hl134_1
                      clear hi134_1 hl134_1
                      replace p134 := eq_true p134
                      replace q134 := eq_true q134
                      have p135 : 0 ≤ (1 : Int) := (by omega)
                      have q135 : 1 < (t121.length : Int) := of_decide_eq_true (by first | (with_reducible assumption) | assumption)
                      obtain ⟨ad135, A135_1, c135_1, e135, hx135_0, hx135_1, hl135_1, hi135_1⟩ := at_T46 (Kd.N_reads' HO_1.out).2.2 1 p135 q135
                      obtain rfl : ad132 = ad135 := (by injection e135)
                      obtain ⟨ce135, hce135, hMe135, hcc135⟩ := Kd.N_get HO_1.out z46 1 p135 (by first | exact q135 | exact of_decide_eq_true (by first | (with_reducible assumption) | assumption) | (have e_ := (Kd.N_reads' HO_1.out).1; omega))
                      obtain ⟨ua135_1, uc135_1, rfl, ul135_1, ge135_1⟩ := k46_openF hMe135
                      have hv135_1 := hcc135 1 _ rfl
                      rw [add_field _ _ 1 (by omega)] at hv135_1
                      replace hv135_1 := Option.some.inj (hv135_1.symm.trans hx135_1)
                      injection hv135_1 with hva_ hvn_ hvc_
                      rw [hva_] at ge135_1
                      rw [hvc_] at ul135_1
                      have HL135_1 := Aside0.mk (show Kd.V (Kd.int .u8) 5 _ w.heap.size _ _ ((rd_T46 t121 1).f1) from Kd.V_mk ul135_1 ge135_1)
                      clear hva_ hvn_ hvc_ ge135_1 ul135_1
                      clear hcc135 hce135
                      (try simp only [show (1 : Int).toNat = 1 from rfl, Nat.reduceMul, Nat.reduceEqDiff, Go.Addr.add, ↓reduceIte] at hx135_0)
                      (try simp only [show (1 : Int).toNat = 1 from rfl, Nat.reduceMul, Nat.reduceEqDiff, Go.Addr.add, ↓reduceIte] at hx135_1)
                      have qi135 : (1 < t121.length) = True := eq_true (by omega)
                      (try rw [show ((1 : Int)).toNat = 1 from rfl] at hx135_0)
                      (try rw [show 1 * 2 = 2 from rfl] at hx135_0)
                      (try rw [show ((1 : Int)).toNat = 1 from rfl] at hx135_1)
                      (try rw [show 1 * 2 = 2 from rfl] at hx135_1)
                      have HR135_1 := Aside0.mk hi135_1
                      have HC135_1 := Aside0.mk hl135_1
                      clear hi135_1 hl135_1
                      replace p135 := eq_true p135
                      replace q135 := eq_true q135
                      have ea_ := Option.some.inj (hx134_1.symm.trans hx135_1)
                      injection ea_ with ea_ en_ ec_
                      subst ea_
                      subst ec_
                      clear en_
                      go_wp2_with (first | ((with_reducible refine gate_dst (N := 55) rfl ?_); (try (refine gate_guard (by rfl) ?_; dsimp only)); refine Kd.R_lit (Kd.int .u8) _ 5 ?hg (N := 55) ?hd (xs := ([1] : List Int)) (inner := [.int .u8 1]) (ok := fun _ => True) (okp := fun _ => True) ?hr ?hp (fun _ hk => hk) trivial (Below.refl _ _) (Nat.le_refl _) (by simp) ?_; (case hd => rfl); (case hg => rfl); (case hr => first | (go_simp; done) | (go_simp; rfl)); (case hp => exact (Reps.one (show Kd.M (Kd.int .u8) _ _ _ 1 [.int .u8 1] from rfl) (Reps.none _ _))); intro v137 w27 ho28 hb hg_ hnew_; clear hg_ hnew_; (first | rw [← Ny136.out] at ho28 | (simp only [Int.reduceToNat] at ho28; rw [← Ny136.out] at ho28)); have n0_ := Aside0.mk (Kd.N_elder' (by (with_reducible repeat (first | apply Kd.N_alloc | apply Kd.N_drewN | apply Kd.N_drew)); exact HO_1.out) (Kd.R_base ho28) hb); have n1_ := Aside0.mk (Kd.V_elder' (by (with_reducible repeat (first | apply Kd.V_alloc | apply Kd.V_drewN | apply Kd.V_drew)); exact HL132_1.out) (Kd.R_base ho28) hb); have n2_ := Aside0.mk (Kd.V_elder' (by (with_reducible repeat (first | apply Kd.V_alloc | apply Kd.V_drewN | apply Kd.V_drew)); exact HL133_1.out) (Kd.R_base ho28) hb); have n3_ := Aside0.mk (Kd.V_elder' (by (with_reducible repeat (first | apply Kd.V_alloc | apply Kd.V_drewN | apply Kd.V_drew)); exact HL134_1.out) (Kd.R_base ho28) hb); have n4_ := Aside0.mk (Kd.V_elder' (by (with_reducible repeat (first | apply Kd.V_alloc | apply Kd.V_drewN | apply Kd.V_drew)); exact HL135_1.out) (Kd.R_base ho28) hb); have n5_ := Aside0.mk (Kd.R_lower ho28 (below_size (by repeat (first | (with_reducible first | exact HB.out | apply below_alloc | apply pw_below_drewN | apply below_drew1) | exact HB.out)))); have n6_ := Aside0.mk (Kd.C_below (by repeat (first | (with_reducible exact HR132_1.out) | (with_reducible refine Kd.C_alloc ?_ _) | (with_reducible refine Kd.C_drewN ?_ _) | (with_reducible refine Kd.C_drew ?_) | exact HR132_1.out)) hb); have n7_ := Aside0.mk (Kd.C_below (by repeat (first | (with_reducible exact HR133_1.out) | (with_reducible refine Kd.C_alloc ?_ _) | (with_reducible refine Kd.C_drewN ?_ _) | (with_reducible refine Kd.C_drew ?_) | exact HR133_1.out)) hb); have n8_ := Aside0.mk (Kd.C_below (by repeat (first | (with_reducible exact HR134_1.out) | (with_reducible refine Kd.C_alloc ?_ _) | (with_reducible refine Kd.C_drewN ?_ _) | (with_reducible refine Kd.C_drew ?_) | exact HR134_1.out)) hb); have n9_ := Aside0.mk (Kd.C_below (by repeat (first | (with_reducible exact HR135_1.out) | (with_reducible refine Kd.C_alloc ?_ _) | (with_reducible refine Kd.C_drewN ?_ _) | (with_reducible refine Kd.C_drew ?_) | exact HR135_1.out)) hb); have n10_ := Aside0.mk (below_step (by repeat (first | (with_reducible first | exact HB.out | apply below_alloc | apply pw_below_drewN | apply below_drew1) | exact HB.out)) hb); clear HO_1; clear HL132_1; clear HL133_1; clear HL134_1; clear HL135_1; clear HR132_1; clear HR133_1; clear HR134_1; clear HR135_1; clear HB; have HO_1 := n0_; have HL132_1 := n1_; have HL133_1 := n2_; have HL134_1 := n3_; have HL135_1 := n4_; have HO138 := n5_; have HR132_1 := n6_; have HR133_1 := n7_; have HR134_1 := n8_; have HR135_1 := n9_; have HB := n10_; clear n0_ n1_ n2_ n3_ n4_ n5_ n6_ n7_ n8_ n9_ n10_; clear hb ho28) | ((with_reducible refine gate_dst (N := 56) rfl ?_); (try (refine gate_guard (by rfl) ?_; dsimp only)); refine Kd.R_lit (Kd.int .u8) _ 5 ?hg (N := 56) ?hd (xs := ([9] : List Int)) (inner := [.int .u8 9]) (ok := fun _ => True) (okp := fun _ => True) ?hr ?hp (fun _ hk => hk) trivial (Below.refl _ _) (Nat.le_refl _) (by simp) ?_; (case hd => rfl); (case hg => rfl); (case hr => first | (go_simp; done) | (go_simp; rfl)); (case hp => exact (Reps.one (show Kd.M (Kd.int .u8) _ _ _ 9 [.int .u8 9] from rfl) (Reps.none _ _))); intro v140 w29 ho30 hb hg_ hnew_; clear hg_ hnew_; (first | rw [← Ny139.out] at ho30 | (simp only [Int.reduceToNat] at ho30; rw [← Ny139.out] at ho30)); have n0_ := Aside0.mk (Kd.N_elder' (by (with_reducible repeat (first | apply Kd.N_alloc | apply Kd.N_drewN | apply Kd.N_drew)); exact HO_1.out) (Kd.R_base ho30) hb); have n1_ := Aside0.mk (Kd.V_elder' (by (with_reducible repeat (first | apply Kd.V_alloc | apply Kd.V_drewN | apply Kd.V_drew)); exact HL132_1.out) (Kd.R_base ho30) hb); have n2_ := Aside0.mk (Kd.V_elder' (by (with_reducible repeat (first | apply Kd.V_alloc | apply Kd.V_drewN | apply Kd.V_drew)); exact HL133_1.out) (Kd.R_base ho30) hb); have n3_ := Aside0.mk (Kd.V_elder' (by (with_reducible repeat (first | apply Kd.V_alloc | apply Kd.V_drewN | apply Kd.V_drew)); exact HL134_1.out) (Kd.R_base ho30) hb); have n4_ := Aside0.mk (Kd.V_elder' (by (with_reducible repeat (first | apply Kd.V_alloc | apply Kd.V_drewN | apply Kd.V_drew)); exact HL135_1.out) (Kd.R_base ho30) hb); have n5_ := Aside0.mk (Kd.R_elder' (by (with_reducible repeat (first | apply Kd.R_alloc | apply Kd.R_drewN | apply Kd.R_drew)); exact HO138.out) (Kd.R_base ho30) hb); have n6_ := Aside0.mk (Kd.R_lower (Kd.R_new' ho30 (Kd.R_lt (by (with_reducible repeat (first | apply Kd.R_alloc | apply Kd.R_drewN | apply Kd.R_drew)); exact HO138.out))) (below_size (by repeat (first | (with_reducible first | exact HB.out | apply below_alloc | apply pw_below_drewN | apply below_drew1) | exact HB.out)))); have n7_ := Aside0.mk (Kd.C_below (by repeat (first | (with_reducible exact HR132_1.out) | (with_reducible refine Kd.C_alloc ?_ _) | (with_reducible refine Kd.C_drewN ?_ _) | (with_reducible refine Kd.C_drew ?_) | exact HR132_1.out)) hb); have n8_ := Aside0.mk (Kd.C_below (by repeat (first | (with_reducible exact HR133_1.out) | (with_reducible refine Kd.C_alloc ?_ _) | (with_reducible refine Kd.C_drewN ?_ _) | (with_reducible refine Kd.C_drew ?_) | exact HR133_1.out)) hb); have n9_ := Aside0.mk (Kd.C_below (by repeat (first | (with_reducible exact HR134_1.out) | (with_reducible refine Kd.C_alloc ?_ _) | (with_reducible refine Kd.C_drewN ?_ _) | (with_reducible refine Kd.C_drew ?_) | exact HR134_1.out)) hb); have n10_ := Aside0.mk (Kd.C_below (by repeat (first | (with_reducible exact HR135_1.out) | (with_reducible refine Kd.C_alloc ?_ _) | (with_reducible refine Kd.C_drewN ?_ _) | (with_reducible refine Kd.C_drew ?_) | exact HR135_1.out)) hb); have n11_ := Aside0.mk (below_step (by repeat (first | (with_reducible first | exact HB.out | apply below_alloc | apply pw_below_drewN | apply below_drew1) | exact HB.out)) hb); clear HO_1; clear HL132_1; clear HL133_1; clear HL134_1; clear HL135_1; clear HO138; clear HR132_1; clear HR133_1; clear HR134_1; clear HR135_1; clear HB; have HO_1 := n0_; have HL132_1 := n1_; have HL133_1 := n2_; have HL134_1 := n3_; have HL135_1 := n4_; have HO138 := n5_; have HO141 := n6_; have HR132_1 := n7_; have HR133_1 := n8_; have HR134_1 := n9_; have HR135_1 := n10_; have HB := n11_; clear n0_ n1_ n2_ n3_ n4_ n5_ n6_ n7_ n8_ n9_ n10_ n11_; clear hb ho30; obtain ⟨Ao31, co31, eo31⟩ := Kd.R_slice HO141.out; subst eo31) | ((with_reducible refine gate_dst (N := 58) rfl ?_); (try (refine gate_guard (by rfl) ?_; dsimp only)); refine Kd.N_lit k46 _ 46 ?hg (N' := 58) ?hd (xs := ([(⟨3, y139⟩ : S46)] : List (S46))) (inner := [.int .i64 3, .slice Ao31 y139.length co31]) (ok := (fun k_ => some k_ ≠ (.slice (some ad132) t121.length co26 : Value).ownBlock ∧ some k_ ≠ (v137 : Value).ownBlock)) (okp := (fun k_ => some k_ ≠ (.slice (some ad132) t121.length co26 : Value).ownBlock ∧ some k_ ≠ (v137 : Value).ownBlock)) ?hr ?hp (fun _ hk => hk) ((show ∀ k_, w29.heap.size ≤ k_ → (fun k_ => some k_ ≠ (.slice (some ad132) t121.length co26 : Value).ownBlock ∧ some k_ ≠ (v137 : Value).ownBlock) k_ from fun k_ hk => ⟨Kd.fresh' (Kd.N_lt (by (with_reducible repeat (first | apply Kd.N_alloc | apply Kd.N_drewN | apply Kd.N_drew)); exact HO_1.out)) k_ hk, Kd.fresh' (Kd.R_lt (by (with_reducible repeat (first | apply Kd.R_alloc | apply Kd.R_drewN | apply Kd.R_drew)); exact HO138.out)) k_ hk⟩) _ (Nat.le_refl _)) (Below.refl _ _) (Nat.le_refl _) (by simp) ?_; (case hd => rfl); (case hg => rfl); (case hr => first | (go_simp; done) | (go_simp; rfl)); (case hp => exact (Reps.c2 (show Kd.FK k46 _ _ (⟨3, y139⟩ : S46) [.int .i64 3, .slice Ao31 y139.length co31] from (k46_mkF _ _ (⟨3, y139⟩ : S46) (Kd.R_reads' (Kd.R_mono (ok' := (fun k_ => some k_ ≠ (.slice (some ad132) t121.length co26 : Value).ownBlock ∧ some k_ ≠ (v137 : Value).ownBlock)) (Kd.R_apart' (HO141.out) (Kd.N_typed HO_1.out) (by decide)) (fun k_ hk => ⟨hk.2, hk.1.2⟩))).2.1 (Kd.R_F (Kd.R_mono (ok' := (fun k_ => some k_ ≠ (.slice (some ad132) t121.length co26 : Value).ownBlock ∧ some k_ ≠ (v137 : Value).ownBlock)) (Kd.R_apart' (HO141.out) (Kd.N_typed HO_1.out) (by decide)) (fun k_ hk => ⟨hk.2, hk.1.2⟩))))) (Reps.none _ _))); intro v143 w32 ho33 hb hg_ hnew_; clear hg_ hnew_; (first | rw [← Ny142.out] at ho33 | (simp only [Int.reduceToNat] at ho33; rw [← Ny142.out] at ho33)); have n0_ := Aside0.mk (Kd.N_elder' (by (with_reducible repeat (first | apply Kd.N_alloc | apply Kd.N_drewN | apply Kd.N_drew)); exact HO_1.out) (Kd.N_base ho33) hb); have n1_ := Aside0.mk (Kd.V_elder' (by (with_reducible repeat (first | apply Kd.V_alloc | apply Kd.V_drewN | apply Kd.V_drew)); exact HL132_1.out) (Kd.N_base ho33) hb); have n2_ := Aside0.mk (Kd.V_elder' (by (with_reducible repeat (first | apply Kd.V_alloc | apply Kd.V_drewN | apply Kd.V_drew)); exact HL133_1.out) (Kd.N_base ho33) hb); have n3_ := Aside0.mk (Kd.V_elder' (by (with_reducible repeat (first | apply Kd.V_alloc | apply Kd.V_drewN | apply Kd.V_drew)); exact HL134_1.out) (Kd.N_base ho33) hb); have n4_ := Aside0.mk (Kd.V_elder' (by (with_reducible repeat (first | apply Kd.V_alloc | apply Kd.V_drewN | apply Kd.V_drew)); exact HL135_1.out) (Kd.N_base ho33) hb); have n5_ := Aside0.mk (Kd.R_below (by (with_reducible repeat (first | apply Kd.R_alloc | apply Kd.R_drewN | apply Kd.R_drew)); exact HO138.out) hb); have n6_ := Aside0.mk (Kd.N_lower ho33 (below_size (by repeat (first | (with_reducible first | exact HB.out | apply below_alloc | apply pw_below_drewN | apply below_drew1) | exact HB.out)))); have n7_ := Aside0.mk (Kd.C_below (by repeat (first | (with_reducible exact HR132_1.out) | (with_reducible refine Kd.C_alloc ?_ _) | (with_reducible refine Kd.C_drewN ?_ _) | (with_reducible refine Kd.C_drew ?_) | exact HR132_1.out)) hb); have n8_ := Aside0.mk (Kd.C_below (by repeat (first | (with_reducible exact HR133_1.out) | (with_reducible refine Kd.C_alloc ?_ _) | (with_reducible refine Kd.C_drewN ?_ _) | (with_reducible refine Kd.C_drew ?_) | exact HR133_1.out)) hb); have n9_ := Aside0.mk (Kd.C_below (by repeat (first | (with_reducible exact HR134_1.out) | (with_reducible refine Kd.C_alloc ?_ _) | (with_reducible refine Kd.C_drewN ?_ _) | (with_reducible refine Kd.C_drew ?_) | exact HR134_1.out)) hb); have n10_ := Aside0.mk (Kd.C_below (by repeat (first | (with_reducible exact HR135_1.out) | (with_reducible refine Kd.C_alloc ?_ _) | (with_reducible refine Kd.C_drewN ?_ _) | (with_reducible refine Kd.C_drew ?_) | exact HR135_1.out)) hb); have n11_ := Aside0.mk (below_step (by repeat (first | (with_reducible first | exact HB.out | apply below_alloc | apply pw_below_drewN | apply below_drew1) | exact HB.out)) hb); clear HO_1; clear HL132_1; clear HL133_1; clear HL134_1; clear HL135_1; clear HO138; clear HR132_1; clear HR133_1; clear HR134_1; clear HR135_1; clear HB; clear HO141; have HO_1 := n0_; have HL132_1 := n1_; have HL133_1 := n2_; have HL134_1 := n3_; have HL135_1 := n4_; have HO138 := n5_; have HO144 := n6_; have HR132_1 := n7_; have HR133_1 := n8_; have HR134_1 := n9_; have HR135_1 := n10_; have HB := n11_; clear n0_ n1_ n2_ n3_ n4_ n5_ n6_ n7_ n8_ n9_ n10_ n11_; clear hb ho33; obtain ⟨Ao34, co34, eo34⟩ := Kd.R_slice HO138.out; subst eo34; obtain ⟨Ao35, co35, eo35⟩ := Kd.N_slice HO144.out; subst eo35) | (go_at_call 35; (with_reducible refine (block_Lay.calls _ _ y136 _ _ y142 t145 _ ?side1 ?side2 ?side3 ?side4 A24.out).mono ?_); (case side1 => repeat (first | exact (Kd.R_reads' HO138.out).2.2 | (with_reducible refine Kd.C_alloc ?_ _) | (with_reducible refine Kd.C_drewN ?_ _) | (with_reducible refine Kd.C_drew ?_))); (case side2 => exact (Kd.R_reads' HO138.out).2.1); (case side3 => repeat (first | exact (Kd.N_reads' HO144.out).2.2 | (with_reducible refine Kd.C_alloc ?_ _) | (with_reducible refine Kd.C_drewN ?_ _) | (with_reducible refine Kd.C_drew ?_))); (case side4 => exact (Kd.N_reads' HO144.out).2.1); rintro e w36 ⟨v146, rfl, ho0, hb⟩; have n0_ := Aside0.mk (Kd.N_elder' (by (with_reducible repeat (first | apply Kd.N_alloc | apply Kd.N_drewN | apply Kd.N_drew)); exact HO_1.out) (Kd.R_base ho0) hb); have n1_ := Aside0.mk (Kd.V_elder' (by (with_reducible repeat (first | apply Kd.V_alloc | apply Kd.V_drewN | apply Kd.V_drew)); exact HL132_1.out) (Kd.R_base ho0) hb); have n2_ := Aside0.mk (Kd.V_elder' (by (with_reducible repeat (first | apply Kd.V_alloc | apply Kd.V_drewN | apply Kd.V_drew)); exact HL133_1.out) (Kd.R_base ho0) hb); have n3_ := Aside0.mk (Kd.V_elder' (by (with_reducible repeat (first | apply Kd.V_alloc | apply Kd.V_drewN | apply Kd.V_drew)); exact HL134_1.out) (Kd.R_base ho0) hb); have n4_ := Aside0.mk (Kd.V_elder' (by (with_reducible repeat (first | apply Kd.V_alloc | apply Kd.V_drewN | apply Kd.V_drew)); exact HL135_1.out) (Kd.R_base ho0) hb); have n5_ := Aside0.mk (Kd.R_elder' (by (with_reducible repeat (first | apply Kd.R_alloc | apply Kd.R_drewN | apply Kd.R_drew)); exact HO138.out) (Kd.R_base ho0) hb); have n6_ := Aside0.mk (Kd.N_elder' (by (with_reducible repeat (first | apply Kd.N_alloc | apply Kd.N_drewN | apply Kd.N_drew)); exact HO144.out) (Kd.R_base ho0) hb); have n7_ := Aside0.mk (Kd.R_lower (Kd.R_new' ho0 (Kd.R_lt (by (with_reducible repeat (first | apply Kd.R_alloc | apply Kd.R_drewN | apply Kd.R_drew)); exact HO138.out))) (below_size (by repeat (first | (with_reducible first | exact HB.out | apply below_alloc | apply pw_below_drewN | apply below_drew1) | exact HB.out)))); have n8_ := Aside0.mk (Kd.C_below (by repeat (first | (with_reducible exact HR132_1.out) | (with_reducible refine Kd.C_alloc ?_ _) | (with_reducible refine Kd.C_drewN ?_ _) | (with_reducible refine Kd.C_drew ?_) | exact HR132_1.out)) hb); have n9_ := Aside0.mk (Kd.C_below (by repeat (first | (with_reducible exact HR133_1.out) | (with_reducible refine Kd.C_alloc ?_ _) | (with_reducible refine Kd.C_drewN ?_ _) | (with_reducible refine Kd.C_drew ?_) | exact HR133_1.out)) hb); have n10_ := Aside0.mk (Kd.C_below (by repeat (first | (with_reducible exact HR134_1.out) | (with_reducible refine Kd.C_alloc ?_ _) | (with_reducible refine Kd.C_drewN ?_ _) | (with_reducible refine Kd.C_drew ?_) | exact HR134_1.out)) hb); have n11_ := Aside0.mk (Kd.C_below (by repeat (first | (with_reducible exact HR135_1.out) | (with_reducible refine Kd.C_alloc ?_ _) | (with_reducible refine Kd.C_drewN ?_ _) | (with_reducible refine Kd.C_drew ?_) | exact HR135_1.out)) hb); have n12_ := Aside0.mk (below_step (by repeat (first | (with_reducible first | exact HB.out | apply below_alloc | apply pw_below_drewN | apply below_drew1) | exact HB.out)) hb); clear HO_1; clear HL132_1; clear HL133_1; clear HL134_1; clear HL135_1; clear HO138; clear HO144; clear HR132_1; clear HR133_1; clear HR134_1; clear HR135_1; clear HB; have HO_1 := n0_; have HL132_1 := n1_; have HL133_1 := n2_; have HL134_1 := n3_; have HL135_1 := n4_; have HO138 := n5_; have HO144 := n6_; have HO147 := n7_; have HR132_1 := n8_; have HR133_1 := n9_; have HR134_1 := n10_; have HR135_1 := n11_; have HB := n12_; clear n0_ n1_ n2_ n3_ n4_ n5_ n6_ n7_ n8_ n9_ n10_ n11_ n12_; (try clear hb); (try clear hb2); (try clear hk); (try clear hi); (try clear ho0)) | ((with_reducible refine gate_dst (N := 60) rfl ?_); (try (refine gate_guard (by rfl) ?_; dsimp only)); refine Kd.R_lit (Kd.int .u8) _ 5 ?hg (N := 60) ?hd (xs := ([1, 0, 0, 9] : List Int)) (inner := [.int .u8 1, .int .u8 0, .int .u8 0, .int .u8 9]) (ok := fun _ => True) (okp := fun _ => True) ?hr ?hp (fun _ hk => hk) trivial (Below.refl _ _) (Nat.le_refl _) (by simp) ?_; (case hd => rfl); (case hg => rfl); (case hr => first | (go_simp; done) | (go_simp; rfl)); (case hp => exact (Reps.one (show Kd.M (Kd.int .u8) _ _ _ 1 [.int .u8 1] from rfl) (Reps.one (show Kd.M (Kd.int .u8) _ _ _ 0 [.int .u8 0] from rfl) (Reps.one (show Kd.M (Kd.int .u8) _ _ _ 0 [.int .u8 0] from rfl) (Reps.one (show Kd.M (Kd.int .u8) _ _ _ 9 [.int .u8 9] from rfl) (Reps.none _ _)))))); intro v149 w37 ho38 hb hg_ hnew_; clear hg_ hnew_; (first | rw [← Ny148.out] at ho38 | (simp only [Int.reduceToNat] at ho38; rw [← Ny148.out] at ho38)); have n0_ := Aside0.mk (Kd.N_elder' (by (with_reducible repeat (first | apply Kd.N_alloc | apply Kd.N_drewN | apply Kd.N_drew)); exact HO_1.out) (Kd.R_base ho38) hb); have n1_ := Aside0.mk (Kd.V_elder' (by (with_reducible repeat (first | apply Kd.V_alloc | apply Kd.V_drewN | apply Kd.V_drew)); exact HL132_1.out) (Kd.R_base ho38) hb); have n2_ := Aside0.mk (Kd.V_elder' (by (with_reducible repeat (first | apply Kd.V_alloc | apply Kd.V_drewN | apply Kd.V_drew)); exact HL133_1.out) (Kd.R_base ho38) hb); have n3_ := Aside0.mk (Kd.V_elder' (by (with_reducible repeat (first | apply Kd.V_alloc | apply Kd.V_drewN | apply Kd.V_drew)); exact HL134_1.out) (Kd.R_base ho38) hb); have n4_ := Aside0.mk (Kd.V_elder' (by (with_reducible repeat (first | apply Kd.V_alloc | apply Kd.V_drewN | apply Kd.V_drew)); exact HL135_1.out) (Kd.R_base ho38) hb); have n5_ := Aside0.mk (Kd.R_elder' (by (with_reducible repeat (first | apply Kd.R_alloc | apply Kd.R_drewN | apply Kd.R_drew)); exact HO138.out) (Kd.R_base ho38) hb); have n6_ := Aside0.mk (Kd.N_elder' (by (with_reducible repeat (first | apply Kd.N_alloc | apply Kd.N_drewN | apply Kd.N_drew)); exact HO144.out) (Kd.R_base ho38) hb); have n7_ := Aside0.mk (Kd.R_elder' (by (with_reducible repeat (first | apply Kd.R_alloc | apply Kd.R_drewN | apply Kd.R_drew)); exact HO147.out) (Kd.R_base ho38) hb); have n8_ := Aside0.mk (Kd.R_lower (Kd.R_new' (Kd.R_new' ho38 (Kd.R_lt (by (with_reducible repeat (first | apply Kd.R_alloc | apply Kd.R_drewN | apply Kd.R_drew)); exact HO138.out))) (Kd.R_lt (by (with_reducible repeat (first | apply Kd.R_alloc | apply Kd.R_drewN | apply Kd.R_drew)); exact HO147.out))) (below_size (by repeat (first | (with_reducible first | exact HB.out | apply below_alloc | apply pw_below_drewN | apply below_drew1) | exact HB.out)))); have n9_ := Aside0.mk (Kd.C_below (by repeat (first | (with_reducible exact HR132_1.out) | (with_reducible refine Kd.C_alloc ?_ _) | (with_reducible refine Kd.C_drewN ?_ _) | (with_reducible refine Kd.C_drew ?_) | exact HR132_1.out)) hb); have n10_ := Aside0.mk (Kd.C_below (by repeat (first | (with_reducible exact HR133_1.out) | (with_reducible refine Kd.C_alloc ?_ _) | (with_reducible refine Kd.C_drewN ?_ _) | (with_reducible refine Kd.C_drew ?_) | exact HR133_1.out)) hb); have n11_ := Aside0.mk (Kd.C_below (by repeat (first | (with_reducible exact HR134_1.out) | (with_reducible refine Kd.C_alloc ?_ _) | (with_reducible refine Kd.C_drewN ?_ _) | (with_reducible refine Kd.C_drew ?_) | exact HR134_1.out)) hb); have n12_ := Aside0.mk (Kd.C_below (by repeat (first | (with_reducible exact HR135_1.out) | (with_reducible refine Kd.C_alloc ?_ _) | (with_reducible refine Kd.C_drewN ?_ _) | (with_reducible refine Kd.C_drew ?_) | exact HR135_1.out)) hb); have n13_ := Aside0.mk (below_step (by repeat (first | (with_reducible first | exact HB.out | apply below_alloc | apply pw_below_drewN | apply below_drew1) | exact HB.out)) hb); clear HO_1; clear HL132_1; clear HL133_1; clear HL134_1; clear HL135_1; clear HO138; clear HO144; clear HO147; clear HR132_1; clear HR133_1; clear HR134_1; clear HR135_1; clear HB; have HO_1 := n0_; have HL132_1 := n1_; have HL133_1 := n2_; have HL134_1 := n3_; have HL135_1 := n4_; have HO138 := n5_; have HO144 := n6_; have HO147 := n7_; have HO150 := n8_; have HR132_1 := n9_; have HR133_1 := n10_; have HR134_1 := n11_; have HR135_1 := n12_; have HB := n13_; clear n0_ n1_ n2_ n3_ n4_ n5_ n6_ n7_ n8_ n9_ n10_ n11_ n12_ n13_; clear hb ho38; obtain ⟨Ao39, co39, eo39⟩ := Kd.R_slice HO147.out; subst eo39; obtain ⟨Ao40, co40, eo40⟩ := Kd.R_slice HO150.out; subst eo40) | (go_at_call 23; (with_reducible refine (newsreelref01_Bytes.calls _ _ t145 _ _ y148 t151 _ ?side1 ?side2 ?side3 ?side4 A25.out).mono ?_); (case side1 => repeat (first | exact (Kd.R_reads' HO147.out).2.2 | (with_reducible refine Kd.C_alloc ?_ _) | (with_reducible refine Kd.C_drewN ?_ _) | (with_reducible refine Kd.C_drew ?_))); (case side2 => exact (Kd.R_reads' HO147.out).2.1); (case side3 => repeat (first | exact (Kd.R_reads' HO150.out).2.2 | (with_reducible refine Kd.C_alloc ?_ _) | (with_reducible refine Kd.C_drewN ?_ _) | (with_reducible refine Kd.C_drew ?_))); (case side4 => exact (Kd.R_reads' HO150.out).2.1); rintro e w' ⟨rfl, ⟨nd, rfl⟩⟩))
                      go_ret
                      exact ⟨by first | rfl | (simp [errW_none, errW_some] <;> rfl) | (simp [*, errW_none, errW_some] <;> rfl), by repeat (first | (with_reducible first | exact HB.out | apply below_alloc | apply pw_below_drewN | apply below_drew1) | exact HB.out)⟩
                    · rw [if_neg c23] at H
                      have c23b0 : ((((rd_T46 t121 1).f1).length : Int) == 14) = false := beq_eq_false_iff_ne.mpr c23
                      have c23b1 : ((((rd_T46 t121 1).f1).length : Int) != 14) = true := bne_iff_ne.mpr c23
                      obtain rfl := Option.some.inj H
                      obtain ⟨Ao41, co41, eo41⟩ := Kd.N_slice HO_1.out
                      subst eo41
                      have p132 : 0 ≤ (0 : Int) := (by omega)
                      have q132 : 0 < (t121.length : Int) := of_decide_eq_true (by first | (with_reducible assumption) | assumption)
                      obtain ⟨ad132, A132_1, c132_1, e132, hx132_0, hx132_1, hl132_1, hi132_1⟩ := at_T46 (Kd.N_reads' HO_1.out).2.2 0 p132 q132
                      cases e132
                      obtain ⟨ce132, hce132, hMe132, hcc132⟩ := Kd.N_get HO_1.out z46 0 p132 (by first | exact q132 | exact of_decide_eq_true (by first | (with_reducible assumption) | assumption) | (have e_ := (Kd.N_reads' HO_1.out).1; omega))
                      obtain ⟨ua132_1, uc132_1, rfl, ul132_1, ge132_1⟩ := k46_openF hMe132
                      have hv132_1 := hcc132 1 _ rfl
                      rw [add_field _ _ 1 (by omega)] at hv132_1
                      replace hv132_1 := Option.some.inj (hv132_1.symm.trans hx132_1)
                      injection hv132_1 with hva_ hvn_ hvc_
                      rw [hva_] at ge132_1
                      rw [hvc_] at ul132_1
                      have HL132_1 := Aside0.mk (show Kd.V (Kd.int .u8) 5 _ w.heap.size _ _ ((rd_T46 t121 0).f1) from Kd.V_mk ul132_1 ge132_1)
                      clear hva_ hvn_ hvc_ ge132_1 ul132_1
                      clear hcc132 hce132
                      have qi132 : (0 < t121.length) = True := eq_true (by omega)
                      (try rw [show ((0 : Int)).toNat = 0 from rfl] at hx132_0)
                      (try rw [show 0 * 2 = 0 from rfl] at hx132_0)
                      (try rw [Addr.add_zero'] at hx132_0)
                      (try rw [show ((0 : Int)).toNat = 0 from rfl] at hx132_1)
                      (try rw [show 0 * 2 = 0 from rfl] at hx132_1)
                      (try rw [Addr.add_zero'] at hx132_1)
                      have HR132_1 := Aside0.mk hi132_1
                      have HC132_1 := Aside0.mk hl132_1
                      clear hi132_1 hl132_1
                      replace p132 := eq_true p132
                      replace q132 := eq_true q132
                      have p133 : 0 ≤ (0 : Int) := (by omega)
                      have q133 : 0 < (t121.length : Int) := of_decide_eq_true (by first | (with_reducible assumption) | assumption)
                      obtain ⟨ad133, A133_1, c133_1, e133, hx133_0, hx133_1, hl133_1, hi133_1⟩ := at_T46 (Kd.N_reads' HO_1.out).2.2 0 p133 q133
                      obtain rfl : ad132 = ad133 := (by injection e133)
                      obtain ⟨ce133, hce133, hMe133, hcc133⟩ := Kd.N_get HO_1.out z46 0 p133 (by first | exact q133 | exact of_decide_eq_true (by first | (with_reducible assumption) | assumption) | (have e_ := (Kd.N_reads' HO_1.out).1; omega))
                      obtain ⟨ua133_1, uc133_1, rfl, ul133_1, ge133_1⟩ := k46_openF hMe133
                      have hv133_1 := hcc133 1 _ rfl
                      rw [add_field _ _ 1 (by omega)] at hv133_1
                      replace hv133_1 := Option.some.inj (hv133_1.symm.trans hx133_1)
                      injection hv133_1 with hva_ hvn_ hvc_
                      rw [hva_] at ge133_1
                      rw [hvc_] at ul133_1
                      have HL133_1 := Aside0.mk (show Kd.V (Kd.int .u8) 5 _ w.heap.size _ _ ((rd_T46 t121 0).f1) from Kd.V_mk ul133_1 ge133_1)
                      clear hva_ hvn_ hvc_ ge133_1 ul133_1
                      clear hcc133 hce133
                      have qi133 : (0 < t121.length) = True := eq_true (by omega)
                      (try rw [show ((0 : Int)).toNat = 0 from rfl] at hx133_0)
                      (try rw [show 0 * 2 = 0 from rfl] at hx133_0)
                      (try rw [Addr.add_zero'] at hx133_0)
                      (try rw [show ((0 : Int)).toNat = 0 from rfl] at hx133_1)
                      (try rw [show 0 * 2 = 0 from rfl] at hx133_1)
                      (try rw [Addr.add_zero'] at hx133_1)
                      have HR133_1 := Aside0.mk hi133_1
                      have HC133_1 := Aside0.mk hl133_1
                      clear hi133_1 hl133_1
                      replace p133 := eq_true p133
                      replace q133 := eq_true q133
                      have ea_ := Option.some.inj (hx132_1.symm.trans hx133_1)
                      injection ea_ with ea_ en_ ec_
                      subst ea_
                      subst ec_
                      clear en_
                      have p134 : 0 ≤ (1 : Int) := (by omega)
                      have q134 : 1 < (t121.length : Int) := of_decide_eq_true (by first | (with_reducible assumption) | assumption)
                      obtain ⟨ad134, A134_1, c134_1, e134, hx134_0, hx134_1, hl134_1, hi134_1⟩ := at_T46 (Kd.N_reads' HO_1.out).2.2 1 p134 q134
                      obtain rfl : ad132 = ad134 := (by injection e134)
                      obtain ⟨ce134, hce134, hMe134, hcc134⟩ := Kd.N_get HO_1.out z46 1 p134 (by first | exact q134 | exact of_decide_eq_true (by first | (with_reducible assumption) | assumption) | (have e_ := (Kd.N_reads' HO_1.out).1; omega))
                      obtain ⟨ua134_1, uc134_1, rfl, ul134_1, ge134_1⟩ := k46_openF hMe134
                      have hv134_1 := hcc134 1 _ rfl
                      rw [add_field _ _ 1 (by omega)] at hv134_1
                      replace hv134_1 := Option.some.inj (hv134_1.symm.trans hx134_1)
                      injection hv134_1 with hva_ hvn_ hvc_
                      rw [hva_] at ge134_1
                      rw [hvc_] at ul134_1
                      have HL134_1 := Aside0.mk (show Kd.V (Kd.int .u8) 5 _ w.heap.size _ _ ((rd_T46 t121 1).f1) from Kd.V_mk ul134_1 ge134_1)
                      clear hva_ hvn_ hvc_ ge134_1 ul134_1
                      clear hcc134 hce134
                      (try simp only [show (1 : Int).toNat = 1 from rfl, Nat.reduceMul, Nat.reduceEqDiff, Go.Addr.add, ↓reduceIte] at hx134_0)
                      (try simp only [show (1 : Int).toNat = 1 from rfl, Nat.reduceMul, Nat.reduceEqDiff, Go.Addr.add, ↓reduceIte] at hx134_1)
                      have qi134 : (1 < t121.length) = True := eq_true (by omega)
                      (try rw [show ((1 : Int)).toNat = 1 from rfl] at hx134_0)
                      (try rw [show 1 * 2 = 2 from rfl] at hx134_0)
                      (try rw [show ((1 : Int)).toNat = 1 from rfl] at hx134_1)
                      (try rw [show 1 * 2 = 2 from rfl] at hx134_1)
                      have HR134_1 := Aside0.mk hi134_1
                      have HC134_1 := Aside0.mk hl134_1
                      clear hi134_1 hl134_1
                      replace p134 := eq_true p134
                      replace q134 := eq_true q134
                      have p135 : 0 ≤ (1 : Int) := (by omega)
                      have q135 : 1 < (t121.length : Int) := of_decide_eq_true (by first | (with_reducible assumption) | assumption)
                      obtain ⟨ad135, A135_1, c135_1, e135, hx135_0, hx135_1, hl135_1, hi135_1⟩ := at_T46 (Kd.N_reads' HO_1.out).2.2 1 p135 q135
                      obtain rfl : ad132 = ad135 := (by injection e135)
                      obtain ⟨ce135, hce135, hMe135, hcc135⟩ := Kd.N_get HO_1.out z46 1 p135 (by first | exact q135 | exact of_decide_eq_true (by first | (with_reducible assumption) | assumption) | (have e_ := (Kd.N_reads' HO_1.out).1; omega))
                      obtain ⟨ua135_1, uc135_1, rfl, ul135_1, ge135_1⟩ := k46_openF hMe135
                      have hv135_1 := hcc135 1 _ rfl
                      rw [add_field _ _ 1 (by omega)] at hv135_1
                      replace hv135_1 := Option.some.inj (hv135_1.symm.trans hx135_1)
                      injection hv135_1 with hva_ hvn_ hvc_
                      rw [hva_] at ge135_1
                      rw [hvc_] at ul135_1
                      have HL135_1 := Aside0.mk (show Kd.V (Kd.int .u8) 5 _ w.heap.size _ _ ((rd_T46 t121 1).f1) from Kd.V_mk ul135_1 ge135_1)
                      clear hva_ hvn_ hvc_ ge135_1 ul135_1
                      clear hcc135 hce135
                      (try simp only [show (1 : Int).toNat = 1 from rfl, Nat.reduceMul, Nat.reduceEqDiff, Go.Addr.add, ↓reduceIte] at hx135_0)
                      (try simp only [show (1 : Int).toNat = 1 from rfl, Nat.reduceMul, Nat.reduceEqDiff, Go.Addr.add, ↓reduceIte] at hx135_1)
                      have qi135 : (1 < t121.length) = True := eq_true (by omega)
                      (try rw [show ((1 : Int)).toNat = 1 from rfl] at hx135_0)
                      (try rw [show 1 * 2 = 2 from rfl] at hx135_0)
                      (try rw [show ((1 : Int)).toNat = 1 from rfl] at hx135_1)
                      (try rw [show 1 * 2 = 2 from rfl] at hx135_1)
                      have HR135_1 := Aside0.mk hi135_1
                      have HC135_1 := Aside0.mk hl135_1
                      clear hi135_1 hl135_1
                      replace p135 := eq_true p135
                      replace q135 := eq_true q135
                      have ea_ := Option.some.inj (hx134_1.symm.trans hx135_1)
                      injection ea_ with ea_ en_ ec_
                      subst ea_
                      subst ec_
                      clear en_
                      go_wp2
                      go_ret
                      exact ⟨by first | rfl | (simp [errW_none, errW_some] <;> rfl) | (simp [*, errW_none, errW_some] <;> rfl), by repeat (first | (with_reducible first | exact HB.out | apply below_alloc | apply pw_below_drewN | apply below_drew1) | exact HB.out)⟩
                  · rw [if_neg c22] at H
                    have c22b0 : (((rd_T46 t121 1).f0) == 16) = false := beq_eq_false_iff_ne.mpr c22
                    have c22b1 : (((rd_T46 t121 1).f0) != 16) = true := bne_iff_ne.mpr c22
                    obtain rfl := Option.some.inj H
                    obtain ⟨Ao42, co42, eo42⟩ := Kd.N_slice HO_1.out
                    subst eo42
                    have p132 : 0 ≤ (0 : Int) := (by omega)
                    have q132 : 0 < (t121.length : Int) := of_decide_eq_true (by first | (with_reducible assumption) | assumption)
                    obtain ⟨ad132, A132_1, c132_1, e132, hx132_0, hx132_1, hl132_1, hi132_1⟩ := at_T46 (Kd.N_reads' HO_1.out).2.2 0 p132 q132
                    cases e132
                    obtain ⟨ce132, hce132, hMe132, hcc132⟩ := Kd.N_get HO_1.out z46 0 p132 (by first | exact q132 | exact of_decide_eq_true (by first | (with_reducible assumption) | assumption) | (have e_ := (Kd.N_reads' HO_1.out).1; omega))
                    obtain ⟨ua132_1, uc132_1, rfl, ul132_1, ge132_1⟩ := k46_openF hMe132
                    have hv132_1 := hcc132 1 _ rfl
                    rw [add_field _ _ 1 (by omega)] at hv132_1
                    replace hv132_1 := Option.some.inj (hv132_1.symm.trans hx132_1)
                    injection hv132_1 with hva_ hvn_ hvc_
                    rw [hva_] at ge132_1
                    rw [hvc_] at ul132_1
                    have HL132_1 := Aside0.mk (show Kd.V (Kd.int .u8) 5 _ w.heap.size _ _ ((rd_T46 t121 0).f1) from Kd.V_mk ul132_1 ge132_1)
                    clear hva_ hvn_ hvc_ ge132_1 ul132_1
                    clear hcc132 hce132
                    have qi132 : (0 < t121.length) = True := eq_true (by omega)
                    (try rw [show ((0 : Int)).toNat = 0 from rfl] at hx132_0)
                    (try rw [show 0 * 2 = 0 from rfl] at hx132_0)
                    (try rw [Addr.add_zero'] at hx132_0)
                    (try rw [show ((0 : Int)).toNat = 0 from rfl] at hx132_1)
                    (try rw [show 0 * 2 = 0 from rfl] at hx132_1)
                    (try rw [Addr.add_zero'] at hx132_1)
                    have HR132_1 := Aside0.mk hi132_1
                    have HC132_1 := Aside0.mk hl132_1
                    clear hi132_1 hl132_1
                    replace p132 := eq_true p132
                    replace q132 := eq_true q132
                    have p133 : 0 ≤ (0 : Int) := (by omega)
                    have q133 : 0 < (t121.length : Int) := of_decide_eq_true (by first | (with_reducible assumption) | assumption)
                    obtain ⟨ad133, A133_1, c133_1, e133, hx133_0, hx133_1, hl133_1, hi133_1⟩ := at_T46 (Kd.N_reads' HO_1.out).2.2 0 p133 q133
                    obtain rfl : ad132 = ad133 := (by injection e133)
                    obtain ⟨ce133, hce133, hMe133, hcc133⟩ := Kd.N_get HO_1.out z46 0 p133 (by first | exact q133 | exact of_decide_eq_true (by first | (with_reducible assumption) | assumption) | (have e_ := (Kd.N_reads' HO_1.out).1; omega))
                    obtain ⟨ua133_1, uc133_1, rfl, ul133_1, ge133_1⟩ := k46_openF hMe133
                    have hv133_1 := hcc133 1 _ rfl
                    rw [add_field _ _ 1 (by omega)] at hv133_1
                    replace hv133_1 := Option.some.inj (hv133_1.symm.trans hx133_1)
                    injection hv133_1 with hva_ hvn_ hvc_
                    rw [hva_] at ge133_1
                    rw [hvc_] at ul133_1
                    have HL133_1 := Aside0.mk (show Kd.V (Kd.int .u8) 5 _ w.heap.size _ _ ((rd_T46 t121 0).f1) from Kd.V_mk ul133_1 ge133_1)
                    clear hva_ hvn_ hvc_ ge133_1 ul133_1
                    clear hcc133 hce133
                    have qi133 : (0 < t121.length) = True := eq_true (by omega)
                    (try rw [show ((0 : Int)).toNat = 0 from rfl] at hx133_0)
                    (try rw [show 0 * 2 = 0 from rfl] at hx133_0)
                    (try rw [Addr.add_zero'] at hx133_0)
                    (try rw [show ((0 : Int)).toNat = 0 from rfl] at hx133_1)
                    (try rw [show 0 * 2 = 0 from rfl] at hx133_1)
                    (try rw [Addr.add_zero'] at hx133_1)
                    have HR133_1 := Aside0.mk hi133_1
                    have HC133_1 := Aside0.mk hl133_1
                    clear hi133_1 hl133_1
                    replace p133 := eq_true p133
                    replace q133 := eq_true q133
                    have ea_ := Option.some.inj (hx132_1.symm.trans hx133_1)
                    injection ea_ with ea_ en_ ec_
                    subst ea_
                    subst ec_
                    clear en_
                    have p134 : 0 ≤ (1 : Int) := (by omega)
                    have q134 : 1 < (t121.length : Int) := of_decide_eq_true (by first | (with_reducible assumption) | assumption)
                    obtain ⟨ad134, A134_1, c134_1, e134, hx134_0, hx134_1, hl134_1, hi134_1⟩ := at_T46 (Kd.N_reads' HO_1.out).2.2 1 p134 q134
                    obtain rfl : ad132 = ad134 := (by injection e134)
                    obtain ⟨ce134, hce134, hMe134, hcc134⟩ := Kd.N_get HO_1.out z46 1 p134 (by first | exact q134 | exact of_decide_eq_true (by first | (with_reducible assumption) | assumption) | (have e_ := (Kd.N_reads' HO_1.out).1; omega))
                    obtain ⟨ua134_1, uc134_1, rfl, ul134_1, ge134_1⟩ := k46_openF hMe134
                    have hv134_1 := hcc134 1 _ rfl
                    rw [add_field _ _ 1 (by omega)] at hv134_1
                    replace hv134_1 := Option.some.inj (hv134_1.symm.trans hx134_1)
                    injection hv134_1 with hva_ hvn_ hvc_
                    rw [hva_] at ge134_1
                    rw [hvc_] at ul134_1
                    have HL134_1 := Aside0.mk (show Kd.V (Kd.int .u8) 5 _ w.heap.size _ _ ((rd_T46 t121 1).f1) from Kd.V_mk ul134_1 ge134_1)
                    clear hva_ hvn_ hvc_ ge134_1 ul134_1
                    clear hcc134 hce134
                    (try simp only [show (1 : Int).toNat = 1 from rfl, Nat.reduceMul, Nat.reduceEqDiff, Go.Addr.add, ↓reduceIte] at hx134_0)
                    (try simp only [show (1 : Int).toNat = 1 from rfl, Nat.reduceMul, Nat.reduceEqDiff, Go.Addr.add, ↓reduceIte] at hx134_1)
                    have qi134 : (1 < t121.length) = True := eq_true (by omega)
                    (try rw [show ((1 : Int)).toNat = 1 from rfl] at hx134_0)
                    (try rw [show 1 * 2 = 2 from rfl] at hx134_0)
                    (try rw [show ((1 : Int)).toNat = 1 from rfl] at hx134_1)
                    (try rw [show 1 * 2 = 2 from rfl] at hx134_1)
                    have HR134_1 := Aside0.mk hi134_1
                    have HC134_1 := Aside0.mk hl134_1
                    clear hi134_1 hl134_1
                    replace p134 := eq_true p134
                    replace q134 := eq_true q134
                    go_wp2
                    go_ret
                    exact ⟨by first | rfl | (simp [errW_none, errW_some] <;> rfl) | (simp [*, errW_none, errW_some] <;> rfl), by repeat (first | (with_reducible first | exact HB.out | apply below_alloc | apply pw_below_drewN | apply below_drew1) | exact HB.out)⟩
                · rw [if_neg c21] at H
                  exact absurd H (by simp)
              · rw [if_neg c20] at H
                have c20b0 : ((((rd_T46 t121 0).f1).length : Int) == 6) = false := beq_eq_false_iff_ne.mpr c20
                have c20b1 : ((((rd_T46 t121 0).f1).length : Int) != 6) = true := bne_iff_ne.mpr c20
                obtain rfl := Option.some.inj H
                obtain ⟨Ao43, co43, eo43⟩ := Kd.N_slice HO_1.out
                subst eo43
                have p132 : 0 ≤ (0 : Int) := (by omega)
                have q132 : 0 < (t121.length : Int) := of_decide_eq_true (by first | (with_reducible assumption) | assumption)
                obtain ⟨ad132, A132_1, c132_1, e132, hx132_0, hx132_1, hl132_1, hi132_1⟩ := at_T46 (Kd.N_reads' HO_1.out).2.2 0 p132 q132
                cases e132
                obtain ⟨ce132, hce132, hMe132, hcc132⟩ := Kd.N_get HO_1.out z46 0 p132 (by first | exact q132 | exact of_decide_eq_true (by first | (with_reducible assumption) | assumption) | (have e_ := (Kd.N_reads' HO_1.out).1; omega))
                obtain ⟨ua132_1, uc132_1, rfl, ul132_1, ge132_1⟩ := k46_openF hMe132
                have hv132_1 := hcc132 1 _ rfl
                rw [add_field _ _ 1 (by omega)] at hv132_1
                replace hv132_1 := Option.some.inj (hv132_1.symm.trans hx132_1)
                injection hv132_1 with hva_ hvn_ hvc_
                rw [hva_] at ge132_1
                rw [hvc_] at ul132_1
                have HL132_1 := Aside0.mk (show Kd.V (Kd.int .u8) 5 _ w.heap.size _ _ ((rd_T46 t121 0).f1) from Kd.V_mk ul132_1 ge132_1)
                clear hva_ hvn_ hvc_ ge132_1 ul132_1
                clear hcc132 hce132
                have qi132 : (0 < t121.length) = True := eq_true (by omega)
                (try rw [show ((0 : Int)).toNat = 0 from rfl] at hx132_0)
                (try rw [show 0 * 2 = 0 from rfl] at hx132_0)
                (try rw [Addr.add_zero'] at hx132_0)
                (try rw [show ((0 : Int)).toNat = 0 from rfl] at hx132_1)
                (try rw [show 0 * 2 = 0 from rfl] at hx132_1)
                (try rw [Addr.add_zero'] at hx132_1)
                have HR132_1 := Aside0.mk hi132_1
                have HC132_1 := Aside0.mk hl132_1
                clear hi132_1 hl132_1
                replace p132 := eq_true p132
                replace q132 := eq_true q132
                have p133 : 0 ≤ (0 : Int) := (by omega)
                have q133 : 0 < (t121.length : Int) := of_decide_eq_true (by first | (with_reducible assumption) | assumption)
                obtain ⟨ad133, A133_1, c133_1, e133, hx133_0, hx133_1, hl133_1, hi133_1⟩ := at_T46 (Kd.N_reads' HO_1.out).2.2 0 p133 q133
                obtain rfl : ad132 = ad133 := (by injection e133)
                obtain ⟨ce133, hce133, hMe133, hcc133⟩ := Kd.N_get HO_1.out z46 0 p133 (by first | exact q133 | exact of_decide_eq_true (by first | (with_reducible assumption) | assumption) | (have e_ := (Kd.N_reads' HO_1.out).1; omega))
                obtain ⟨ua133_1, uc133_1, rfl, ul133_1, ge133_1⟩ := k46_openF hMe133
                have hv133_1 := hcc133 1 _ rfl
                rw [add_field _ _ 1 (by omega)] at hv133_1
                replace hv133_1 := Option.some.inj (hv133_1.symm.trans hx133_1)
                injection hv133_1 with hva_ hvn_ hvc_
                rw [hva_] at ge133_1
                rw [hvc_] at ul133_1
                have HL133_1 := Aside0.mk (show Kd.V (Kd.int .u8) 5 _ w.heap.size _ _ ((rd_T46 t121 0).f1) from Kd.V_mk ul133_1 ge133_1)
                clear hva_ hvn_ hvc_ ge133_1 ul133_1
                clear hcc133 hce133
                have qi133 : (0 < t121.length) = True := eq_true (by omega)
                (try rw [show ((0 : Int)).toNat = 0 from rfl] at hx133_0)
                (try rw [show 0 * 2 = 0 from rfl] at hx133_0)
                (try rw [Addr.add_zero'] at hx133_0)
                (try rw [show ((0 : Int)).toNat = 0 from rfl] at hx133_1)
                (try rw [show 0 * 2 = 0 from rfl] at hx133_1)
                (try rw [Addr.add_zero'] at hx133_1)
                have HR133_1 := Aside0.mk hi133_1
                have HC133_1 := Aside0.mk hl133_1
                clear hi133_1 hl133_1
                replace p133 := eq_true p133
                replace q133 := eq_true q133
                have ea_ := Option.some.inj (hx132_1.symm.trans hx133_1)
                injection ea_ with ea_ en_ ec_
                subst ea_
                subst ec_
                clear en_
                go_wp2
                go_ret
                exact ⟨by first | rfl | (simp [errW_none, errW_some] <;> rfl) | (simp [*, errW_none, errW_some] <;> rfl), by repeat (first | (with_reducible first | exact HB.out | apply below_alloc | apply pw_below_drewN | apply below_drew1) | exact HB.out)⟩
            · rw [if_neg c19] at H
              have c19b0 : (((rd_T46 t121 0).f0) == 10) = false := beq_eq_false_iff_ne.mpr c19
              have c19b1 : (((rd_T46 t121 0).f0) != 10) = true := bne_iff_ne.mpr c19
              obtain rfl := Option.some.inj H
              obtain ⟨Ao44, co44, eo44⟩ := Kd.N_slice HO_1.out
              subst eo44
              have p132 : 0 ≤ (0 : Int) := (by omega)
              have q132 : 0 < (t121.length : Int) := of_decide_eq_true (by first | (with_reducible assumption) | assumption)
              obtain ⟨ad132, A132_1, c132_1, e132, hx132_0, hx132_1, hl132_1, hi132_1⟩ := at_T46 (Kd.N_reads' HO_1.out).2.2 0 p132 q132
              cases e132
              obtain ⟨ce132, hce132, hMe132, hcc132⟩ := Kd.N_get HO_1.out z46 0 p132 (by first | exact q132 | exact of_decide_eq_true (by first | (with_reducible assumption) | assumption) | (have e_ := (Kd.N_reads' HO_1.out).1; omega))
              obtain ⟨ua132_1, uc132_1, rfl, ul132_1, ge132_1⟩ := k46_openF hMe132
              have hv132_1 := hcc132 1 _ rfl
              rw [add_field _ _ 1 (by omega)] at hv132_1
              replace hv132_1 := Option.some.inj (hv132_1.symm.trans hx132_1)
              injection hv132_1 with hva_ hvn_ hvc_
              rw [hva_] at ge132_1
              rw [hvc_] at ul132_1
              have HL132_1 := Aside0.mk (show Kd.V (Kd.int .u8) 5 _ w.heap.size _ _ ((rd_T46 t121 0).f1) from Kd.V_mk ul132_1 ge132_1)
              clear hva_ hvn_ hvc_ ge132_1 ul132_1
              clear hcc132 hce132
              have qi132 : (0 < t121.length) = True := eq_true (by omega)
              (try rw [show ((0 : Int)).toNat = 0 from rfl] at hx132_0)
              (try rw [show 0 * 2 = 0 from rfl] at hx132_0)
              (try rw [Addr.add_zero'] at hx132_0)
              (try rw [show ((0 : Int)).toNat = 0 from rfl] at hx132_1)
              (try rw [show 0 * 2 = 0 from rfl] at hx132_1)
              (try rw [Addr.add_zero'] at hx132_1)
              have HR132_1 := Aside0.mk hi132_1
              have HC132_1 := Aside0.mk hl132_1
              clear hi132_1 hl132_1
              replace p132 := eq_true p132
              replace q132 := eq_true q132
              go_wp2
              go_ret
              exact ⟨by first | rfl | (simp [errW_none, errW_some] <;> rfl) | (simp [*, errW_none, errW_some] <;> rfl), by repeat (first | (with_reducible first | exact HB.out | apply below_alloc | apply pw_below_drewN | apply below_drew1) | exact HB.out)⟩
          · rw [if_neg c18] at H
            exact absurd H (by simp)
  · rw [if_neg c1] at H
    exact absurd H (by simp)

end Go.Proofs.Ytkkikdjfigffhaa.XBlk
