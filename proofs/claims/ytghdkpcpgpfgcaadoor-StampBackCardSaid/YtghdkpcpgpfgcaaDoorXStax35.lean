-- By a program of this work (xprint.py) over the translation; Lean checks it.
import Derived.Test.YtghdkpcpgpfgcaaDoorXStax0
import Derived.Test.YtghdkpcpgpfgcaaDoorXStax25
import Derived.Test.YtghdkpcpgpfgcaaDoorXStax33
import Derived.Test.YtghdkpcpgpfgcaaDoorXStax34
namespace Go.Proofs.YtghdkpcpgpfgcaaDoor.XSta
open Go.RowKit Go.Proofs.YtghdkpcpgpfgcaaDoorW.PrintWords Go.Proofs.YtghdkpcpgpfgcaaDoorW.PrintLast Go.Proofs.YtghdkpcpgpfgcaaDoorW.PrintMore
attribute [local go_sem] max2_int min2_int max_two min_two max_three min_three max_four min_four   -- for this text's walks alone
set_option linter.unusedVariables false
set_option linter.unusedSimpArgs false

/-! ### newsreellaw17_StampBack: function 4 -/
mutual
def newsreellaw17_StampBack.j0 : Nat → Int → Int → ByteArray → ByteArray → Bool → Option (Bool)
  | 0, _, _, _, _, _ => none
  | k + 1, x0, x1, x5, x9, x59 => if x59 = true then (some false) else (if 0 ≤ 16 then (if 16 ≤ (x5.size : Int) then (if 16 ≤ (x9.size : Int) then (if (x5.extract 0 16).toList = (x9.extract 0 16).toList then (newsreellaw17_StampBack.j1 k x0 x1 x5 true) else (newsreellaw17_StampBack.j1 k x0 x1 x5 ((x5.extract 16 x5.size).toList != (x9.extract 16 x9.size).toList))) else (none)) else (none)) else (none))
def newsreellaw17_StampBack.j1 : Nat → Int → Int → ByteArray → Bool → Option (Bool)
  | 0, _, _, _, _ => none
  | k + 1, x0, x1, x5, x71 => if x71 = true then (some false) else ((some (([43, (wrap64 (48 + (wrap64 (Int.tdiv (wrap64 (Int.tdiv (wrap64 (Int.tmod x1 1440)) 60)) 10)))) % 256, (wrap64 (48 + (Int.tmod (wrap64 (Int.tdiv (wrap64 (Int.tmod x1 1440)) 60)) 10))) % 256, (wrap64 (48 + (wrap64 (Int.tdiv (Int.tmod (wrap64 (Int.tmod x1 1440)) 60) 10)))) % 256, (wrap64 (48 + (Int.tmod (Int.tmod (wrap64 (Int.tmod x1 1440)) 60) 10))) % 256] : List Int) : List Int)).bind fun y242 => (if 5 ≤ 26 then (if 26 ≤ (x5.size : Int) then (if (x5.extract 5 26).size + (strOfNums y242).size ≤ 9223372036854775807 then ((stamp_Get.f k ((x5.extract 5 26) ++ (strOfNums y242))).bind fun bt245 => (if bt245.2 = 0 then (if bt245.1 = (wrap64 ((wrap64 (x0)) - (wrap64 (60 * (wrap64 (Int.tmod x1 1440)))))) then ((newsreellaw17_awake.f k).bind fun t247 => (some t247)) else (some false)) else (some false))) else (none)) else (none)) else (none)))
end
def newsreellaw17_StampBack.f (k : Nat) (a0 : Int) (a1 : Int) : Option (Bool) := (stamp_Put.f k (wrap64 (a0))).bind fun bt236 => ((stamp_Get.f k bt236.1).bind fun bt238 => ((stamp_Put.f k (wrap64 ((wrap64 (a0)) + 86400))).bind fun bt240 => (if bt236.2 = 0 then (if bt238.2 = 0 then (if bt240.2 = 0 then (if bt238.1 = (wrap64 (a0)) then (if (bt236.1.size : Int) = 29 then (newsreellaw17_StampBack.j0 k a0 a1 bt236.1 bt240.1 ((bt240.1.size : Int) != 29)) else (newsreellaw17_StampBack.j0 k a0 a1 bt236.1 bt240.1 true)) else (newsreellaw17_StampBack.j0 k a0 a1 bt236.1 bt240.1 true)) else (newsreellaw17_StampBack.j0 k a0 a1 bt236.1 bt240.1 true)) else (newsreellaw17_StampBack.j0 k a0 a1 bt236.1 bt240.1 true)) else (newsreellaw17_StampBack.j0 k a0 a1 bt236.1 bt240.1 true))))
theorem newsreellaw17_StampBack.mono_l : ∀ k, (∀ y0 y1 y2 y3 y4, LeO (newsreellaw17_StampBack.j0 k y0 y1 y2 y3 y4) (newsreellaw17_StampBack.j0 (k + 1) y0 y1 y2 y3 y4)) ∧ (∀ y0 y1 y2 y3, LeO (newsreellaw17_StampBack.j1 k y0 y1 y2 y3) (newsreellaw17_StampBack.j1 (k + 1) y0 y1 y2 y3))
  | 0 => ⟨fun _ _ _ _ _ r h => by simp [newsreellaw17_StampBack.j0] at h, fun _ _ _ _ r h => by simp [newsreellaw17_StampBack.j1] at h⟩
  | k + 1 => by
    obtain ⟨ih0, ih1⟩ := newsreellaw17_StampBack.mono_l k
    refine ⟨?_, ?_⟩
    · intro y0 y1 y2 y3 y4
      unfold newsreellaw17_StampBack.j0
      repeat' first
      | (with_reducible exact ih0 _ _ _ _ _)
      | (with_reducible exact ih1 _ _ _ _)
      | (with_reducible exact newsreellaw17_awake.mono _)
      | (with_reducible exact stamp_Get.mono _ _)
      | (with_reducible exact stamp_Put.mono _ _)
      | (with_reducible exact LeO.refl _)
      | (with_reducible exact LeO.none _)
      | (with_reducible refine LeO.ite ?_ ?_)
      | (with_reducible refine LeO.bind ?_ (fun _ => ?_))
      | exact ih0 _ _ _ _ _
      | exact ih1 _ _ _ _
      | exact newsreellaw17_awake.mono _
      | exact stamp_Get.mono _ _
      | exact stamp_Put.mono _ _
      | exact LeO.none _
      | refine LeO.ite ?_ ?_
      | refine LeO.bind ?_ (fun _ => ?_)
    · intro y0 y1 y2 y3
      unfold newsreellaw17_StampBack.j1
      repeat' first
      | (with_reducible exact ih0 _ _ _ _ _)
      | (with_reducible exact ih1 _ _ _ _)
      | (with_reducible exact newsreellaw17_awake.mono _)
      | (with_reducible exact stamp_Get.mono _ _)
      | (with_reducible exact stamp_Put.mono _ _)
      | (with_reducible exact LeO.refl _)
      | (with_reducible exact LeO.none _)
      | (with_reducible refine LeO.ite ?_ ?_)
      | (with_reducible refine LeO.bind ?_ (fun _ => ?_))
      | exact ih0 _ _ _ _ _
      | exact ih1 _ _ _ _
      | exact newsreellaw17_awake.mono _
      | exact stamp_Get.mono _ _
      | exact stamp_Put.mono _ _
      | exact LeO.none _
      | refine LeO.ite ?_ ?_
      | refine LeO.bind ?_ (fun _ => ?_)
theorem newsreellaw17_StampBack.mono : ∀ a0 a1 k, LeO (newsreellaw17_StampBack.f k a0 a1) (newsreellaw17_StampBack.f (k + 1) a0 a1) := by
  intro a0 a1 k
  obtain ⟨ih0, ih1⟩ := newsreellaw17_StampBack.mono_l k
  unfold newsreellaw17_StampBack.f
  repeat' first
      | (with_reducible exact ih0 _ _ _ _ _)
      | (with_reducible exact ih1 _ _ _ _)
      | (with_reducible exact newsreellaw17_awake.mono _)
      | (with_reducible exact stamp_Get.mono _ _)
      | (with_reducible exact stamp_Put.mono _ _)
      | (with_reducible exact LeO.refl _)
      | (with_reducible exact LeO.none _)
      | (with_reducible refine LeO.ite ?_ ?_)
      | (with_reducible refine LeO.bind ?_ (fun _ => ?_))
      | exact ih0 _ _ _ _ _
      | exact ih1 _ _ _ _
      | exact newsreellaw17_awake.mono _
      | exact stamp_Get.mono _ _
      | exact stamp_Put.mono _ _
      | exact LeO.none _
      | refine LeO.ite ?_ ?_
      | refine LeO.bind ?_ (fun _ => ?_)
set_option maxHeartbeats 8000000 in
set_option maxRecDepth 100000 in
theorem newsreellaw17_StampBack.calls (k : Nat) (a0 : Int) (a1 : Int) (r : Bool) (w : World) (hG : Gw w) (ht_ : r = true) (h : newsreellaw17_StampBack.f k a0 a1 = some r) :
    Calls Tryd.prog 4 #[.int .u32 a0, .int .u16 a1] w fun e w' => e = .returned (.bool r) ∧ Below w.heap.size w w' := by
  have HB := Aside0.mk (Below.refl w.heap.size w)
  have H : ((stamp_Put.f k (wrap64 (a0))).bind fun bt236 => ((stamp_Get.f k bt236.1).bind fun bt238 => ((stamp_Put.f k (wrap64 ((wrap64 (a0)) + 86400))).bind fun bt240 => (if bt236.2 = 0 then (if bt238.2 = 0 then (if bt240.2 = 0 then (if bt238.1 = (wrap64 (a0)) then (if (bt236.1.size : Int) = 29 then (newsreellaw17_StampBack.j0 k a0 a1 bt236.1 bt240.1 ((bt240.1.size : Int) != 29)) else (newsreellaw17_StampBack.j0 k a0 a1 bt236.1 bt240.1 true)) else (newsreellaw17_StampBack.j0 k a0 a1 bt236.1 bt240.1 true)) else (newsreellaw17_StampBack.j0 k a0 a1 bt236.1 bt240.1 true)) else (newsreellaw17_StampBack.j0 k a0 a1 bt236.1 bt240.1 true)) else (newsreellaw17_StampBack.j0 k a0 a1 bt236.1 bt240.1 true))))) = some r := h
  clear h
  replace H := Option.bind_eq_some_iff.mp H
  obtain ⟨⟨t236, t237⟩, A30, H⟩ := H
  replace H : ((stamp_Get.f k t236).bind fun bt238 => ((stamp_Put.f k (wrap64 ((wrap64 (a0)) + 86400))).bind fun bt240 => (if t237 = 0 then (if bt238.2 = 0 then (if bt240.2 = 0 then (if bt238.1 = (wrap64 (a0)) then (if (t236.size : Int) = 29 then (newsreellaw17_StampBack.j0 k a0 a1 t236 bt240.1 ((bt240.1.size : Int) != 29)) else (newsreellaw17_StampBack.j0 k a0 a1 t236 bt240.1 true)) else (newsreellaw17_StampBack.j0 k a0 a1 t236 bt240.1 true)) else (newsreellaw17_StampBack.j0 k a0 a1 t236 bt240.1 true)) else (newsreellaw17_StampBack.j0 k a0 a1 t236 bt240.1 true)) else (newsreellaw17_StampBack.j0 k a0 a1 t236 bt240.1 true)))) = some r := H
  have A3 := Aside0.mk A30
  clear A30
  replace H := Option.bind_eq_some_iff.mp H
  obtain ⟨⟨t238, t239⟩, A40, H⟩ := H
  replace H : ((stamp_Put.f k (wrap64 ((wrap64 (a0)) + 86400))).bind fun bt240 => (if t237 = 0 then (if t239 = 0 then (if bt240.2 = 0 then (if t238 = (wrap64 (a0)) then (if (t236.size : Int) = 29 then (newsreellaw17_StampBack.j0 k a0 a1 t236 bt240.1 ((bt240.1.size : Int) != 29)) else (newsreellaw17_StampBack.j0 k a0 a1 t236 bt240.1 true)) else (newsreellaw17_StampBack.j0 k a0 a1 t236 bt240.1 true)) else (newsreellaw17_StampBack.j0 k a0 a1 t236 bt240.1 true)) else (newsreellaw17_StampBack.j0 k a0 a1 t236 bt240.1 true)) else (newsreellaw17_StampBack.j0 k a0 a1 t236 bt240.1 true))) = some r := H
  have A4 := Aside0.mk A40
  clear A40
  replace H := Option.bind_eq_some_iff.mp H
  obtain ⟨⟨t240, t241⟩, A50, H⟩ := H
  replace H : (if t237 = 0 then (if t239 = 0 then (if t241 = 0 then (if t238 = (wrap64 (a0)) then (if (t236.size : Int) = 29 then (newsreellaw17_StampBack.j0 k a0 a1 t236 t240 ((t240.size : Int) != 29)) else (newsreellaw17_StampBack.j0 k a0 a1 t236 t240 true)) else (newsreellaw17_StampBack.j0 k a0 a1 t236 t240 true)) else (newsreellaw17_StampBack.j0 k a0 a1 t236 t240 true)) else (newsreellaw17_StampBack.j0 k a0 a1 t236 t240 true)) else (newsreellaw17_StampBack.j0 k a0 a1 t236 t240 true)) = some r := H
  have A5 := Aside0.mk A50
  clear A50
  have HC6 := Aside0.mk H
  clear H
  go_enter Tryd.func4, Tryd.ntmps4
  go_upto_region 4 with (first | (go_at_call 8; (with_reducible refine (stamp_Put.calls k (wrap64 (a0)) t236 t237 _ A3.out).mono ?_); rintro e w7 ⟨rfl, hb⟩; have n0_ := Aside0.mk (below_step (below_y HB.out) hb); clear HB; have HB := n0_; clear n0_; (try clear hb); (try clear hb2); (try clear hk); (try clear hi)) | (go_at_call 6; (with_reducible refine (stamp_Get.calls (hG := ?sideG) k t236 t238 t239 _ A4.out).mono ?_); (case sideG => exact gG hG (below_y HB.out)); rintro e w8 ⟨rfl, hb⟩; have n0_ := Aside0.mk (below_step (below_y HB.out) hb); clear HB; have HB := n0_; clear n0_; (try clear hb); (try clear hb2); (try clear hk); (try clear hi)) | (go_at_call 8; (with_reducible refine (stamp_Put.calls k (wrap64 ((wrap64 (a0)) + 86400)) t240 t241 _ A5.out).mono ?_); rintro e w9 ⟨rfl, hb⟩; have n0_ := Aside0.mk (below_step (below_y HB.out) hb); clear HB; have HB := n0_; clear n0_; (try clear hb); (try clear hb2); (try clear hk); (try clear hi)))
  repeat (go_quiet (first | (go_at_call 8; (with_reducible refine (stamp_Put.calls k (wrap64 (a0)) t236 t237 _ A3.out).mono ?_); rintro e w7 ⟨rfl, hb⟩; have n0_ := Aside0.mk (below_step (below_y HB.out) hb); clear HB; have HB := n0_; clear n0_; (try clear hb); (try clear hb2); (try clear hk); (try clear hi)) | (go_at_call 6; (with_reducible refine (stamp_Get.calls (hG := ?sideG) k t236 t238 t239 _ A4.out).mono ?_); (case sideG => exact gG hG (below_y HB.out)); rintro e w8 ⟨rfl, hb⟩; have n0_ := Aside0.mk (below_step (below_y HB.out) hb); clear HB; have HB := n0_; clear n0_; (try clear hb); (try clear hb2); (try clear hk); (try clear hi)) | (go_at_call 8; (with_reducible refine (stamp_Put.calls k (wrap64 ((wrap64 (a0)) + 86400)) t240 t241 _ A5.out).mono ?_); rintro e w9 ⟨rfl, hb⟩; have n0_ := Aside0.mk (below_step (below_y HB.out) hb); clear HB; have HB := n0_; clear n0_; (try clear hb); (try clear hb2); (try clear hk); (try clear hi))); go_upto_region 4 with (first | (go_at_call 8; (with_reducible refine (stamp_Put.calls k (wrap64 (a0)) t236 t237 _ A3.out).mono ?_); rintro e w7 ⟨rfl, hb⟩; have n0_ := Aside0.mk (below_step (below_y HB.out) hb); clear HB; have HB := n0_; clear n0_; (try clear hb); (try clear hb2); (try clear hk); (try clear hi)) | (go_at_call 6; (with_reducible refine (stamp_Get.calls (hG := ?sideG) k t236 t238 t239 _ A4.out).mono ?_); (case sideG => exact gG hG (below_y HB.out)); rintro e w8 ⟨rfl, hb⟩; have n0_ := Aside0.mk (below_step (below_y HB.out) hb); clear HB; have HB := n0_; clear n0_; (try clear hb); (try clear hb2); (try clear hk); (try clear hi)) | (go_at_call 8; (with_reducible refine (stamp_Put.calls k (wrap64 ((wrap64 (a0)) + 86400)) t240 t241 _ A5.out).mono ?_); rintro e w9 ⟨rfl, hb⟩; have n0_ := Aside0.mk (below_step (below_y HB.out) hb); clear HB; have HB := n0_; clear n0_; (try clear hb); (try clear hb2); (try clear hk); (try clear hi))))
  (try simp only [Act.put, List.setIfInBounds_toArray, List.set_cons_zero, List.set_cons_succ])
  go_cut [59] (fun v59 wc => ∃ (kq : Nat) (x59_5 : Bool), v59 = .bool x59_5 ∧ Aside0 (newsreellaw17_StampBack.j0 kq a0 a1 t236 t240 x59_5 = some r) ∧ Aside0 (kq ≤ k) ∧ Aside0 (Below w.heap.size w wc))
  case first =>
    have H := HC6.out
    clear HC6
    by_cases c10 : t237 = 0
    · rw [if_pos c10] at H
      have c10b0 : (t237 == 0) = true := beq_iff_eq.mpr c10
      have c10b1 : (t237 != 0) = false := bne_eq_false_iff_eq.mpr c10
      clear c10
      (first | rw [c10b0] | (simp only [i64_w, i32_w]; rw [c10b0]) | skip)
      by_cases c11 : t239 = 0
      · rw [if_pos c11] at H
        have c11b0 : (t239 == 0) = true := beq_iff_eq.mpr c11
        have c11b1 : (t239 != 0) = false := bne_eq_false_iff_eq.mpr c11
        clear c11
        by_cases c12 : t241 = 0
        · rw [if_pos c12] at H
          have c12b0 : (t241 == 0) = true := beq_iff_eq.mpr c12
          have c12b1 : (t241 != 0) = false := bne_eq_false_iff_eq.mpr c12
          clear c12
          by_cases c13 : t238 = (wrap64 (a0))
          · rw [if_pos c13] at H
            have c13b0 : (t238 == (wrap64 (a0))) = true := beq_iff_eq.mpr c13
            have c13b1 : (t238 != (wrap64 (a0))) = false := bne_eq_false_iff_eq.mpr c13
            clear c13
            by_cases c14 : (t236.size : Int) = 29
            · rw [if_pos c14] at H
              have c14b0 : ((t236.size : Int) == 29) = true := beq_iff_eq.mpr c14
              have c14b1 : ((t236.size : Int) != 29) = false := bne_eq_false_iff_eq.mpr c14
              clear c14
              have H' := Aside0.mk H
              clear H
              go_wp2
              repeat (go_quiet (fail); try go_wp2)
              go_meet
              case rel => exact ⟨_, (((t240.size : Int) != 29)), (by first | rfl | (simp; done) | (simp [*]; done)), H', ⟨by first | omega | exact Nat.le_refl _⟩, ⟨by repeat (first | (with_reducible first | exact HB.out | apply below_alloc | apply pw_below_drewN | apply below_drew1) | exact HB.out)⟩⟩
            · rw [if_neg c14] at H
              have c14b0 : ((t236.size : Int) == 29) = false := beq_eq_false_iff_ne.mpr c14
              have c14b1 : ((t236.size : Int) != 29) = true := bne_iff_ne.mpr c14
              have H' := Aside0.mk H
              clear H
              go_wp2
              repeat (go_quiet (fail); try go_wp2)
              go_meet
              case rel => exact ⟨_, (true), (by first | rfl | (simp; done) | (simp [*]; done)), H', ⟨by first | omega | exact Nat.le_refl _⟩, ⟨by repeat (first | (with_reducible first | exact HB.out | apply below_alloc | apply pw_below_drewN | apply below_drew1) | exact HB.out)⟩⟩
          · rw [if_neg c13] at H
            have c13b0 : (t238 == (wrap64 (a0))) = false := beq_eq_false_iff_ne.mpr c13
            have c13b1 : (t238 != (wrap64 (a0))) = true := bne_iff_ne.mpr c13
            have H' := Aside0.mk H
            clear H
            go_wp2
            repeat (go_quiet (fail); try go_wp2)
            go_meet
            case rel => exact ⟨_, (true), (by first | rfl | (simp; done) | (simp [*]; done)), H', ⟨by first | omega | exact Nat.le_refl _⟩, ⟨by repeat (first | (with_reducible first | exact HB.out | apply below_alloc | apply pw_below_drewN | apply below_drew1) | exact HB.out)⟩⟩
        · rw [if_neg c12] at H
          have c12b0 : (t241 == 0) = false := beq_eq_false_iff_ne.mpr c12
          have c12b1 : (t241 != 0) = true := bne_iff_ne.mpr c12
          have H' := Aside0.mk H
          clear H
          go_wp2
          repeat (go_quiet (fail); try go_wp2)
          go_meet
          case rel => exact ⟨_, (true), (by first | rfl | (simp; done) | (simp [*]; done)), H', ⟨by first | omega | exact Nat.le_refl _⟩, ⟨by repeat (first | (with_reducible first | exact HB.out | apply below_alloc | apply pw_below_drewN | apply below_drew1) | exact HB.out)⟩⟩
      · rw [if_neg c11] at H
        have c11b0 : (t239 == 0) = false := beq_eq_false_iff_ne.mpr c11
        have c11b1 : (t239 != 0) = true := bne_iff_ne.mpr c11
        have H' := Aside0.mk H
        clear H
        go_wp2
        repeat (go_quiet (fail); try go_wp2)
        go_meet
        case rel => exact ⟨_, (true), (by first | rfl | (simp; done) | (simp [*]; done)), H', ⟨by first | omega | exact Nat.le_refl _⟩, ⟨by repeat (first | (with_reducible first | exact HB.out | apply below_alloc | apply pw_below_drewN | apply below_drew1) | exact HB.out)⟩⟩
    · rw [if_neg c10] at H
      have c10b0 : (t237 == 0) = false := beq_eq_false_iff_ne.mpr c10
      have c10b1 : (t237 != 0) = true := bne_iff_ne.mpr c10
      (first | rw [c10b0] | (simp only [i64_w, i32_w]; rw [c10b0]) | skip)
      have H' := Aside0.mk H
      clear H
      go_wp2
      repeat (go_quiet (fail); try go_wp2)
      go_meet
      case rel => exact ⟨_, (true), (by first | rfl | (simp; done) | (simp [*]; done)), H', ⟨by first | omega | exact Nat.le_refl _⟩, ⟨by repeat (first | (with_reducible first | exact HB.out | apply below_alloc | apply pw_below_drewN | apply below_drew1) | exact HB.out)⟩⟩
  case rest =>
    clear HC6
    try clear c1
    try clear p2
    try clear c4
    try clear p6
    try clear c10
    try clear c10b0
    try clear c10b1
    try clear c11
    try clear c11b0
    try clear c11b1
    try clear c12
    try clear c12b0
    try clear c12b1
    try clear c13
    try clear c13b0
    try clear c13b1
    try clear c14
    try clear c14b0
    try clear c14b1
    obtain ⟨kq, x59_5, rfl, HA, HJ5, HB⟩ := hcut
    cases kq with
    | zero => exact absurd HA.out (by simp [newsreellaw17_StampBack.j0])
    | succ kj5 =>
      have H := HA.out
      clear HA
      simp only [newsreellaw17_StampBack.j0] at H
      by_cases c15 : x59_5 = true
      · subst c15
        have H1 : (some false) = some r := by rw [if_pos rfl] at H; exact H
        clear H
        have H := H1
        clear H1
        cases (Option.some.inj H).trans ht_
      · replace c15 := Bool.eq_false_iff.mpr c15
        subst c15
        have H1 : (if 0 ≤ 16 then (if 16 ≤ (t236.size : Int) then (if 16 ≤ (t240.size : Int) then (if (t236.extract 0 16).toList = (t240.extract 0 16).toList then (newsreellaw17_StampBack.j1 kj5 a0 a1 t236 true) else (newsreellaw17_StampBack.j1 kj5 a0 a1 t236 ((t236.extract 16 t236.size).toList != (t240.extract 16 t240.size).toList))) else (none)) else (none)) else (none)) = some r := by rw [if_neg (show ¬ (false = true) by decide)] at H; exact H
        clear H
        have H := H1
        clear H1
        have HC16 := Aside0.mk H
        clear H
        go_upto_region 6 with (fail)
        repeat (go_quiet (fail); go_upto_region 6 with (fail))
        go_cut [71] (fun v71 wc => ∃ (kq : Nat) (x71_15 : Bool), v71 = .bool x71_15 ∧ Aside0 (newsreellaw17_StampBack.j1 kq a0 a1 t236 x71_15 = some r) ∧ Aside0 (kq ≤ kj5) ∧ Aside0 (Below w.heap.size w wc))
        case first =>
          have H := HC16.out
          clear HC16
          by_cases c17 : 0 ≤ 16
          · rw [if_pos c17] at H
            have c17b0 := eq_true c17
            have c17b1 : decide (0 ≤ 16) = true := decide_eq_true c17
            clear c17
            by_cases c18 : 16 ≤ (t236.size : Int)
            · rw [if_pos c18] at H
              have c18b0 := eq_true c18
              have c18b1 : decide (16 ≤ (t236.size : Int)) = true := decide_eq_true c18
              clear c18
              have c19b0 := eq_true (of_decide_eq_true (by first | (with_reducible assumption) | assumption) : 0 ≤ 16)
              by_cases c20 : 16 ≤ (t240.size : Int)
              · rw [if_pos c20] at H
                have c20b0 := eq_true c20
                have c20b1 : decide (16 ≤ (t240.size : Int)) = true := decide_eq_true c20
                clear c20
                by_cases c21 : (t236.extract 0 16).toList = (t240.extract 0 16).toList
                · rw [if_pos c21] at H
                  have c21b0 : ((t236.extract 0 16).toList == (t240.extract 0 16).toList) = true := beq_iff_eq.mpr c21
                  have c21b1 : ((t236.extract 0 16).toList != (t240.extract 0 16).toList) = false := bne_eq_false_iff_eq.mpr c21
                  clear c21
                  (first | rw [c21b0] | (simp only [i64_w, i32_w]; rw [c21b0]) | skip)
                  have H' := Aside0.mk H
                  clear H
                  go_wp2
                  repeat (go_quiet (fail); try go_wp2)
                  go_meet
                  case rel => exact ⟨_, (true), (by first | rfl | (simp; done) | (simp [*]; done)), H', ⟨by have := HJ5.out; first | omega | exact Nat.le_refl _⟩, ⟨by repeat (first | (with_reducible first | exact HB.out | apply below_alloc | apply pw_below_drewN | apply below_drew1) | exact HB.out)⟩⟩
                · rw [if_neg c21] at H
                  have c21b0 : ((t236.extract 0 16).toList == (t240.extract 0 16).toList) = false := beq_eq_false_iff_ne.mpr c21
                  have c21b1 : ((t236.extract 0 16).toList != (t240.extract 0 16).toList) = true := bne_iff_ne.mpr c21
                  (first | rw [c21b0] | (simp only [i64_w, i32_w]; rw [c21b0]) | skip)
                  have c22b0 := eq_true (of_decide_eq_true (by first | (with_reducible assumption) | assumption) : 16 ≤ (t236.size : Int))
                  have c23b0 := eq_true (of_decide_eq_true (by first | (with_reducible assumption) | assumption) : 16 ≤ (t240.size : Int))
                  have H' := Aside0.mk H
                  clear H
                  go_wp2
                  repeat (go_quiet (fail); try go_wp2)
                  go_meet
                  case rel => exact ⟨_, (((t236.extract 16 t236.size).toList != (t240.extract 16 t240.size).toList)), (by first | rfl | (simp; done) | (simp [*]; done)), H', ⟨by have := HJ5.out; first | omega | exact Nat.le_refl _⟩, ⟨by repeat (first | (with_reducible first | exact HB.out | apply below_alloc | apply pw_below_drewN | apply below_drew1) | exact HB.out)⟩⟩
              · rw [if_neg c20] at H
                exact absurd H (by simp)
            · rw [if_neg c18] at H
              exact absurd H (by simp)
          · rw [if_neg c17] at H
            exact absurd H (by simp)
        case rest =>
          clear HC16
          try clear c1
          try clear c2
          try clear p2
          try clear c4
          try clear p6
          try clear c10
          try clear c10b0
          try clear c10b1
          try clear c11
          try clear c11b0
          try clear c11b1
          try clear c12
          try clear c12b0
          try clear c12b1
          try clear c13
          try clear c13b0
          try clear c13b1
          try clear c14
          try clear c14b0
          try clear c14b1
          try clear c15
          try clear c17
          try clear c17b0
          try clear c17b1
          try clear c18
          try clear c18b0
          try clear c18b1
          try clear c19
          try clear c19b0
          try clear c20
          try clear c20b0
          try clear c20b1
          try clear c21
          try clear c21b0
          try clear c21b1
          try clear c22
          try clear c22b0
          try clear c23
          try clear c23b0
          try clear p2
          try clear p6
          obtain ⟨kq, x71_15, rfl, HA, HJ15, HB⟩ := hcut
          cases kq with
          | zero => exact absurd HA.out (by simp [newsreellaw17_StampBack.j1])
          | succ kj15 =>
            have H := HA.out
            clear HA
            simp only [newsreellaw17_StampBack.j1] at H
            by_cases c24 : x71_15 = true
            · subst c24
              have H1 : (some false) = some r := by rw [if_pos rfl] at H; exact H
              clear H
              have H := H1
              clear H1
              cases (Option.some.inj H).trans ht_
            · replace c24 := Bool.eq_false_iff.mpr c24
              subst c24
              have H1 : ((some (([43, (wrap64 (48 + (wrap64 (Int.tdiv (wrap64 (Int.tdiv (wrap64 (Int.tmod a1 1440)) 60)) 10)))) % 256, (wrap64 (48 + (Int.tmod (wrap64 (Int.tdiv (wrap64 (Int.tmod a1 1440)) 60)) 10))) % 256, (wrap64 (48 + (wrap64 (Int.tdiv (Int.tmod (wrap64 (Int.tmod a1 1440)) 60) 10)))) % 256, (wrap64 (48 + (Int.tmod (Int.tmod (wrap64 (Int.tmod a1 1440)) 60) 10))) % 256] : List Int) : List Int)).bind fun y242 => (if 5 ≤ 26 then (if 26 ≤ (t236.size : Int) then (if (t236.extract 5 26).size + (strOfNums y242).size ≤ 9223372036854775807 then ((stamp_Get.f kj15 ((t236.extract 5 26) ++ (strOfNums y242))).bind fun bt245 => (if bt245.2 = 0 then (if bt245.1 = (wrap64 ((wrap64 (a0)) - (wrap64 (60 * (wrap64 (Int.tmod a1 1440)))))) then ((newsreellaw17_awake.f kj15).bind fun t247 => (some t247)) else (some false)) else (some false))) else (none)) else (none)) else (none))) = some r := by rw [if_neg (show ¬ (false = true) by decide)] at H; exact H
              clear H
              have H := H1
              clear H1
              obtain ⟨y242, hy242⟩ : ∃ y_ : List Int, y_ = (([43, (wrap64 (48 + (wrap64 (Int.tdiv (wrap64 (Int.tdiv (wrap64 (Int.tmod a1 1440)) 60)) 10)))) % 256, (wrap64 (48 + (Int.tmod (wrap64 (Int.tdiv (wrap64 (Int.tmod a1 1440)) 60)) 10))) % 256, (wrap64 (48 + (wrap64 (Int.tdiv (Int.tmod (wrap64 (Int.tmod a1 1440)) 60) 10)))) % 256, (wrap64 (48 + (Int.tmod (Int.tmod (wrap64 (Int.tmod a1 1440)) 60) 10))) % 256] : List Int)) := ⟨_, rfl⟩
              replace H : (if 5 ≤ 26 then (if 26 ≤ (t236.size : Int) then (if (t236.extract 5 26).size + (strOfNums y242).size ≤ 9223372036854775807 then ((stamp_Get.f kj15 ((t236.extract 5 26) ++ (strOfNums y242))).bind fun bt245 => (if bt245.2 = 0 then (if bt245.1 = (wrap64 ((wrap64 (a0)) - (wrap64 (60 * (wrap64 (Int.tmod a1 1440)))))) then ((newsreellaw17_awake.f kj15).bind fun t247 => (some t247)) else (some false)) else (some false))) else (none)) else (none)) else (none)) = some r := by first | (rw [hy242]; with_reducible exact H) | (have H2_ := (Option.bind_some _ _).symm.trans H; rw [hy242]; with_reducible exact H2_) | (have H2_ := (Option.bind_some _ _).symm.trans H; with_reducible exact H2_) | with_reducible exact H | (rw [hy242]; exact H) | exact H
              have Ny242 := Aside0.mk hy242
              clear hy242
              by_cases c25 : 5 ≤ 26
              · rw [if_pos c25] at H
                have c25b0 := eq_true c25
                have c25b1 : decide (5 ≤ 26) = true := decide_eq_true c25
                clear c25
                by_cases c26 : 26 ≤ (t236.size : Int)
                · rw [if_pos c26] at H
                  have c26b0 := eq_true c26
                  have c26b1 : decide (26 ≤ (t236.size : Int)) = true := decide_eq_true c26
                  clear c26
                  by_cases c27 : (t236.extract 5 26).size + (strOfNums y242).size ≤ 9223372036854775807
                  · rw [if_pos c27] at H
                    have c27b0 := eq_true c27
                    have c27b1 : decide ((t236.extract 5 26).size + (strOfNums y242).size ≤ 9223372036854775807) = true := decide_eq_true c27
                    try have c27b2 : (9223372036854775807 < (t236.extract 5 26).size + (strOfNums y242).size) = False := eq_false (Nat.not_lt.2 c27)
                    replace H := Option.bind_eq_some_iff.mp H
                    obtain ⟨⟨t245, t246⟩, A280, H⟩ := H
                    replace H : (if t246 = 0 then (if t245 = (wrap64 ((wrap64 (a0)) - (wrap64 (60 * (wrap64 (Int.tmod a1 1440)))))) then ((newsreellaw17_awake.f kj15).bind fun t247 => (some t247)) else (some false)) else (some false)) = some r := H
                    have A28 := Aside0.mk A280
                    clear A280
                    by_cases c29 : t246 = 0
                    · rw [if_pos c29] at H
                      have c29b0 : (t246 == 0) = true := beq_iff_eq.mpr c29
                      have c29b1 : (t246 != 0) = false := bne_eq_false_iff_eq.mpr c29
                      clear c29
                      by_cases c30 : t245 = (wrap64 ((wrap64 (a0)) - (wrap64 (60 * (wrap64 (Int.tmod a1 1440))))))
                      · rw [if_pos c30] at H
                        have c30b0 : (t245 == (wrap64 ((wrap64 (a0)) - (wrap64 (60 * (wrap64 (Int.tmod a1 1440))))))) = true := beq_iff_eq.mpr c30
                        have c30b1 : (t245 != (wrap64 ((wrap64 (a0)) - (wrap64 (60 * (wrap64 (Int.tmod a1 1440))))))) = false := bne_eq_false_iff_eq.mpr c30
                        clear c30
                        replace H := Option.bind_eq_some_iff.mp H
                        obtain ⟨t247, A310, H⟩ := H
                        replace H : (some t247) = some r := H
                        have A31 := Aside0.mk A310
                        clear A310
                        obtain rfl := Option.some.inj H
                        go_wp2_with (first | ((with_reducible refine gate_dst (N := 95) rfl ?_); (try (refine gate_guard (by rfl) ?_; dsimp only)); refine Kd.R_lit (Kd.int .u8) _ 5 ?hg (N := 95) ?hd (xs := ([43, (wrap64 (48 + (wrap64 (Int.tdiv (wrap64 (Int.tdiv (wrap64 (Int.tmod a1 1440)) 60)) 10)))) % 256, (wrap64 (48 + (Int.tmod (wrap64 (Int.tdiv (wrap64 (Int.tmod a1 1440)) 60)) 10))) % 256, (wrap64 (48 + (wrap64 (Int.tdiv (Int.tmod (wrap64 (Int.tmod a1 1440)) 60) 10)))) % 256, (wrap64 (48 + (Int.tmod (Int.tmod (wrap64 (Int.tmod a1 1440)) 60) 10))) % 256] : List Int)) (inner := [.int .u8 43, .int .u8 ((wrap64 (48 + (wrap64 (Int.tdiv (wrap64 (Int.tdiv (wrap64 (Int.tmod a1 1440)) 60)) 10)))) % 256), .int .u8 ((wrap64 (48 + (Int.tmod (wrap64 (Int.tdiv (wrap64 (Int.tmod a1 1440)) 60)) 10))) % 256), .int .u8 ((wrap64 (48 + (wrap64 (Int.tdiv (Int.tmod (wrap64 (Int.tmod a1 1440)) 60) 10)))) % 256), .int .u8 ((wrap64 (48 + (Int.tmod (Int.tmod (wrap64 (Int.tmod a1 1440)) 60) 10))) % 256)]) (ok := fun _ => True) (okp := fun _ => True) ?hr ?hp (fun _ hk => hk) trivial (Below.refl _ _) (Nat.le_refl _) (by simp) ?_; (case hd => rfl); (case hg => rfl); (case hr => first | (go_simp; done) | (go_simp; rfl)); (case hp => exact (Reps.one (show Kd.M (Kd.int .u8) _ _ _ 43 [.int .u8 43] from rfl) (Reps.one (show Kd.M (Kd.int .u8) _ _ _ ((wrap64 (48 + (wrap64 (Int.tdiv (wrap64 (Int.tdiv (wrap64 (Int.tmod a1 1440)) 60)) 10)))) % 256) [.int .u8 ((wrap64 (48 + (wrap64 (Int.tdiv (wrap64 (Int.tdiv (wrap64 (Int.tmod a1 1440)) 60)) 10)))) % 256)] from rfl) (Reps.one (show Kd.M (Kd.int .u8) _ _ _ ((wrap64 (48 + (Int.tmod (wrap64 (Int.tdiv (wrap64 (Int.tmod a1 1440)) 60)) 10))) % 256) [.int .u8 ((wrap64 (48 + (Int.tmod (wrap64 (Int.tdiv (wrap64 (Int.tmod a1 1440)) 60)) 10))) % 256)] from rfl) (Reps.one (show Kd.M (Kd.int .u8) _ _ _ ((wrap64 (48 + (wrap64 (Int.tdiv (Int.tmod (wrap64 (Int.tmod a1 1440)) 60) 10)))) % 256) [.int .u8 ((wrap64 (48 + (wrap64 (Int.tdiv (Int.tmod (wrap64 (Int.tmod a1 1440)) 60) 10)))) % 256)] from rfl) (Reps.one (show Kd.M (Kd.int .u8) _ _ _ ((wrap64 (48 + (Int.tmod (Int.tmod (wrap64 (Int.tmod a1 1440)) 60) 10))) % 256) [.int .u8 ((wrap64 (48 + (Int.tmod (Int.tmod (wrap64 (Int.tmod a1 1440)) 60) 10))) % 256)] from rfl) (Reps.none _ _))))))); intro v243 w32 ho33 hb hg_ hnew_; clear hg_ hnew_; (first | rw [← Ny242.out] at ho33 | (simp only [Int.reduceToNat] at ho33; rw [← Ny242.out] at ho33)); have n0_ := Aside0.mk (Kd.R_lower ho33 (below_size (below_y HB.out))); have n1_ := Aside0.mk (below_step (below_y HB.out) hb); clear HB; have HO244 := n0_; have HB := n1_; clear n0_ n1_; clear hb ho33; have hcv34 := own_string (P := Tryd.prog) Tryd.underlying33 Tryd.underlying5 Tryd.underlying9 (Kd.own_of_R HO244.out)) | (go_at_call 6; (with_reducible refine (stamp_Get.calls (hG := ?sideG) kj15 ((t236.extract 5 26) ++ (strOfNums y242)) t245 t246 _ A28.out).mono ?_); (case sideG => exact gG hG (below_y HB.out)); rintro e w35 ⟨rfl, hb⟩; have n0_ := Aside0.mk (Kd.R_below (Kd.R_y HO244.out) hb); have n1_ := Aside0.mk (below_step (below_y HB.out) hb); clear HO244; clear HB; have HO244 := n0_; have HB := n1_; clear n0_ n1_; (try clear hb); (try clear hb2); (try clear hk); (try clear hi)) | (go_at_call 5; (with_reducible refine (newsreellaw17_awake.calls (hG := ?sideG) kj15  t247 _ A31.out).mono ?_); (case sideG => exact gG hG (below_y HB.out)); rintro e w36 ⟨rfl, hb⟩; have n0_ := Aside0.mk (Kd.R_below (Kd.R_y HO244.out) hb); have n1_ := Aside0.mk (below_step (below_y HB.out) hb); clear HO244; clear HB; have HO244 := n0_; have HB := n1_; clear n0_ n1_; (try clear hb); (try clear hb2); (try clear hk); (try clear hi)))
                        repeat (go_quiet (first | ((with_reducible refine gate_dst (N := 95) rfl ?_); (try (refine gate_guard (by rfl) ?_; dsimp only)); refine Kd.R_lit (Kd.int .u8) _ 5 ?hg (N := 95) ?hd (xs := ([43, (wrap64 (48 + (wrap64 (Int.tdiv (wrap64 (Int.tdiv (wrap64 (Int.tmod a1 1440)) 60)) 10)))) % 256, (wrap64 (48 + (Int.tmod (wrap64 (Int.tdiv (wrap64 (Int.tmod a1 1440)) 60)) 10))) % 256, (wrap64 (48 + (wrap64 (Int.tdiv (Int.tmod (wrap64 (Int.tmod a1 1440)) 60) 10)))) % 256, (wrap64 (48 + (Int.tmod (Int.tmod (wrap64 (Int.tmod a1 1440)) 60) 10))) % 256] : List Int)) (inner := [.int .u8 43, .int .u8 ((wrap64 (48 + (wrap64 (Int.tdiv (wrap64 (Int.tdiv (wrap64 (Int.tmod a1 1440)) 60)) 10)))) % 256), .int .u8 ((wrap64 (48 + (Int.tmod (wrap64 (Int.tdiv (wrap64 (Int.tmod a1 1440)) 60)) 10))) % 256), .int .u8 ((wrap64 (48 + (wrap64 (Int.tdiv (Int.tmod (wrap64 (Int.tmod a1 1440)) 60) 10)))) % 256), .int .u8 ((wrap64 (48 + (Int.tmod (Int.tmod (wrap64 (Int.tmod a1 1440)) 60) 10))) % 256)]) (ok := fun _ => True) (okp := fun _ => True) ?hr ?hp (fun _ hk => hk) trivial (Below.refl _ _) (Nat.le_refl _) (by simp) ?_; (case hd => rfl); (case hg => rfl); (case hr => first | (go_simp; done) | (go_simp; rfl)); (case hp => exact (Reps.one (show Kd.M (Kd.int .u8) _ _ _ 43 [.int .u8 43] from rfl) (Reps.one (show Kd.M (Kd.int .u8) _ _ _ ((wrap64 (48 + (wrap64 (Int.tdiv (wrap64 (Int.tdiv (wrap64 (Int.tmod a1 1440)) 60)) 10)))) % 256) [.int .u8 ((wrap64 (48 + (wrap64 (Int.tdiv (wrap64 (Int.tdiv (wrap64 (Int.tmod a1 1440)) 60)) 10)))) % 256)] from rfl) (Reps.one (show Kd.M (Kd.int .u8) _ _ _ ((wrap64 (48 + (Int.tmod (wrap64 (Int.tdiv (wrap64 (Int.tmod a1 1440)) 60)) 10))) % 256) [.int .u8 ((wrap64 (48 + (Int.tmod (wrap64 (Int.tdiv (wrap64 (Int.tmod a1 1440)) 60)) 10))) % 256)] from rfl) (Reps.one (show Kd.M (Kd.int .u8) _ _ _ ((wrap64 (48 + (wrap64 (Int.tdiv (Int.tmod (wrap64 (Int.tmod a1 1440)) 60) 10)))) % 256) [.int .u8 ((wrap64 (48 + (wrap64 (Int.tdiv (Int.tmod (wrap64 (Int.tmod a1 1440)) 60) 10)))) % 256)] from rfl) (Reps.one (show Kd.M (Kd.int .u8) _ _ _ ((wrap64 (48 + (Int.tmod (Int.tmod (wrap64 (Int.tmod a1 1440)) 60) 10))) % 256) [.int .u8 ((wrap64 (48 + (Int.tmod (Int.tmod (wrap64 (Int.tmod a1 1440)) 60) 10))) % 256)] from rfl) (Reps.none _ _))))))); intro v243 w32 ho33 hb hg_ hnew_; clear hg_ hnew_; (first | rw [← Ny242.out] at ho33 | (simp only [Int.reduceToNat] at ho33; rw [← Ny242.out] at ho33)); have n0_ := Aside0.mk (Kd.R_lower ho33 (below_size (below_y HB.out))); have n1_ := Aside0.mk (below_step (below_y HB.out) hb); clear HB; have HO244 := n0_; have HB := n1_; clear n0_ n1_; clear hb ho33; have hcv34 := own_string (P := Tryd.prog) Tryd.underlying33 Tryd.underlying5 Tryd.underlying9 (Kd.own_of_R HO244.out)) | (go_at_call 6; (with_reducible refine (stamp_Get.calls (hG := ?sideG) kj15 ((t236.extract 5 26) ++ (strOfNums y242)) t245 t246 _ A28.out).mono ?_); (case sideG => exact gG hG (below_y HB.out)); rintro e w35 ⟨rfl, hb⟩; have n0_ := Aside0.mk (Kd.R_below (Kd.R_y HO244.out) hb); have n1_ := Aside0.mk (below_step (below_y HB.out) hb); clear HO244; clear HB; have HO244 := n0_; have HB := n1_; clear n0_ n1_; (try clear hb); (try clear hb2); (try clear hk); (try clear hi)) | (go_at_call 5; (with_reducible refine (newsreellaw17_awake.calls (hG := ?sideG) kj15  t247 _ A31.out).mono ?_); (case sideG => exact gG hG (below_y HB.out)); rintro e w36 ⟨rfl, hb⟩; have n0_ := Aside0.mk (Kd.R_below (Kd.R_y HO244.out) hb); have n1_ := Aside0.mk (below_step (below_y HB.out) hb); clear HO244; clear HB; have HO244 := n0_; have HB := n1_; clear n0_ n1_; (try clear hb); (try clear hb2); (try clear hk); (try clear hi))); try go_wp2_with (first | ((with_reducible refine gate_dst (N := 95) rfl ?_); (try (refine gate_guard (by rfl) ?_; dsimp only)); refine Kd.R_lit (Kd.int .u8) _ 5 ?hg (N := 95) ?hd (xs := ([43, (wrap64 (48 + (wrap64 (Int.tdiv (wrap64 (Int.tdiv (wrap64 (Int.tmod a1 1440)) 60)) 10)))) % 256, (wrap64 (48 + (Int.tmod (wrap64 (Int.tdiv (wrap64 (Int.tmod a1 1440)) 60)) 10))) % 256, (wrap64 (48 + (wrap64 (Int.tdiv (Int.tmod (wrap64 (Int.tmod a1 1440)) 60) 10)))) % 256, (wrap64 (48 + (Int.tmod (Int.tmod (wrap64 (Int.tmod a1 1440)) 60) 10))) % 256] : List Int)) (inner := [.int .u8 43, .int .u8 ((wrap64 (48 + (wrap64 (Int.tdiv (wrap64 (Int.tdiv (wrap64 (Int.tmod a1 1440)) 60)) 10)))) % 256), .int .u8 ((wrap64 (48 + (Int.tmod (wrap64 (Int.tdiv (wrap64 (Int.tmod a1 1440)) 60)) 10))) % 256), .int .u8 ((wrap64 (48 + (wrap64 (Int.tdiv (Int.tmod (wrap64 (Int.tmod a1 1440)) 60) 10)))) % 256), .int .u8 ((wrap64 (48 + (Int.tmod (Int.tmod (wrap64 (Int.tmod a1 1440)) 60) 10))) % 256)]) (ok := fun _ => True) (okp := fun _ => True) ?hr ?hp (fun _ hk => hk) trivial (Below.refl _ _) (Nat.le_refl _) (by simp) ?_; (case hd => rfl); (case hg => rfl); (case hr => first | (go_simp; done) | (go_simp; rfl)); (case hp => exact (Reps.one (show Kd.M (Kd.int .u8) _ _ _ 43 [.int .u8 43] from rfl) (Reps.one (show Kd.M (Kd.int .u8) _ _ _ ((wrap64 (48 + (wrap64 (Int.tdiv (wrap64 (Int.tdiv (wrap64 (Int.tmod a1 1440)) 60)) 10)))) % 256) [.int .u8 ((wrap64 (48 + (wrap64 (Int.tdiv (wrap64 (Int.tdiv (wrap64 (Int.tmod a1 1440)) 60)) 10)))) % 256)] from rfl) (Reps.one (show Kd.M (Kd.int .u8) _ _ _ ((wrap64 (48 + (Int.tmod (wrap64 (Int.tdiv (wrap64 (Int.tmod a1 1440)) 60)) 10))) % 256) [.int .u8 ((wrap64 (48 + (Int.tmod (wrap64 (Int.tdiv (wrap64 (Int.tmod a1 1440)) 60)) 10))) % 256)] from rfl) (Reps.one (show Kd.M (Kd.int .u8) _ _ _ ((wrap64 (48 + (wrap64 (Int.tdiv (Int.tmod (wrap64 (Int.tmod a1 1440)) 60) 10)))) % 256) [.int .u8 ((wrap64 (48 + (wrap64 (Int.tdiv (Int.tmod (wrap64 (Int.tmod a1 1440)) 60) 10)))) % 256)] from rfl) (Reps.one (show Kd.M (Kd.int .u8) _ _ _ ((wrap64 (48 + (Int.tmod (Int.tmod (wrap64 (Int.tmod a1 1440)) 60) 10))) % 256) [.int .u8 ((wrap64 (48 + (Int.tmod (Int.tmod (wrap64 (Int.tmod a1 1440)) 60) 10))) % 256)] from rfl) (Reps.none _ _))))))); intro v243 w32 ho33 hb hg_ hnew_; clear hg_ hnew_; (first | rw [← Ny242.out] at ho33 | (simp only [Int.reduceToNat] at ho33; rw [← Ny242.out] at ho33)); have n0_ := Aside0.mk (Kd.R_lower ho33 (below_size (below_y HB.out))); have n1_ := Aside0.mk (below_step (below_y HB.out) hb); clear HB; have HO244 := n0_; have HB := n1_; clear n0_ n1_; clear hb ho33; have hcv34 := own_string (P := Tryd.prog) Tryd.underlying33 Tryd.underlying5 Tryd.underlying9 (Kd.own_of_R HO244.out)) | (go_at_call 6; (with_reducible refine (stamp_Get.calls (hG := ?sideG) kj15 ((t236.extract 5 26) ++ (strOfNums y242)) t245 t246 _ A28.out).mono ?_); (case sideG => exact gG hG (below_y HB.out)); rintro e w35 ⟨rfl, hb⟩; have n0_ := Aside0.mk (Kd.R_below (Kd.R_y HO244.out) hb); have n1_ := Aside0.mk (below_step (below_y HB.out) hb); clear HO244; clear HB; have HO244 := n0_; have HB := n1_; clear n0_ n1_; (try clear hb); (try clear hb2); (try clear hk); (try clear hi)) | (go_at_call 5; (with_reducible refine (newsreellaw17_awake.calls (hG := ?sideG) kj15  t247 _ A31.out).mono ?_); (case sideG => exact gG hG (below_y HB.out)); rintro e w36 ⟨rfl, hb⟩; have n0_ := Aside0.mk (Kd.R_below (Kd.R_y HO244.out) hb); have n1_ := Aside0.mk (below_step (below_y HB.out) hb); clear HO244; clear HB; have HO244 := n0_; have HB := n1_; clear n0_ n1_; (try clear hb); (try clear hb2); (try clear hk); (try clear hi))))
                        go_ret
                        exact ⟨by first | rfl | (simp [errW_none, errW_some] <;> rfl) | (simp [*, errW_none, errW_some] <;> rfl), by repeat (first | (with_reducible first | exact HB.out | apply below_alloc | apply pw_below_drewN | apply below_drew1) | exact HB.out)⟩
                      · rw [if_neg c30] at H
                        have c30b0 : (t245 == (wrap64 ((wrap64 (a0)) - (wrap64 (60 * (wrap64 (Int.tmod a1 1440))))))) = false := beq_eq_false_iff_ne.mpr c30
                        have c30b1 : (t245 != (wrap64 ((wrap64 (a0)) - (wrap64 (60 * (wrap64 (Int.tmod a1 1440))))))) = true := bne_iff_ne.mpr c30
                        cases (Option.some.inj H).trans ht_
                    · rw [if_neg c29] at H
                      have c29b0 : (t246 == 0) = false := beq_eq_false_iff_ne.mpr c29
                      have c29b1 : (t246 != 0) = true := bne_iff_ne.mpr c29
                      cases (Option.some.inj H).trans ht_
                  · rw [if_neg c27] at H
                    exact absurd H (by simp)
                · rw [if_neg c26] at H
                  exact absurd H (by simp)
              · rw [if_neg c25] at H
                exact absurd H (by simp)

end Go.Proofs.YtghdkpcpgpfgcaaDoor.XSta
