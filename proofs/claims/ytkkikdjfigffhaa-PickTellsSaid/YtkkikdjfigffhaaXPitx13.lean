-- By a program of this work (xprint.py) over the translation; Lean checks it.
import Derived.Test.YtkkikdjfigffhaaXPitx0
import Derived.Test.YtkkikdjfigffhaaXPitx11
import Derived.Test.YtkkikdjfigffhaaXPitx12
namespace Go.Proofs.Ytkkikdjfigffhaa.XPit
open Go.RowKit Go.Proofs.YtkkikdjfigffhaaW.PrintWords Go.Proofs.YtkkikdjfigffhaaW.PrintLast Go.Proofs.YtkkikdjfigffhaaW.PrintMore
attribute [local go_sem] max2_int min2_int max_two min_two max_three min_three max_four min_four   -- for this text's walks alone
set_option linter.unusedVariables false
set_option linter.unusedSimpArgs false

/-! ### newsreelref43_Of: function 40 -/
mutual
def newsreelref43_Of.l0 : Nat → Int → Int → Int → Int → Int → Int → List (S66) → List (S68) → Option (Int × Int × Bool)
  | 0, _, _, _, _, _, _, _, _ => none
  | k + 1, x1, x6, x154000, x154001, x154002, x154003, x154004, x154005 => if x6 < (x154004.length : Int) then ((newsreelref43_first.f k x154000 x154001 x154002 x154003 x154004 x154005 x6 x1).bind fun t155 => (if t155 = true then (if 0 ≤ x6 then (some (1, (rd_T66 x154004 x6).f0, true)) else (none)) else (newsreelref43_Of.l0 k x1 (wrap64 (x6 + 1)) x154000 x154001 x154002 x154003 x154004 x154005))) else (newsreelref43_Of.l1 k x1 0 x154000 x154001 x154002 x154003 x154004 x154005)
def newsreelref43_Of.l1 : Nat → Int → Int → Int → Int → Int → Int → List (S66) → List (S68) → Option (Int × Int × Bool)
  | 0, _, _, _, _, _, _, _, _ => none
  | k + 1, x1, x7, x154000, x154001, x154002, x154003, x154004, x154005 => if x7 < (x154005.length : Int) then (if 0 ≤ x7 then ((newsreelref43_Waits.f ((rd_T68 x154005 x7).f0) ((rd_T68 x154005 x7).f1) ((rd_T68 x154005 x7).f2) ((rd_T68 x154005 x7).f3) ((rd_T68 x154005 x7).f4) ((rd_T68 x154005 x7).f5) ((rd_T68 x154005 x7).f6) ((rd_T68 x154005 x7).f7) ((rd_T68 x154005 x7).f8) ((rd_T68 x154005 x7).f9) ((rd_T68 x154005 x7).f10) ((rd_T68 x154005 x7).f11) ((rd_T68 x154005 x7).f12) ((rd_T68 x154005 x7).f13) ((rd_T68 x154005 x7).f14) ((rd_T68 x154005 x7).f15) ((rd_T68 x154005 x7).f16) ((rd_T68 x154005 x7).f17) ((rd_T68 x154005 x7).f18) ((rd_T68 x154005 x7).f19)).bind fun t159 => (if t159 = true then (newsreelref43_Of.j2 k x1 x7 (decide (((rd_T68 x154005 x7).f12) ≤ x1)) x154000 x154001 x154002 x154003 x154004 x154005 ((rd_T68 x154005 x7).f0) ((rd_T68 x154005 x7).f1) ((rd_T68 x154005 x7).f2) ((rd_T68 x154005 x7).f3) ((rd_T68 x154005 x7).f4) ((rd_T68 x154005 x7).f5) ((rd_T68 x154005 x7).f6) ((rd_T68 x154005 x7).f7) ((rd_T68 x154005 x7).f8) ((rd_T68 x154005 x7).f9) ((rd_T68 x154005 x7).f10) ((rd_T68 x154005 x7).f11) ((rd_T68 x154005 x7).f12) ((rd_T68 x154005 x7).f13) ((rd_T68 x154005 x7).f14) ((rd_T68 x154005 x7).f15) ((rd_T68 x154005 x7).f16) ((rd_T68 x154005 x7).f17) ((rd_T68 x154005 x7).f18) ((rd_T68 x154005 x7).f19)) else (newsreelref43_Of.j2 k x1 x7 false x154000 x154001 x154002 x154003 x154004 x154005 ((rd_T68 x154005 x7).f0) ((rd_T68 x154005 x7).f1) ((rd_T68 x154005 x7).f2) ((rd_T68 x154005 x7).f3) ((rd_T68 x154005 x7).f4) ((rd_T68 x154005 x7).f5) ((rd_T68 x154005 x7).f6) ((rd_T68 x154005 x7).f7) ((rd_T68 x154005 x7).f8) ((rd_T68 x154005 x7).f9) ((rd_T68 x154005 x7).f10) ((rd_T68 x154005 x7).f11) ((rd_T68 x154005 x7).f12) ((rd_T68 x154005 x7).f13) ((rd_T68 x154005 x7).f14) ((rd_T68 x154005 x7).f15) ((rd_T68 x154005 x7).f16) ((rd_T68 x154005 x7).f17) ((rd_T68 x154005 x7).f18) ((rd_T68 x154005 x7).f19)))) else (none)) else (some (0, 0, false))
def newsreelref43_Of.j2 : Nat → Int → Int → Bool → Int → Int → Int → Int → List (S66) → List (S68) → Int → Int → ByteArray → ByteArray → ByteArray → Int → Int → Int → Int → Bool → Int → Int → Int → ByteArray → Int → Int → ByteArray → Int → Int → ByteArray → Option (Int × Int × Bool)
  | 0, _, _, _, _, _, _, _, _, _, _, _, _, _, _, _, _, _, _, _, _, _, _, _, _, _, _, _, _, _ => none
  | k + 1, x1, x7, x9, x154000, x154001, x154002, x154003, x154004, x154005, x159000, x159001, x159002, x159003, x159004, x159005, x159006, x159007, x159008, x159009, x159010, x159011, x159012, x159013, x159014, x159015, x159016, x159017, x159018, x159019 => newsreelref43_Of.l2 k x1 x7 x9 0 x154000 x154001 x154002 x154003 x154004 x154005 x159000 x159001 x159002 x159003 x159004 x159005 x159006 x159007 x159008 x159009 x159010 x159011 x159012 x159013 x159014 x159015 x159016 x159017 x159018 x159019
def newsreelref43_Of.l2 : Nat → Int → Int → Bool → Int → Int → Int → Int → Int → List (S66) → List (S68) → Int → Int → ByteArray → ByteArray → ByteArray → Int → Int → Int → Int → Bool → Int → Int → Int → ByteArray → Int → Int → ByteArray → Int → Int → ByteArray → Option (Int × Int × Bool)
  | 0, _, _, _, _, _, _, _, _, _, _, _, _, _, _, _, _, _, _, _, _, _, _, _, _, _, _, _, _, _, _ => none
  | k + 1, x1, x7, x9, x10, x154000, x154001, x154002, x154003, x154004, x154005, x159000, x159001, x159002, x159003, x159004, x159005, x159006, x159007, x159008, x159009, x159010, x159011, x159012, x159013, x159014, x159015, x159016, x159017, x159018, x159019 => if x10 < (x154005.length : Int) then (if x9 = true then (if 0 ≤ x10 then ((newsreelref43_Waits.f ((rd_T68 x154005 x10).f0) ((rd_T68 x154005 x10).f1) ((rd_T68 x154005 x10).f2) ((rd_T68 x154005 x10).f3) ((rd_T68 x154005 x10).f4) ((rd_T68 x154005 x10).f5) ((rd_T68 x154005 x10).f6) ((rd_T68 x154005 x10).f7) ((rd_T68 x154005 x10).f8) ((rd_T68 x154005 x10).f9) ((rd_T68 x154005 x10).f10) ((rd_T68 x154005 x10).f11) ((rd_T68 x154005 x10).f12) ((rd_T68 x154005 x10).f13) ((rd_T68 x154005 x10).f14) ((rd_T68 x154005 x10).f15) ((rd_T68 x154005 x10).f16) ((rd_T68 x154005 x10).f17) ((rd_T68 x154005 x10).f18) ((rd_T68 x154005 x10).f19)).bind fun t161 => (if t161 = true then (if ((rd_T68 x154005 x10).f12) ≤ x1 then (newsreelref43_Of.l2 k x1 x7 (!(decide (((rd_T68 x154005 x10).f0) < x159000))) (wrap64 (x10 + 1)) x154000 x154001 x154002 x154003 x154004 x154005 x159000 x159001 x159002 x159003 x159004 x159005 x159006 x159007 x159008 x159009 x159010 x159011 x159012 x159013 x159014 x159015 x159016 x159017 x159018 x159019) else (newsreelref43_Of.l2 k x1 x7 (!false) (wrap64 (x10 + 1)) x154000 x154001 x154002 x154003 x154004 x154005 x159000 x159001 x159002 x159003 x159004 x159005 x159006 x159007 x159008 x159009 x159010 x159011 x159012 x159013 x159014 x159015 x159016 x159017 x159018 x159019)) else (newsreelref43_Of.l2 k x1 x7 (!false) (wrap64 (x10 + 1)) x154000 x154001 x154002 x154003 x154004 x154005 x159000 x159001 x159002 x159003 x159004 x159005 x159006 x159007 x159008 x159009 x159010 x159011 x159012 x159013 x159014 x159015 x159016 x159017 x159018 x159019))) else (none)) else (newsreelref43_Of.l2 k x1 x7 false (wrap64 (x10 + 1)) x154000 x154001 x154002 x154003 x154004 x154005 x159000 x159001 x159002 x159003 x159004 x159005 x159006 x159007 x159008 x159009 x159010 x159011 x159012 x159013 x159014 x159015 x159016 x159017 x159018 x159019)) else (if x9 = true then (some (2, x159000, true)) else (newsreelref43_Of.l1 k x1 (wrap64 (x7 + 1)) x154000 x154001 x154002 x154003 x154004 x154005))
end
def newsreelref43_Of.f (k : Nat) (a0_0 : Int) (a0_1 : Int) (a0_2 : Int) (a0_3 : Int) (l0_4 : List (S66)) (l0_5 : List (S68)) (a1 : Int) : Option (Int × Int × Bool) := newsreelref43_Of.l0 k a1 0 a0_0 a0_1 a0_2 a0_3 l0_4 l0_5
theorem newsreelref43_Of.mono_l : ∀ k, (∀ y0 y1 y2 y3 y4 y5 y6 y7, LeO (newsreelref43_Of.l0 k y0 y1 y2 y3 y4 y5 y6 y7) (newsreelref43_Of.l0 (k + 1) y0 y1 y2 y3 y4 y5 y6 y7)) ∧ (∀ y0 y1 y2 y3 y4 y5 y6 y7, LeO (newsreelref43_Of.l1 k y0 y1 y2 y3 y4 y5 y6 y7) (newsreelref43_Of.l1 (k + 1) y0 y1 y2 y3 y4 y5 y6 y7)) ∧ (∀ y0 y1 y2 y3 y4 y5 y6 y7 y8 y9 y10 y11 y12 y13 y14 y15 y16 y17 y18 y19 y20 y21 y22 y23 y24 y25 y26 y27 y28, LeO (newsreelref43_Of.j2 k y0 y1 y2 y3 y4 y5 y6 y7 y8 y9 y10 y11 y12 y13 y14 y15 y16 y17 y18 y19 y20 y21 y22 y23 y24 y25 y26 y27 y28) (newsreelref43_Of.j2 (k + 1) y0 y1 y2 y3 y4 y5 y6 y7 y8 y9 y10 y11 y12 y13 y14 y15 y16 y17 y18 y19 y20 y21 y22 y23 y24 y25 y26 y27 y28)) ∧ (∀ y0 y1 y2 y3 y4 y5 y6 y7 y8 y9 y10 y11 y12 y13 y14 y15 y16 y17 y18 y19 y20 y21 y22 y23 y24 y25 y26 y27 y28 y29, LeO (newsreelref43_Of.l2 k y0 y1 y2 y3 y4 y5 y6 y7 y8 y9 y10 y11 y12 y13 y14 y15 y16 y17 y18 y19 y20 y21 y22 y23 y24 y25 y26 y27 y28 y29) (newsreelref43_Of.l2 (k + 1) y0 y1 y2 y3 y4 y5 y6 y7 y8 y9 y10 y11 y12 y13 y14 y15 y16 y17 y18 y19 y20 y21 y22 y23 y24 y25 y26 y27 y28 y29))
  | 0 => ⟨fun _ _ _ _ _ _ _ _ r h => by simp [newsreelref43_Of.l0] at h, fun _ _ _ _ _ _ _ _ r h => by simp [newsreelref43_Of.l1] at h, fun _ _ _ _ _ _ _ _ _ _ _ _ _ _ _ _ _ _ _ _ _ _ _ _ _ _ _ _ _ r h => by simp [newsreelref43_Of.j2] at h, fun _ _ _ _ _ _ _ _ _ _ _ _ _ _ _ _ _ _ _ _ _ _ _ _ _ _ _ _ _ _ r h => by simp [newsreelref43_Of.l2] at h⟩
  | k + 1 => by
    obtain ⟨ih0, ih1, ih2, ih3⟩ := newsreelref43_Of.mono_l k
    refine ⟨?_, ?_, ?_, ?_⟩
    · intro y0 y1 y2 y3 y4 y5 y6 y7
      unfold newsreelref43_Of.l0
      repeat' first
      | (with_reducible exact ih0 _ _ _ _ _ _ _ _)
      | (with_reducible exact ih1 _ _ _ _ _ _ _ _)
      | (with_reducible exact ih2 _ _ _ _ _ _ _ _ _ _ _ _ _ _ _ _ _ _ _ _ _ _ _ _ _ _ _ _ _)
      | (with_reducible exact ih3 _ _ _ _ _ _ _ _ _ _ _ _ _ _ _ _ _ _ _ _ _ _ _ _ _ _ _ _ _ _)
      | (with_reducible exact newsreelref43_first.mono _ _ _ _ _ _ _ _ _)
      | (with_reducible exact LeO.refl _)
      | (with_reducible exact LeO.none _)
      | (with_reducible refine LeO.ite ?_ ?_)
      | (with_reducible refine LeO.bind ?_ (fun _ => ?_))
      | exact ih0 _ _ _ _ _ _ _ _
      | exact ih1 _ _ _ _ _ _ _ _
      | exact ih2 _ _ _ _ _ _ _ _ _ _ _ _ _ _ _ _ _ _ _ _ _ _ _ _ _ _ _ _ _
      | exact ih3 _ _ _ _ _ _ _ _ _ _ _ _ _ _ _ _ _ _ _ _ _ _ _ _ _ _ _ _ _ _
      | exact newsreelref43_first.mono _ _ _ _ _ _ _ _ _
      | exact LeO.none _
      | refine LeO.ite ?_ ?_
      | refine LeO.bind ?_ (fun _ => ?_)
    · intro y0 y1 y2 y3 y4 y5 y6 y7
      unfold newsreelref43_Of.l1
      repeat' first
      | (with_reducible exact ih0 _ _ _ _ _ _ _ _)
      | (with_reducible exact ih1 _ _ _ _ _ _ _ _)
      | (with_reducible exact ih2 _ _ _ _ _ _ _ _ _ _ _ _ _ _ _ _ _ _ _ _ _ _ _ _ _ _ _ _ _)
      | (with_reducible exact ih3 _ _ _ _ _ _ _ _ _ _ _ _ _ _ _ _ _ _ _ _ _ _ _ _ _ _ _ _ _ _)
      | (with_reducible exact newsreelref43_first.mono _ _ _ _ _ _ _ _ _)
      | (with_reducible exact LeO.refl _)
      | (with_reducible exact LeO.none _)
      | (with_reducible refine LeO.ite ?_ ?_)
      | (with_reducible refine LeO.bind ?_ (fun _ => ?_))
      | exact ih0 _ _ _ _ _ _ _ _
      | exact ih1 _ _ _ _ _ _ _ _
      | exact ih2 _ _ _ _ _ _ _ _ _ _ _ _ _ _ _ _ _ _ _ _ _ _ _ _ _ _ _ _ _
      | exact ih3 _ _ _ _ _ _ _ _ _ _ _ _ _ _ _ _ _ _ _ _ _ _ _ _ _ _ _ _ _ _
      | exact newsreelref43_first.mono _ _ _ _ _ _ _ _ _
      | exact LeO.none _
      | refine LeO.ite ?_ ?_
      | refine LeO.bind ?_ (fun _ => ?_)
    · intro y0 y1 y2 y3 y4 y5 y6 y7 y8 y9 y10 y11 y12 y13 y14 y15 y16 y17 y18 y19 y20 y21 y22 y23 y24 y25 y26 y27 y28
      unfold newsreelref43_Of.j2
      repeat' first
      | (with_reducible exact ih0 _ _ _ _ _ _ _ _)
      | (with_reducible exact ih1 _ _ _ _ _ _ _ _)
      | (with_reducible exact ih2 _ _ _ _ _ _ _ _ _ _ _ _ _ _ _ _ _ _ _ _ _ _ _ _ _ _ _ _ _)
      | (with_reducible exact ih3 _ _ _ _ _ _ _ _ _ _ _ _ _ _ _ _ _ _ _ _ _ _ _ _ _ _ _ _ _ _)
      | (with_reducible exact newsreelref43_first.mono _ _ _ _ _ _ _ _ _)
      | (with_reducible exact LeO.refl _)
      | (with_reducible exact LeO.none _)
      | (with_reducible refine LeO.ite ?_ ?_)
      | (with_reducible refine LeO.bind ?_ (fun _ => ?_))
      | exact ih0 _ _ _ _ _ _ _ _
      | exact ih1 _ _ _ _ _ _ _ _
      | exact ih2 _ _ _ _ _ _ _ _ _ _ _ _ _ _ _ _ _ _ _ _ _ _ _ _ _ _ _ _ _
      | exact ih3 _ _ _ _ _ _ _ _ _ _ _ _ _ _ _ _ _ _ _ _ _ _ _ _ _ _ _ _ _ _
      | exact newsreelref43_first.mono _ _ _ _ _ _ _ _ _
      | exact LeO.none _
      | refine LeO.ite ?_ ?_
      | refine LeO.bind ?_ (fun _ => ?_)
    · intro y0 y1 y2 y3 y4 y5 y6 y7 y8 y9 y10 y11 y12 y13 y14 y15 y16 y17 y18 y19 y20 y21 y22 y23 y24 y25 y26 y27 y28 y29
      unfold newsreelref43_Of.l2
      repeat' first
      | (with_reducible exact ih0 _ _ _ _ _ _ _ _)
      | (with_reducible exact ih1 _ _ _ _ _ _ _ _)
      | (with_reducible exact ih2 _ _ _ _ _ _ _ _ _ _ _ _ _ _ _ _ _ _ _ _ _ _ _ _ _ _ _ _ _)
      | (with_reducible exact ih3 _ _ _ _ _ _ _ _ _ _ _ _ _ _ _ _ _ _ _ _ _ _ _ _ _ _ _ _ _ _)
      | (with_reducible exact newsreelref43_first.mono _ _ _ _ _ _ _ _ _)
      | (with_reducible exact LeO.refl _)
      | (with_reducible exact LeO.none _)
      | (with_reducible refine LeO.ite ?_ ?_)
      | (with_reducible refine LeO.bind ?_ (fun _ => ?_))
      | exact ih0 _ _ _ _ _ _ _ _
      | exact ih1 _ _ _ _ _ _ _ _
      | exact ih2 _ _ _ _ _ _ _ _ _ _ _ _ _ _ _ _ _ _ _ _ _ _ _ _ _ _ _ _ _
      | exact ih3 _ _ _ _ _ _ _ _ _ _ _ _ _ _ _ _ _ _ _ _ _ _ _ _ _ _ _ _ _ _
      | exact newsreelref43_first.mono _ _ _ _ _ _ _ _ _
      | exact LeO.none _
      | refine LeO.ite ?_ ?_
      | refine LeO.bind ?_ (fun _ => ?_)
theorem newsreelref43_Of.mono : ∀ a0 a1 a2 a3 a4 a5 a6 k, LeO (newsreelref43_Of.f k a0 a1 a2 a3 a4 a5 a6) (newsreelref43_Of.f (k + 1) a0 a1 a2 a3 a4 a5 a6) := by
  intro a0 a1 a2 a3 a4 a5 a6 k
  obtain ⟨ih0, ih1, ih2, ih3⟩ := newsreelref43_Of.mono_l k
  unfold newsreelref43_Of.f
  repeat' first
      | (with_reducible exact ih0 _ _ _ _ _ _ _ _)
      | (with_reducible exact ih1 _ _ _ _ _ _ _ _)
      | (with_reducible exact ih2 _ _ _ _ _ _ _ _ _ _ _ _ _ _ _ _ _ _ _ _ _ _ _ _ _ _ _ _ _)
      | (with_reducible exact ih3 _ _ _ _ _ _ _ _ _ _ _ _ _ _ _ _ _ _ _ _ _ _ _ _ _ _ _ _ _ _)
      | (with_reducible exact newsreelref43_first.mono _ _ _ _ _ _ _ _ _)
      | (with_reducible exact LeO.refl _)
      | (with_reducible exact LeO.none _)
      | (with_reducible refine LeO.ite ?_ ?_)
      | (with_reducible refine LeO.bind ?_ (fun _ => ?_))
      | exact ih0 _ _ _ _ _ _ _ _
      | exact ih1 _ _ _ _ _ _ _ _
      | exact ih2 _ _ _ _ _ _ _ _ _ _ _ _ _ _ _ _ _ _ _ _ _ _ _ _ _ _ _ _ _
      | exact ih3 _ _ _ _ _ _ _ _ _ _ _ _ _ _ _ _ _ _ _ _ _ _ _ _ _ _ _ _ _ _
      | exact newsreelref43_first.mono _ _ _ _ _ _ _ _ _
      | exact LeO.none _
      | refine LeO.ite ?_ ?_
      | refine LeO.bind ?_ (fun _ => ?_)
def newsreelref43_Of.T14 : Bool × List (List Nat × List Nat) := (true, [([], []), ([0], [0]), ([1], [1]), ([2, 1], [1, 2]), ([1], [1]), ([3, 4, 1], [1, 3, 4]), ([5, 1], [1, 5]), ([6, 1, 1], [1, 6]), ([7, 7, 1], [1, 7]), ([8], [8]), ([9, 8], [8, 9]), ([8], [8]), ([10, 11, 8], [8, 10, 11]), ([12, 8], [8, 12]), ([13, 8], [8, 13]), ([8], [8]), ([14, 15, 8], [8, 14, 15]), ([8, 16, 1], [1, 8, 16]), ([17, 8, 1], [1, 17]), ([18], [18]), ([19, 18], [18, 19]), ([18], [18]), ([20, 21, 18], [18, 20, 21]), ([22, 18], [18, 22]), ([23, 18], [18, 23]), ([18], [18]), ([25, 18], [18, 25]), ([24, 26, 18], [18, 24, 26]), ([18, 27, 1], [1, 18, 27]), ([28, 1], [1, 28]), ([1, 29], [1, 29]), ([30, 18, 0, 1, 2, 3, 4, 5, 6, 7, 8, 9, 10, 11, 12, 13, 14, 15, 16, 17, 18, 19, 20, 21, 22, 23, 24, 25, 26, 27, 28, 29, 30], [0, 30])])
def newsreelref43_Of.B14 : List Nat := [0, 1, 3, 7, 3, 31, 63, 127, 255, 511, 1023, 511, 4095, 8191, 16383, 511, 65535, 131071, 262143, 524287, 1048575, 524287, 4194303, 8388607, 16777215, 524287, 34078719, 134217727, 268435455, 536870911, 1073741823, 2147483647]
theorem newsreelref43_Of.tab14 : rtab .any (opsOf Try.f40 14) = newsreelref43_Of.T14 := by kernel_rfl
theorem newsreelref43_Of.bits14 : waitsOk newsreelref43_Of.T14.2 newsreelref43_Of.B14 = true := by kernel_rfl
set_option maxHeartbeats 8000000 in
set_option maxRecDepth 100000 in
theorem newsreelref43_Of.calls (k : Nat) (a0_0 : Int) (a0_1 : Int) (a0_2 : Int) (a0_3 : Int) (A0_4 : Option Addr) (c0_4 : Nat) (l0_4 : List (S66)) (A0_5 : Option Addr) (c0_5 : Nat) (l0_5 : List (S68)) (a1 : Int) (r1 : Int) (r2 : Int) (r3 : Bool) (w : World) (hr0_4 : Kd.C k66 w A0_4 l0_4.length l0_4) (hc0_4 : l0_4.length ≤ c0_4) (hr0_5 : Kd.C k68 w A0_5 l0_5.length l0_5) (hc0_5 : l0_5.length ≤ c0_5) (h : newsreelref43_Of.f k a0_0 a0_1 a0_2 a0_3 l0_4 l0_5 a1 = some (r1, r2, r3)) :
    Calls Try.prog 40 #[.agg #[.int .i64 a0_0, .int .i64 a0_1, .int .i64 a0_2, .int .i64 a0_3, .slice A0_4 l0_4.length c0_4, .slice A0_5 l0_5.length c0_5], .int .i64 a1] w fun e w' => e = .returned (.tuple #[.agg #[.int .i64 r1, .int .i64 r2], .bool r3]) ∧ Below w.heap.size w w' := by
  have hu56 := Try.underlying56
  have hu59 := Try.underlying59
  have hu68 := Try.underlying68
  have HR0_4 := Aside0.mk hr0_4
  have HC0_4 := Aside0.mk hc0_4
  clear hr0_4 hc0_4
  have HR0_5 := Aside0.mk hr0_5
  have HC0_5 := Aside0.mk hc0_5
  clear hr0_5 hc0_5
  have HB := Aside0.mk (Below.refl w.heap.size w)
  have H : (newsreelref43_Of.l0 k a1 0 a0_0 a0_1 a0_2 a0_3 l0_4 l0_5) = some (r1, r2, r3) := h
  clear h
  have H' := Aside0.mk H
  clear H
  go_enter Try.func40, Try.ntmps40
  go_wp2_with (first | ((with_reducible refine gate_load (t := 56) rfl ?_); refine load_row3 (t := 56) (g := gb153) ?hg BK153.out ?ho ?hb Try.underlying56 rfl ?hs ?_; (case hg => rfl); (case ho => refine ⟨_, rfl, ?_⟩; first | (with_reducible rfl) | (go_simp; done)); (case hb => (with_reducible repeat (first | refine blk_drewN ?_ _ | refine blk_drew ?_ | refine blk_alloc ?_ _)); with_reducible exact BK153.out); (case hs => kernel_rfl)) | ((with_reducible refine gate_dst (N := 2) rfl ?_); refine box_event ?hg (N := 2) ?hd (cs := #[.int .i64 a0_0, .int .i64 a0_1, .int .i64 a0_2, .int .i64 a0_3, .slice A0_4 l0_4.length c0_4, .slice A0_5 l0_5.length c0_5]) (t := 56) ?hr ?_; (case hd => rfl); (case hg => rfl); (case hr => first | (go_simp; done) | (go_simp; rfl)); intro gb153 hg w3 hbox hb; have n0_ := Aside0.mk (below_step (below_y HB.out) hb); have n1_ := Aside0.mk (hbox); have n2_ := Aside0.mk ((by rw [hg]; exact (below_size (below_y HB.out)) : w.heap.size ≤ gb153)); have n3_ := Aside0.mk ((by rw [hg]; exact (below_size (below_y HB.out)) : w.heap.size ≤ gb153)); clear HB; have HB := n0_; have BK153 := n1_; have GW153 := n2_; have GE153 := n3_; clear n0_ n1_ n2_ n3_; clear hb hbox hg) | ((with_reducible refine gate_dst (N := 4) rfl ?_); refine box_event ?hg (N := 4) ?hd (cs := #[.int .i64 0, .int .i64 0]) (t := 59) ?hr ?_; (case hd => rfl); (case hg => rfl); (case hr => first | (go_simp; done) | (go_simp; rfl)); intro gb154 hg w4 hbox hb; have n0_ := Aside0.mk (blk_below (blk_y BK153.out) hb); have n1_ := Aside0.mk (below_step (below_y HB.out) hb); have n2_ := Aside0.mk (hbox); have n3_ := Aside0.mk ((by rw [hg]; exact (below_size (below_y HB.out)) : w.heap.size ≤ gb154)); have n4_ := Aside0.mk ((by rw [hg]; exact (below_size (below_y HB.out)) : w.heap.size ≤ gb154)); have n5_ := Aside0.mk ((by rw [hg]; exact Nat.ne_of_lt (blk_lt (blk_y BK153.out)) : gb153 ≠ gb154)); have n6_ := Aside0.mk ((by rw [hg]; exact Nat.ne_of_gt (blk_lt (blk_y BK153.out)) : gb154 ≠ gb153)); clear BK153; clear HB; have BK153 := n0_; have HB := n1_; have BK154 := n2_; have GW154 := n3_; have GE154 := n4_; have NB153_154 := n5_; have NB154_153 := n6_; clear n0_ n1_ n2_ n3_ n4_ n5_ n6_; clear hb hbox hg))
  go_loopg [6] k (fun kq v6 w' => ∃ (x6_1 : Int) (x155000_1 : Int) (x155001_1 : Int), v6 = .int .i64 x6_1 ∧ Aside0 (newsreelref43_Of.l0 kq a1 x6_1 a0_0 a0_1 a0_2 a0_3 l0_4 l0_5 = some (r1, r2, r3)) ∧ Aside0 (kq ≤ k) ∧ Aside0 (w'.heap[gb153]? = some (.cells #[.int .i64 a0_0, .int .i64 a0_1, .int .i64 a0_2, .int .i64 a0_3, (.slice A0_4 l0_4.length c0_4), (.slice A0_5 l0_5.length c0_5)] 56 (0, 0))) ∧ Aside0 (w'.heap[gb154]? = some (.cells #[.int .i64 x155000_1, .int .i64 x155001_1] 59 (0, 0))) ∧ Aside0 (Below w.heap.size w w'))
  case atStart => exact ⟨(0), (0), (0), (by first | rfl | (simp; done) | (simp [*]; done)), H', ⟨Nat.le_refl _⟩, ⟨by (with_reducible repeat (first | refine blk_drewN ?_ _ | refine blk_drew ?_ | refine blk_alloc ?_ _)); exact BK153.out⟩, ⟨by (with_reducible repeat (first | refine blk_drewN ?_ _ | refine blk_drew ?_ | refine blk_alloc ?_ _)); exact BK154.out⟩, ⟨by repeat (first | (with_reducible first | exact HB.out | apply below_alloc | apply pw_below_drewN | apply below_drew1 | refine below_set ?_ GE153.out | refine below_set ?_ GE154.out) | exact HB.out)⟩⟩
  clear H'
  try clear p2
  try clear c4
  obtain ⟨x6_1, x155000_1, x155001_1, rfl, HA, HK1, BK153, BK154, HB⟩ := hrel
  rcases gk with _ | k1
  · exact absurd HA.out (by simp [newsreelref43_Of.l0])
  have H := HA.out
  clear HA
  simp only [newsreelref43_Of.l0] at H
  by_cases c5 : x6_1 < (l0_4.length : Int)
  · rw [if_pos c5] at H
    have c5b0 : decide (x6_1 < (l0_4.length : Int)) = true := decide_eq_true c5
    clear c5
    replace H := Option.bind_eq_some_iff.mp H
    obtain ⟨t155, A60, H⟩ := H
    replace H : (if t155 = true then (if 0 ≤ x6_1 then (some (1, (rd_T66 l0_4 x6_1).f0, true)) else (none)) else (newsreelref43_Of.l0 k1 a1 (wrap64 (x6_1 + 1)) a0_0 a0_1 a0_2 a0_3 l0_4 l0_5)) = some (r1, r2, r3) := H
    have A6 := Aside0.mk A60
    clear A60
    by_cases c7 : t155 = true
    · subst c7
      have H1 : (if 0 ≤ x6_1 then (some (1, (rd_T66 l0_4 x6_1).f0, true)) else (none)) = some (r1, r2, r3) := by rw [if_pos rfl] at H; exact H
      clear H
      have H := H1
      clear H1
      by_cases c8 : 0 ≤ x6_1
      · rw [if_pos c8] at H
        have c8b0 : decide (0 ≤ x6_1) = true := decide_eq_true c8
        clear c8
        as_aux_lemma =>
          simp only [Option.some.injEq, Prod.mk.injEq] at H
          obtain ⟨rfl, rfl, rfl⟩ := H
          have hnb9 := NB153_154.out
          have hnc9 := NB154_153.out
          have hcz10_0 : wr.cell? ⟨gb153, 0, none⟩ = some (.int .i64 a0_0) := (blk_cell BK153.out 0).trans rfl
          have hcz10_1 : wr.cell? ⟨gb153, 1, none⟩ = some (.int .i64 a0_1) := (blk_cell BK153.out 1).trans rfl
          have hcz10_2 : wr.cell? ⟨gb153, 2, none⟩ = some (.int .i64 a0_2) := (blk_cell BK153.out 2).trans rfl
          have hcz10_3 : wr.cell? ⟨gb153, 3, none⟩ = some (.int .i64 a0_3) := (blk_cell BK153.out 3).trans rfl
          have hcz10_4 : wr.cell? ⟨gb153, 4, none⟩ = some (.slice A0_4 l0_4.length c0_4) := (blk_cell BK153.out 4).trans rfl
          have hcz10_5 : wr.cell? ⟨gb153, 5, none⟩ = some (.slice A0_5 l0_5.length c0_5) := (blk_cell BK153.out 5).trans rfl
          have hfz10_0 := blk_frozen BK153.out 0
          have hfz10_1 := blk_frozen BK153.out 1
          have hfz10_2 := blk_frozen BK153.out 2
          have hfz10_3 := blk_frozen BK153.out 3
          have hfz10_4 := blk_frozen BK153.out 4
          have hfz10_5 := blk_frozen BK153.out 5
          go_wp2_with (first | ((with_reducible refine gate_load (t := 56) rfl ?_); refine load_row3 (t := 56) (g := gb153) ?hg BK153.out ?ho ?hb Try.underlying56 rfl ?hs ?_; (case hg => rfl); (case ho => refine ⟨_, rfl, ?_⟩; first | (with_reducible rfl) | (go_simp; done)); (case hb => (with_reducible repeat (first | refine blk_drewN ?_ _ | refine blk_drew ?_ | refine blk_alloc ?_ _)); with_reducible exact BK153.out); (case hs => kernel_rfl)) | ((with_reducible refine gate_callee (f := 75) rfl ?_); refine goesL_ (some 21) rfl rfl Try.func75 (by kernel_rfl) rfl #[.agg #[.int .i64 a0_0, .int .i64 a0_1, .int .i64 a0_2, .int .i64 a0_3, .slice A0_4 l0_4.length c0_4, .slice A0_5 l0_5.length c0_5], .int .i64 x6_1, .int .i64 a1] rfl (by (try simp only [List.map_toArray, List.map_cons, List.map_nil]); first | done | rfl | (simp only [List.length_drop, List.length_take]; rfl)) ?_; (with_reducible refine (newsreelref43_first.calls k1 a0_0 a0_1 a0_2 a0_3 _ _ l0_4 _ _ l0_5 x6_1 a1 true _ ?side1 ?side2 ?side3 ?side4 A6.out).mono ?_); (case side1 => repeat (first | exact (Kd.C_below HR0_4.out HB.out) | exact HR0_4.out | (with_reducible refine Kd.C_alloc ?_ _) | (with_reducible refine Kd.C_drewN ?_ _) | (with_reducible refine Kd.C_drew ?_))); (case side2 => exact HC0_4.out); (case side3 => repeat (first | exact (Kd.C_below HR0_5.out HB.out) | exact HR0_5.out | (with_reducible refine Kd.C_alloc ?_ _) | (with_reducible refine Kd.C_drewN ?_ _) | (with_reducible refine Kd.C_drew ?_))); (case side4 => exact HC0_5.out); rintro e w11 ⟨rfl, hb⟩; refine ⟨_, rfl, ?_⟩; have n0_ := Aside0.mk (blk_below (blk_y BK153.out) hb); have n1_ := Aside0.mk (blk_below (blk_y BK154.out) hb); have n2_ := Aside0.mk (below_step (below_y HB.out) hb); clear BK153; clear BK154; clear HB; have BK153 := n0_; have BK154 := n1_; have HB := n2_; clear n0_ n1_ n2_; (try clear hb); (try clear hb2); (try clear hk); (try clear hi); have hcz12_0 : w11.cell? ⟨gb153, 0, none⟩ = some (.int .i64 a0_0) := (blk_cell BK153.out 0).trans rfl; have hcz12_1 : w11.cell? ⟨gb153, 1, none⟩ = some (.int .i64 a0_1) := (blk_cell BK153.out 1).trans rfl; have hcz12_2 : w11.cell? ⟨gb153, 2, none⟩ = some (.int .i64 a0_2) := (blk_cell BK153.out 2).trans rfl; have hcz12_3 : w11.cell? ⟨gb153, 3, none⟩ = some (.int .i64 a0_3) := (blk_cell BK153.out 3).trans rfl; have hcz12_4 : w11.cell? ⟨gb153, 4, none⟩ = some (.slice A0_4 l0_4.length c0_4) := (blk_cell BK153.out 4).trans rfl; have hcz12_5 : w11.cell? ⟨gb153, 5, none⟩ = some (.slice A0_5 l0_5.length c0_5) := (blk_cell BK153.out 5).trans rfl; have hfz12_0 := blk_frozen BK153.out 0; have hfz12_1 := blk_frozen BK153.out 1; have hfz12_2 := blk_frozen BK153.out 2; have hfz12_3 := blk_frozen BK153.out 3; have hfz12_4 := blk_frozen BK153.out 4; have hfz12_5 := blk_frozen BK153.out 5; have p156 : 0 ≤ (x6_1 : Int) := of_decide_eq_true (by first | (with_reducible assumption) | assumption); have q156 : x6_1 < (l0_4.length : Int) := of_decide_eq_true (by first | (with_reducible assumption) | assumption); obtain ⟨ad156, e156, hx156_0, hx156_1, hx156_2, hx156_3, hx156_4⟩ := at_T66 HR0_4.out x6_1 p156 q156; cases e156; replace hx156_0 := (HB.out.cell (World.block_lt_of_cell? w _ hx156_0)).trans hx156_0; replace hx156_1 := (HB.out.cell (World.block_lt_of_cell? w _ hx156_1)).trans hx156_1; replace hx156_2 := (HB.out.cell (World.block_lt_of_cell? w _ hx156_2)).trans hx156_2; replace hx156_3 := (HB.out.cell (World.block_lt_of_cell? w _ hx156_3)).trans hx156_3; replace hx156_4 := (HB.out.cell (World.block_lt_of_cell? w _ hx156_4)).trans hx156_4; replace p156 := eq_true p156; replace q156 := eq_true q156; have hcz13_0 : w11.cell? ⟨gb154, 0, none⟩ = some (.int .i64 x155000_1) := (blk_cell BK154.out 0).trans rfl; have hcz13_1 : w11.cell? ⟨gb154, 1, none⟩ = some (.int .i64 x155001_1) := (blk_cell BK154.out 1).trans rfl; have hfz13_0 := blk_frozen BK154.out 0; have hfz13_1 := blk_frozen BK154.out 1))
          refine bodyPost_ret (results_ct rfl _ _ gb154 59 #[.int .i64 1, .int .i64 ((rd_T66 l0_4 x6_1).f0)] (0, 0) _ rfl (by (with_reducible repeat (first | refine blk_drewN ?_ _ | refine blk_drew ?_ | refine blk_alloc ?_ _)); refine blk_put (cs := #[.int .i64 1, .int .i64 x155001_1]) ?_ 1 _ rfl; (with_reducible repeat (first | refine blk_drewN ?_ _ | refine blk_drew ?_ | refine blk_alloc ?_ _)); refine blk_put (cs := #[.int .i64 x155000_1, .int .i64 x155001_1]) ?_ 0 _ rfl; (with_reducible repeat (first | refine blk_drewN ?_ _ | refine blk_drew ?_ | refine blk_alloc ?_ _)); exact BK154.out) Try.underlying59 rfl (by kernel_rfl)) rfl ?_
          exact ⟨by first | rfl | (simp [errW_none, errW_some] <;> rfl) | (simp [*, errW_none, errW_some] <;> rfl), by repeat (first | (with_reducible first | exact HB.out | apply below_alloc | apply pw_below_drewN | apply below_drew1 | refine below_set ?_ GE153.out | refine below_set ?_ GE154.out) | exact HB.out)⟩
      · rw [if_neg c8] at H
        exact absurd H (by simp)
    · replace c7 := Bool.eq_false_iff.mpr c7
      subst c7
      have H1 : (newsreelref43_Of.l0 k1 a1 (wrap64 (x6_1 + 1)) a0_0 a0_1 a0_2 a0_3 l0_4 l0_5) = some (r1, r2, r3) := by rw [if_neg (show ¬ (false = true) by decide)] at H; exact H
      clear H
      have H := H1
      clear H1
      as_aux_lemma =>
        have H' := Aside0.mk H
        clear H
        have hnb14 := NB153_154.out
        have hnc14 := NB154_153.out
        have hcz15_0 : wr.cell? ⟨gb153, 0, none⟩ = some (.int .i64 a0_0) := (blk_cell BK153.out 0).trans rfl
        have hcz15_1 : wr.cell? ⟨gb153, 1, none⟩ = some (.int .i64 a0_1) := (blk_cell BK153.out 1).trans rfl
        have hcz15_2 : wr.cell? ⟨gb153, 2, none⟩ = some (.int .i64 a0_2) := (blk_cell BK153.out 2).trans rfl
        have hcz15_3 : wr.cell? ⟨gb153, 3, none⟩ = some (.int .i64 a0_3) := (blk_cell BK153.out 3).trans rfl
        have hcz15_4 : wr.cell? ⟨gb153, 4, none⟩ = some (.slice A0_4 l0_4.length c0_4) := (blk_cell BK153.out 4).trans rfl
        have hcz15_5 : wr.cell? ⟨gb153, 5, none⟩ = some (.slice A0_5 l0_5.length c0_5) := (blk_cell BK153.out 5).trans rfl
        have hfz15_0 := blk_frozen BK153.out 0
        have hfz15_1 := blk_frozen BK153.out 1
        have hfz15_2 := blk_frozen BK153.out 2
        have hfz15_3 := blk_frozen BK153.out 3
        have hfz15_4 := blk_frozen BK153.out 4
        have hfz15_5 := blk_frozen BK153.out 5
        go_wp2_with (first | ((with_reducible refine gate_load (t := 56) rfl ?_); refine load_row3 (t := 56) (g := gb153) ?hg BK153.out ?ho ?hb Try.underlying56 rfl ?hs ?_; (case hg => rfl); (case ho => refine ⟨_, rfl, ?_⟩; first | (with_reducible rfl) | (go_simp; done)); (case hb => (with_reducible repeat (first | refine blk_drewN ?_ _ | refine blk_drew ?_ | refine blk_alloc ?_ _)); with_reducible exact BK153.out); (case hs => kernel_rfl)) | ((with_reducible refine gate_callee (f := 75) rfl ?_); refine goesL_ (some 21) rfl rfl Try.func75 (by kernel_rfl) rfl #[.agg #[.int .i64 a0_0, .int .i64 a0_1, .int .i64 a0_2, .int .i64 a0_3, .slice A0_4 l0_4.length c0_4, .slice A0_5 l0_5.length c0_5], .int .i64 x6_1, .int .i64 a1] rfl (by (try simp only [List.map_toArray, List.map_cons, List.map_nil]); first | done | rfl | (simp only [List.length_drop, List.length_take]; rfl)) ?_; (with_reducible refine (newsreelref43_first.calls k1 a0_0 a0_1 a0_2 a0_3 _ _ l0_4 _ _ l0_5 x6_1 a1 false _ ?side1 ?side2 ?side3 ?side4 A6.out).mono ?_); (case side1 => repeat (first | exact (Kd.C_below HR0_4.out HB.out) | exact HR0_4.out | (with_reducible refine Kd.C_alloc ?_ _) | (with_reducible refine Kd.C_drewN ?_ _) | (with_reducible refine Kd.C_drew ?_))); (case side2 => exact HC0_4.out); (case side3 => repeat (first | exact (Kd.C_below HR0_5.out HB.out) | exact HR0_5.out | (with_reducible refine Kd.C_alloc ?_ _) | (with_reducible refine Kd.C_drewN ?_ _) | (with_reducible refine Kd.C_drew ?_))); (case side4 => exact HC0_5.out); rintro e w16 ⟨rfl, hb⟩; refine ⟨_, rfl, ?_⟩; have n0_ := Aside0.mk (blk_below (blk_y BK153.out) hb); have n1_ := Aside0.mk (blk_below (blk_y BK154.out) hb); have n2_ := Aside0.mk (below_step (below_y HB.out) hb); clear BK153; clear BK154; clear HB; have BK153 := n0_; have BK154 := n1_; have HB := n2_; clear n0_ n1_ n2_; (try clear hb); (try clear hb2); (try clear hk); (try clear hi)))
        go_roundg k1
        case measure => have := HK1.out; omega
        case rel => exact ⟨(wrap64 (x6_1 + 1)), (x155000_1), (x155001_1), (by first | rfl | (simp; done) | (simp [*]; done)), H', ⟨by have := HK1.out; omega⟩, ⟨by (with_reducible repeat (first | refine blk_drewN ?_ _ | refine blk_drew ?_ | refine blk_alloc ?_ _)); exact BK153.out⟩, ⟨by (with_reducible repeat (first | refine blk_drewN ?_ _ | refine blk_drew ?_ | refine blk_alloc ?_ _)); exact BK154.out⟩, ⟨by repeat (first | (with_reducible first | exact HB.out | apply below_alloc | apply pw_below_drewN | apply below_drew1 | refine below_set ?_ GE153.out | refine below_set ?_ GE154.out) | exact HB.out)⟩⟩
  rw [if_neg c5] at H
  have c5b0 : decide (x6_1 < (l0_4.length : Int)) = false := decide_eq_false c5
  clear c5
  have H' := Aside0.mk H
  clear H
  have hnb17 := NB153_154.out
  have hnc17 := NB154_153.out
  have hcz18_0 : wr.cell? ⟨gb153, 0, none⟩ = some (.int .i64 a0_0) := (blk_cell BK153.out 0).trans rfl
  have hcz18_1 : wr.cell? ⟨gb153, 1, none⟩ = some (.int .i64 a0_1) := (blk_cell BK153.out 1).trans rfl
  have hcz18_2 : wr.cell? ⟨gb153, 2, none⟩ = some (.int .i64 a0_2) := (blk_cell BK153.out 2).trans rfl
  have hcz18_3 : wr.cell? ⟨gb153, 3, none⟩ = some (.int .i64 a0_3) := (blk_cell BK153.out 3).trans rfl
  have hcz18_4 : wr.cell? ⟨gb153, 4, none⟩ = some (.slice A0_4 l0_4.length c0_4) := (blk_cell BK153.out 4).trans rfl
  have hcz18_5 : wr.cell? ⟨gb153, 5, none⟩ = some (.slice A0_5 l0_5.length c0_5) := (blk_cell BK153.out 5).trans rfl
  have hfz18_0 := blk_frozen BK153.out 0
  have hfz18_1 := blk_frozen BK153.out 1
  have hfz18_2 := blk_frozen BK153.out 2
  have hfz18_3 := blk_frozen BK153.out 3
  have hfz18_4 := blk_frozen BK153.out 4
  have hfz18_5 := blk_frozen BK153.out 5
  go_wp2_with (first | ((with_reducible refine gate_load (t := 56) rfl ?_); refine load_row3 (t := 56) (g := gb153) ?hg BK153.out ?ho ?hb Try.underlying56 rfl ?hs ?_; (case hg => rfl); (case ho => refine ⟨_, rfl, ?_⟩; first | (with_reducible rfl) | (go_simp; done)); (case hb => (with_reducible repeat (first | refine blk_drewN ?_ _ | refine blk_drew ?_ | refine blk_alloc ?_ _)); with_reducible exact BK153.out); (case hs => kernel_rfl)))
  go_loopg [7] k1 (fun kq v7 w' => ∃ (x7_2 : Int) (x155000_2 : Int) (x155001_2 : Int), v7 = .int .i64 x7_2 ∧ Aside0 (newsreelref43_Of.l1 kq a1 x7_2 a0_0 a0_1 a0_2 a0_3 l0_4 l0_5 = some (r1, r2, r3)) ∧ Aside0 (kq ≤ k1) ∧ Aside0 (w'.heap[gb153]? = some (.cells #[.int .i64 a0_0, .int .i64 a0_1, .int .i64 a0_2, .int .i64 a0_3, (.slice A0_4 l0_4.length c0_4), (.slice A0_5 l0_5.length c0_5)] 56 (0, 0))) ∧ Aside0 (w'.heap[gb154]? = some (.cells #[.int .i64 x155000_2, .int .i64 x155001_2] 59 (0, 0))) ∧ Aside0 (Below w.heap.size w w'))
  case atStart => exact ⟨(0), (x155000_1), (x155001_1), (by first | rfl | (simp; done) | (simp [*]; done)), H', ⟨Nat.le_refl _⟩, ⟨by (with_reducible repeat (first | refine blk_drewN ?_ _ | refine blk_drew ?_ | refine blk_alloc ?_ _)); exact BK153.out⟩, ⟨by (with_reducible repeat (first | refine blk_drewN ?_ _ | refine blk_drew ?_ | refine blk_alloc ?_ _)); exact BK154.out⟩, ⟨by repeat (first | (with_reducible first | exact HB.out | apply below_alloc | apply pw_below_drewN | apply below_drew1 | refine below_set ?_ GE153.out | refine below_set ?_ GE154.out) | exact HB.out)⟩⟩
  clear H'
  try clear c1
  try clear p1
  try clear q1
  try clear hx1
  try clear p2
  try clear c4
  try clear c5
  try clear c5b0
  try clear p6
  try clear c7
  try clear c8
  try clear c8b0
  try clear c9
  try clear c14
  try clear p15
  try clear q15
  try clear hx15
  try clear c17
  try clear hcz10_0
  try clear hcz10_1
  try clear hcz10_2
  try clear hcz10_3
  try clear hcz10_4
  try clear hcz10_5
  try clear hcz12_0
  try clear hcz12_1
  try clear hcz12_2
  try clear hcz12_3
  try clear hcz12_4
  try clear hcz12_5
  try clear hcz13_0
  try clear hcz13_1
  try clear hcz15_0
  try clear hcz15_1
  try clear hcz15_2
  try clear hcz15_3
  try clear hcz15_4
  try clear hcz15_5
  try clear hcz18_0
  try clear hcz18_1
  try clear hcz18_2
  try clear hcz18_3
  try clear hcz18_4
  try clear hcz18_5
  try clear hfz10_0
  try clear hfz10_1
  try clear hfz10_2
  try clear hfz10_3
  try clear hfz10_4
  try clear hfz10_5
  try clear hfz12_0
  try clear hfz12_1
  try clear hfz12_2
  try clear hfz12_3
  try clear hfz12_4
  try clear hfz12_5
  try clear hfz13_0
  try clear hfz13_1
  try clear hfz15_0
  try clear hfz15_1
  try clear hfz15_2
  try clear hfz15_3
  try clear hfz15_4
  try clear hfz15_5
  try clear hfz18_0
  try clear hfz18_1
  try clear hfz18_2
  try clear hfz18_3
  try clear hfz18_4
  try clear hfz18_5
  try clear hx156_0
  try clear hx156_1
  try clear hx156_2
  try clear hx156_3
  try clear hx156_4
  try clear p156
  try clear p2
  try clear q156
  obtain ⟨x7_2, x155000_2, x155001_2, rfl, HA, HK2, BK153, BK154, HB⟩ := hrel
  rcases gk with _ | k2
  · exact absurd HA.out (by simp [newsreelref43_Of.l1])
  have H := HA.out
  clear HA
  simp only [newsreelref43_Of.l1] at H
  by_cases c19 : x7_2 < (l0_5.length : Int)
  rotate_left
  · rw [if_neg c19] at H
    have c19b0 : decide (x7_2 < (l0_5.length : Int)) = false := decide_eq_false c19
    clear c19
    as_aux_lemma =>
      simp only [Option.some.injEq, Prod.mk.injEq] at H
      obtain ⟨rfl, rfl, rfl⟩ := H
      have hnb75 := NB153_154.out
      have hnc75 := NB154_153.out
      have hcz76_0 : wr.cell? ⟨gb153, 0, none⟩ = some (.int .i64 a0_0) := (blk_cell BK153.out 0).trans rfl
      have hcz76_1 : wr.cell? ⟨gb153, 1, none⟩ = some (.int .i64 a0_1) := (blk_cell BK153.out 1).trans rfl
      have hcz76_2 : wr.cell? ⟨gb153, 2, none⟩ = some (.int .i64 a0_2) := (blk_cell BK153.out 2).trans rfl
      have hcz76_3 : wr.cell? ⟨gb153, 3, none⟩ = some (.int .i64 a0_3) := (blk_cell BK153.out 3).trans rfl
      have hcz76_4 : wr.cell? ⟨gb153, 4, none⟩ = some (.slice A0_4 l0_4.length c0_4) := (blk_cell BK153.out 4).trans rfl
      have hcz76_5 : wr.cell? ⟨gb153, 5, none⟩ = some (.slice A0_5 l0_5.length c0_5) := (blk_cell BK153.out 5).trans rfl
      have hfz76_0 := blk_frozen BK153.out 0
      have hfz76_1 := blk_frozen BK153.out 1
      have hfz76_2 := blk_frozen BK153.out 2
      have hfz76_3 := blk_frozen BK153.out 3
      have hfz76_4 := blk_frozen BK153.out 4
      have hfz76_5 := blk_frozen BK153.out 5
      have hcz77_0 : wr.cell? ⟨gb154, 0, none⟩ = some (.int .i64 x155000_2) := (blk_cell BK154.out 0).trans rfl
      have hcz77_1 : wr.cell? ⟨gb154, 1, none⟩ = some (.int .i64 x155001_2) := (blk_cell BK154.out 1).trans rfl
      have hfz77_0 := blk_frozen BK154.out 0
      have hfz77_1 := blk_frozen BK154.out 1
      go_wp2_with (first | ((with_reducible refine gate_load (t := 56) rfl ?_); refine load_row3 (t := 56) (g := gb153) ?hg BK153.out ?ho ?hb Try.underlying56 rfl ?hs ?_; (case hg => rfl); (case ho => refine ⟨_, rfl, ?_⟩; first | (with_reducible rfl) | (go_simp; done)); (case hb => (with_reducible repeat (first | refine blk_drewN ?_ _ | refine blk_drew ?_ | refine blk_alloc ?_ _)); with_reducible exact BK153.out); (case hs => kernel_rfl)))
      refine bodyPost_ret (results_ct rfl _ _ gb154 59 #[.int .i64 0, .int .i64 0] (0, 0) _ rfl (by (with_reducible repeat (first | refine blk_drewN ?_ _ | refine blk_drew ?_ | refine blk_alloc ?_ _)); refine blk_put (cs := #[.int .i64 0, .int .i64 x155001_2]) ?_ 1 _ rfl; (with_reducible repeat (first | refine blk_drewN ?_ _ | refine blk_drew ?_ | refine blk_alloc ?_ _)); refine blk_put (cs := #[.int .i64 x155000_2, .int .i64 x155001_2]) ?_ 0 _ rfl; (with_reducible repeat (first | refine blk_drewN ?_ _ | refine blk_drew ?_ | refine blk_alloc ?_ _)); exact BK154.out) Try.underlying59 rfl (by kernel_rfl)) rfl ?_
      exact ⟨by first | rfl | (simp [errW_none, errW_some] <;> rfl) | (simp [*, errW_none, errW_some] <;> rfl), by repeat (first | (with_reducible first | exact HB.out | apply below_alloc | apply pw_below_drewN | apply below_drew1 | refine below_set ?_ GE153.out | refine below_set ?_ GE154.out) | exact HB.out)⟩
  rw [if_pos c19] at H
  have c19b0 : decide (x7_2 < (l0_5.length : Int)) = true := decide_eq_true c19
  clear c19
  by_cases c20 : 0 ≤ x7_2
  rotate_left
  · rw [if_neg c20] at H
    exact absurd H (by simp)
  rw [if_pos c20] at H
  have c20b0 : decide (0 ≤ x7_2) = true := decide_eq_true c20
  clear c20
  have HC21 := Aside0.mk H
  clear H
  have hnb22 := NB153_154.out
  have hnc22 := NB154_153.out
  have hcz23_0 : wr.cell? ⟨gb153, 0, none⟩ = some (.int .i64 a0_0) := (blk_cell BK153.out 0).trans rfl
  have hcz23_1 : wr.cell? ⟨gb153, 1, none⟩ = some (.int .i64 a0_1) := (blk_cell BK153.out 1).trans rfl
  have hcz23_2 : wr.cell? ⟨gb153, 2, none⟩ = some (.int .i64 a0_2) := (blk_cell BK153.out 2).trans rfl
  have hcz23_3 : wr.cell? ⟨gb153, 3, none⟩ = some (.int .i64 a0_3) := (blk_cell BK153.out 3).trans rfl
  have hcz23_4 : wr.cell? ⟨gb153, 4, none⟩ = some (.slice A0_4 l0_4.length c0_4) := (blk_cell BK153.out 4).trans rfl
  have hcz23_5 : wr.cell? ⟨gb153, 5, none⟩ = some (.slice A0_5 l0_5.length c0_5) := (blk_cell BK153.out 5).trans rfl
  have hfz23_0 := blk_frozen BK153.out 0
  have hfz23_1 := blk_frozen BK153.out 1
  have hfz23_2 := blk_frozen BK153.out 2
  have hfz23_3 := blk_frozen BK153.out 3
  have hfz23_4 := blk_frozen BK153.out 4
  have hfz23_5 := blk_frozen BK153.out 5
  have p157 : 0 ≤ (x7_2 : Int) := of_decide_eq_true (by first | (with_reducible assumption) | assumption)
  have q157 : x7_2 < (l0_5.length : Int) := of_decide_eq_true (by first | (with_reducible assumption) | assumption)
  obtain ⟨ad157, e157, hx157_0, hx157_1, hx157_2, hx157_3, hx157_4, hx157_5, hx157_6, hx157_7, hx157_8, hx157_9, hx157_10, hx157_11, hx157_12, hx157_13, hx157_14, hx157_15, hx157_16, hx157_17, hx157_18, hx157_19⟩ := at_T68 HR0_5.out x7_2 p157 q157
  cases e157
  replace hx157_0 := (HB.out.cell (World.block_lt_of_cell? w _ hx157_0)).trans hx157_0
  replace hx157_1 := (HB.out.cell (World.block_lt_of_cell? w _ hx157_1)).trans hx157_1
  replace hx157_2 := (HB.out.cell (World.block_lt_of_cell? w _ hx157_2)).trans hx157_2
  replace hx157_3 := (HB.out.cell (World.block_lt_of_cell? w _ hx157_3)).trans hx157_3
  replace hx157_4 := (HB.out.cell (World.block_lt_of_cell? w _ hx157_4)).trans hx157_4
  replace hx157_5 := (HB.out.cell (World.block_lt_of_cell? w _ hx157_5)).trans hx157_5
  replace hx157_6 := (HB.out.cell (World.block_lt_of_cell? w _ hx157_6)).trans hx157_6
  replace hx157_7 := (HB.out.cell (World.block_lt_of_cell? w _ hx157_7)).trans hx157_7
  replace hx157_8 := (HB.out.cell (World.block_lt_of_cell? w _ hx157_8)).trans hx157_8
  replace hx157_9 := (HB.out.cell (World.block_lt_of_cell? w _ hx157_9)).trans hx157_9
  replace hx157_10 := (HB.out.cell (World.block_lt_of_cell? w _ hx157_10)).trans hx157_10
  replace hx157_11 := (HB.out.cell (World.block_lt_of_cell? w _ hx157_11)).trans hx157_11
  replace hx157_12 := (HB.out.cell (World.block_lt_of_cell? w _ hx157_12)).trans hx157_12
  replace hx157_13 := (HB.out.cell (World.block_lt_of_cell? w _ hx157_13)).trans hx157_13
  replace hx157_14 := (HB.out.cell (World.block_lt_of_cell? w _ hx157_14)).trans hx157_14
  replace hx157_15 := (HB.out.cell (World.block_lt_of_cell? w _ hx157_15)).trans hx157_15
  replace hx157_16 := (HB.out.cell (World.block_lt_of_cell? w _ hx157_16)).trans hx157_16
  replace hx157_17 := (HB.out.cell (World.block_lt_of_cell? w _ hx157_17)).trans hx157_17
  replace hx157_18 := (HB.out.cell (World.block_lt_of_cell? w _ hx157_18)).trans hx157_18
  replace hx157_19 := (HB.out.cell (World.block_lt_of_cell? w _ hx157_19)).trans hx157_19
  replace p157 := eq_true p157
  replace q157 := eq_true q157
  go_upto_region 10 with (first | ((with_reducible refine gate_load (t := 68) rfl ?_); refine load_at2 (t := 68) ?hg ?ho (c0 := _) (cs := [_, _, _, _, _, _, _, _, _, _, _, _, _, _, _, _, _, _, _]) Try.underlying68 rfl (by kernel_rfl) hx157_0 ⟨hx157_1, hx157_2, hx157_3, hx157_4, hx157_5, hx157_6, hx157_7, hx157_8, hx157_9, hx157_10, hx157_11, hx157_12, hx157_13, hx157_14, hx157_15, hx157_16, hx157_17, hx157_18, hx157_19, trivial⟩ ?_; (case hg => rfl); (case ho => refine ⟨_, rfl, ?_⟩; first | (with_reducible rfl) | (go_simp; done))) | ((with_reducible refine gate_load (t := 56) rfl ?_); refine load_row3 (t := 56) (g := gb153) ?hg BK153.out ?ho ?hb Try.underlying56 rfl ?hs ?_; (case hg => rfl); (case ho => refine ⟨_, rfl, ?_⟩; first | (with_reducible rfl) | (go_simp; done)); (case hb => (with_reducible repeat (first | refine blk_drewN ?_ _ | refine blk_drew ?_ | refine blk_alloc ?_ _)); with_reducible exact BK153.out); (case hs => kernel_rfl)) | ((with_reducible refine gate_load (t := 68) rfl ?_); refine load_row3 (t := 68) (g := gb158) ?hg BK158.out ?ho ?hb Try.underlying68 rfl ?hs ?_; (case hg => rfl); (case ho => refine ⟨_, rfl, ?_⟩; first | (with_reducible rfl) | (go_simp; done)); (case hb => (with_reducible repeat (first | refine blk_drewN ?_ _ | refine blk_drew ?_ | refine blk_alloc ?_ _)); with_reducible exact BK158.out); (case hs => kernel_rfl)) | ((with_reducible refine gate_dst (N := 8) rfl ?_); refine box_event ?hg (N := 8) ?hd (cs := #[.int .i64 0, .int .i64 0, .string (⟨#[]⟩ : ByteArray), .string (⟨#[]⟩ : ByteArray), .string (⟨#[]⟩ : ByteArray), .int .i64 0, .int .i64 0, .int .i64 0, .int .i64 0, .bool false, .int .i64 0, .int .i64 0, .int .i64 0, .string (⟨#[]⟩ : ByteArray), .int .i64 0, .int .i64 0, .string (⟨#[]⟩ : ByteArray), .int .i64 0, .int .i64 0, .string (⟨#[]⟩ : ByteArray)]) (t := 68) ?hr ?_; (case hd => rfl); (case hg => rfl); (case hr => first | (go_simp; done) | (go_simp; rfl)); intro gb158 hg w24 hbox hb; have n0_ := Aside0.mk (blk_below (blk_y BK153.out) hb); have n1_ := Aside0.mk (blk_below (blk_y BK154.out) hb); have n2_ := Aside0.mk (below_step (below_y HB.out) hb); have n3_ := Aside0.mk (hbox); have n4_ := Aside0.mk ((by rw [hg]; exact (below_size (below_y HB.out)) : w.heap.size ≤ gb158)); have n5_ := Aside0.mk ((by rw [hg]; exact (below_size (below_y HB.out)) : w.heap.size ≤ gb158)); have n6_ := Aside0.mk ((by rw [hg]; exact Nat.ne_of_lt (blk_lt (blk_y BK153.out)) : gb153 ≠ gb158)); have n7_ := Aside0.mk ((by rw [hg]; exact Nat.ne_of_gt (blk_lt (blk_y BK153.out)) : gb158 ≠ gb153)); have n8_ := Aside0.mk ((by rw [hg]; exact Nat.ne_of_lt (blk_lt (blk_y BK154.out)) : gb154 ≠ gb158)); have n9_ := Aside0.mk ((by rw [hg]; exact Nat.ne_of_gt (blk_lt (blk_y BK154.out)) : gb158 ≠ gb154)); clear BK153; clear BK154; clear HB; have BK153 := n0_; have BK154 := n1_; have HB := n2_; have BK158 := n3_; have GW158 := n4_; have GE158 := n5_; have NB153_158 := n6_; have NB158_153 := n7_; have NB154_158 := n8_; have NB158_154 := n9_; clear n0_ n1_ n2_ n3_ n4_ n5_ n6_ n7_ n8_ n9_; clear hb hbox hg; have hnb25 := NB158_153.out; have hnc25 := NB153_158.out; have hnb26 := NB158_154.out; have hnc26 := NB154_158.out; have hcz27_0 : w24.cell? ⟨gb158, 0, none⟩ = some (.int .i64 0) := (blk_cell BK158.out 0).trans rfl; have hcz27_1 : w24.cell? ⟨gb158, 1, none⟩ = some (.int .i64 0) := (blk_cell BK158.out 1).trans rfl; have hcz27_2 : w24.cell? ⟨gb158, 2, none⟩ = some (.string (⟨#[]⟩ : ByteArray)) := (blk_cell BK158.out 2).trans rfl; have hcz27_3 : w24.cell? ⟨gb158, 3, none⟩ = some (.string (⟨#[]⟩ : ByteArray)) := (blk_cell BK158.out 3).trans rfl; have hcz27_4 : w24.cell? ⟨gb158, 4, none⟩ = some (.string (⟨#[]⟩ : ByteArray)) := (blk_cell BK158.out 4).trans rfl; have hcz27_5 : w24.cell? ⟨gb158, 5, none⟩ = some (.int .i64 0) := (blk_cell BK158.out 5).trans rfl; have hcz27_6 : w24.cell? ⟨gb158, 6, none⟩ = some (.int .i64 0) := (blk_cell BK158.out 6).trans rfl; have hcz27_7 : w24.cell? ⟨gb158, 7, none⟩ = some (.int .i64 0) := (blk_cell BK158.out 7).trans rfl; have hcz27_8 : w24.cell? ⟨gb158, 8, none⟩ = some (.int .i64 0) := (blk_cell BK158.out 8).trans rfl; have hcz27_9 : w24.cell? ⟨gb158, 9, none⟩ = some (.bool false) := (blk_cell BK158.out 9).trans rfl; have hcz27_10 : w24.cell? ⟨gb158, 10, none⟩ = some (.int .i64 0) := (blk_cell BK158.out 10).trans rfl; have hcz27_11 : w24.cell? ⟨gb158, 11, none⟩ = some (.int .i64 0) := (blk_cell BK158.out 11).trans rfl; have hcz27_12 : w24.cell? ⟨gb158, 12, none⟩ = some (.int .i64 0) := (blk_cell BK158.out 12).trans rfl; have hcz27_13 : w24.cell? ⟨gb158, 13, none⟩ = some (.string (⟨#[]⟩ : ByteArray)) := (blk_cell BK158.out 13).trans rfl; have hcz27_14 : w24.cell? ⟨gb158, 14, none⟩ = some (.int .i64 0) := (blk_cell BK158.out 14).trans rfl; have hcz27_15 : w24.cell? ⟨gb158, 15, none⟩ = some (.int .i64 0) := (blk_cell BK158.out 15).trans rfl; have hcz27_16 : w24.cell? ⟨gb158, 16, none⟩ = some (.string (⟨#[]⟩ : ByteArray)) := (blk_cell BK158.out 16).trans rfl; have hcz27_17 : w24.cell? ⟨gb158, 17, none⟩ = some (.int .i64 0) := (blk_cell BK158.out 17).trans rfl; have hcz27_18 : w24.cell? ⟨gb158, 18, none⟩ = some (.int .i64 0) := (blk_cell BK158.out 18).trans rfl; have hcz27_19 : w24.cell? ⟨gb158, 19, none⟩ = some (.string (⟨#[]⟩ : ByteArray)) := (blk_cell BK158.out 19).trans rfl; have hfz27_0 := blk_frozen BK158.out 0; have hfz27_1 := blk_frozen BK158.out 1; have hfz27_2 := blk_frozen BK158.out 2; have hfz27_3 := blk_frozen BK158.out 3; have hfz27_4 := blk_frozen BK158.out 4; have hfz27_5 := blk_frozen BK158.out 5; have hfz27_6 := blk_frozen BK158.out 6; have hfz27_7 := blk_frozen BK158.out 7; have hfz27_8 := blk_frozen BK158.out 8; have hfz27_9 := blk_frozen BK158.out 9; have hfz27_10 := blk_frozen BK158.out 10; have hfz27_11 := blk_frozen BK158.out 11; have hfz27_12 := blk_frozen BK158.out 12; have hfz27_13 := blk_frozen BK158.out 13; have hfz27_14 := blk_frozen BK158.out 14; have hfz27_15 := blk_frozen BK158.out 15; have hfz27_16 := blk_frozen BK158.out 16; have hfz27_17 := blk_frozen BK158.out 17; have hfz27_18 := blk_frozen BK158.out 18; have hfz27_19 := blk_frozen BK158.out 19) | ((with_reducible refine gate_store (t := 68) (p := 8) rfl ?_); refine store_whole2 (t := 68) (g := gb158) ?hg ?hn (cells := #[.int .i64 ((rd_T68 l0_5 x7_2).f0), .int .i64 ((rd_T68 l0_5 x7_2).f1), .string ((rd_T68 l0_5 x7_2).f2), .string ((rd_T68 l0_5 x7_2).f3), .string ((rd_T68 l0_5 x7_2).f4), .int .i64 ((rd_T68 l0_5 x7_2).f5), .int .i64 ((rd_T68 l0_5 x7_2).f6), .int .i64 ((rd_T68 l0_5 x7_2).f7), .int .i64 ((rd_T68 l0_5 x7_2).f8), .bool ((rd_T68 l0_5 x7_2).f9), .int .i64 ((rd_T68 l0_5 x7_2).f10), .int .i64 ((rd_T68 l0_5 x7_2).f11), .int .i64 ((rd_T68 l0_5 x7_2).f12), .string ((rd_T68 l0_5 x7_2).f13), .int .i64 ((rd_T68 l0_5 x7_2).f14), .int .i64 ((rd_T68 l0_5 x7_2).f15), .string ((rd_T68 l0_5 x7_2).f16), .int .i64 ((rd_T68 l0_5 x7_2).f17), .int .i64 ((rd_T68 l0_5 x7_2).f18), .string ((rd_T68 l0_5 x7_2).f19)]) ?ho (blk_y BK158.out) (by kernel_rfl) rfl ?h1 ?_; (case hg => rfl); (case hn => rfl); (case ho => refine ⟨_, _, rfl, ?_, ?_⟩; all_goals (first | (with_reducible rfl) | (go_simp; done) | rfl | (go_simp; rfl))); (case h1 => first | rfl | simp [Value.oneCell']); intro w28 hw; have hg : w24.grownBy w28 (some gb158) := (by rw [hw]; exact grown_setRow _ _ _); have n0_ := Aside0.mk ((by rw [hw]; exact (setRow_other _ _ _ _ NB153_158.out).trans (blk_y BK153.out) : w28.heap[gb153]? = some (.cells #[.int .i64 a0_0, .int .i64 a0_1, .int .i64 a0_2, .int .i64 a0_3, .slice A0_4 l0_4.length c0_4, .slice (some ad157) l0_5.length c0_5] 56 (0, 0)))); have n1_ := Aside0.mk ((by rw [hw]; exact (setRow_other _ _ _ _ NB154_158.out).trans (blk_y BK154.out) : w28.heap[gb154]? = some (.cells #[.int .i64 x155000_2, .int .i64 x155001_2] 59 (0, 0)))); have n2_ := Aside0.mk ((by rw [hw]; exact setRow_heap _ _ _ _ _ _ (blk_y BK158.out) : w28.heap[gb158]? = some (.cells #[.int .i64 ((rd_T68 l0_5 x7_2).f0), .int .i64 ((rd_T68 l0_5 x7_2).f1), .string ((rd_T68 l0_5 x7_2).f2), .string ((rd_T68 l0_5 x7_2).f3), .string ((rd_T68 l0_5 x7_2).f4), .int .i64 ((rd_T68 l0_5 x7_2).f5), .int .i64 ((rd_T68 l0_5 x7_2).f6), .int .i64 ((rd_T68 l0_5 x7_2).f7), .int .i64 ((rd_T68 l0_5 x7_2).f8), .bool ((rd_T68 l0_5 x7_2).f9), .int .i64 ((rd_T68 l0_5 x7_2).f10), .int .i64 ((rd_T68 l0_5 x7_2).f11), .int .i64 ((rd_T68 l0_5 x7_2).f12), .string ((rd_T68 l0_5 x7_2).f13), .int .i64 ((rd_T68 l0_5 x7_2).f14), .int .i64 ((rd_T68 l0_5 x7_2).f15), .string ((rd_T68 l0_5 x7_2).f16), .int .i64 ((rd_T68 l0_5 x7_2).f17), .int .i64 ((rd_T68 l0_5 x7_2).f18), .string ((rd_T68 l0_5 x7_2).f19)] 68 (0, 0)))); have n3_ := Aside0.mk ((by rw [hw]; exact below_setRow (below_y HB.out) GE158.out _ : Below w.heap.size w w28)); clear BK153; clear BK154; clear BK158; clear HB; have BK153 := n0_; have BK154 := n1_; have BK158 := n2_; have HB := n3_; clear n0_ n1_ n2_ n3_; clear hg hw))
  (try simp only [Act.put, List.setIfInBounds_toArray, List.set_cons_zero, List.set_cons_succ])
  go_cut [9] (fun v9 wc => ∃ (kq : Nat) (x9_20 : Bool), v9 = .bool x9_20 ∧ Aside0 (newsreelref43_Of.j2 kq a1 x7_2 x9_20 a0_0 a0_1 a0_2 a0_3 l0_4 l0_5 ((rd_T68 l0_5 x7_2).f0) ((rd_T68 l0_5 x7_2).f1) ((rd_T68 l0_5 x7_2).f2) ((rd_T68 l0_5 x7_2).f3) ((rd_T68 l0_5 x7_2).f4) ((rd_T68 l0_5 x7_2).f5) ((rd_T68 l0_5 x7_2).f6) ((rd_T68 l0_5 x7_2).f7) ((rd_T68 l0_5 x7_2).f8) ((rd_T68 l0_5 x7_2).f9) ((rd_T68 l0_5 x7_2).f10) ((rd_T68 l0_5 x7_2).f11) ((rd_T68 l0_5 x7_2).f12) ((rd_T68 l0_5 x7_2).f13) ((rd_T68 l0_5 x7_2).f14) ((rd_T68 l0_5 x7_2).f15) ((rd_T68 l0_5 x7_2).f16) ((rd_T68 l0_5 x7_2).f17) ((rd_T68 l0_5 x7_2).f18) ((rd_T68 l0_5 x7_2).f19) = some (r1, r2, r3)) ∧ Aside0 (kq ≤ k2) ∧ Aside0 (wc.heap[gb153]? = some (.cells #[.int .i64 a0_0, .int .i64 a0_1, .int .i64 a0_2, .int .i64 a0_3, (.slice A0_4 l0_4.length c0_4), (.slice (some ad157) l0_5.length c0_5)] 56 (0, 0))) ∧ Aside0 (wc.heap[gb154]? = some (.cells #[.int .i64 x155000_2, .int .i64 x155001_2] 59 (0, 0))) ∧ Aside0 (wc.heap[gb158]? = some (.cells #[.int .i64 ((rd_T68 l0_5 x7_2).f0), .int .i64 ((rd_T68 l0_5 x7_2).f1), .string ((rd_T68 l0_5 x7_2).f2), .string ((rd_T68 l0_5 x7_2).f3), .string ((rd_T68 l0_5 x7_2).f4), .int .i64 ((rd_T68 l0_5 x7_2).f5), .int .i64 ((rd_T68 l0_5 x7_2).f6), .int .i64 ((rd_T68 l0_5 x7_2).f7), .int .i64 ((rd_T68 l0_5 x7_2).f8), .bool ((rd_T68 l0_5 x7_2).f9), .int .i64 ((rd_T68 l0_5 x7_2).f10), .int .i64 ((rd_T68 l0_5 x7_2).f11), .int .i64 ((rd_T68 l0_5 x7_2).f12), .string ((rd_T68 l0_5 x7_2).f13), .int .i64 ((rd_T68 l0_5 x7_2).f14), .int .i64 ((rd_T68 l0_5 x7_2).f15), .string ((rd_T68 l0_5 x7_2).f16), .int .i64 ((rd_T68 l0_5 x7_2).f17), .int .i64 ((rd_T68 l0_5 x7_2).f18), .string ((rd_T68 l0_5 x7_2).f19)] 68 (0, 0))) ∧ Aside0 (Below w.heap.size w wc))
  case first =>
    have H := HC21.out
    clear HC21
    replace H := Option.bind_eq_some_iff.mp H
    obtain ⟨t159, A290, H⟩ := H
    replace H : (if t159 = true then (newsreelref43_Of.j2 k2 a1 x7_2 (decide (((rd_T68 l0_5 x7_2).f12) ≤ a1)) a0_0 a0_1 a0_2 a0_3 l0_4 l0_5 ((rd_T68 l0_5 x7_2).f0) ((rd_T68 l0_5 x7_2).f1) ((rd_T68 l0_5 x7_2).f2) ((rd_T68 l0_5 x7_2).f3) ((rd_T68 l0_5 x7_2).f4) ((rd_T68 l0_5 x7_2).f5) ((rd_T68 l0_5 x7_2).f6) ((rd_T68 l0_5 x7_2).f7) ((rd_T68 l0_5 x7_2).f8) ((rd_T68 l0_5 x7_2).f9) ((rd_T68 l0_5 x7_2).f10) ((rd_T68 l0_5 x7_2).f11) ((rd_T68 l0_5 x7_2).f12) ((rd_T68 l0_5 x7_2).f13) ((rd_T68 l0_5 x7_2).f14) ((rd_T68 l0_5 x7_2).f15) ((rd_T68 l0_5 x7_2).f16) ((rd_T68 l0_5 x7_2).f17) ((rd_T68 l0_5 x7_2).f18) ((rd_T68 l0_5 x7_2).f19)) else (newsreelref43_Of.j2 k2 a1 x7_2 false a0_0 a0_1 a0_2 a0_3 l0_4 l0_5 ((rd_T68 l0_5 x7_2).f0) ((rd_T68 l0_5 x7_2).f1) ((rd_T68 l0_5 x7_2).f2) ((rd_T68 l0_5 x7_2).f3) ((rd_T68 l0_5 x7_2).f4) ((rd_T68 l0_5 x7_2).f5) ((rd_T68 l0_5 x7_2).f6) ((rd_T68 l0_5 x7_2).f7) ((rd_T68 l0_5 x7_2).f8) ((rd_T68 l0_5 x7_2).f9) ((rd_T68 l0_5 x7_2).f10) ((rd_T68 l0_5 x7_2).f11) ((rd_T68 l0_5 x7_2).f12) ((rd_T68 l0_5 x7_2).f13) ((rd_T68 l0_5 x7_2).f14) ((rd_T68 l0_5 x7_2).f15) ((rd_T68 l0_5 x7_2).f16) ((rd_T68 l0_5 x7_2).f17) ((rd_T68 l0_5 x7_2).f18) ((rd_T68 l0_5 x7_2).f19))) = some (r1, r2, r3) := H
    have A29 := Aside0.mk A290
    clear A290
    by_cases c30 : t159 = true
    · subst c30
      have H1 : (newsreelref43_Of.j2 k2 a1 x7_2 (decide (((rd_T68 l0_5 x7_2).f12) ≤ a1)) a0_0 a0_1 a0_2 a0_3 l0_4 l0_5 ((rd_T68 l0_5 x7_2).f0) ((rd_T68 l0_5 x7_2).f1) ((rd_T68 l0_5 x7_2).f2) ((rd_T68 l0_5 x7_2).f3) ((rd_T68 l0_5 x7_2).f4) ((rd_T68 l0_5 x7_2).f5) ((rd_T68 l0_5 x7_2).f6) ((rd_T68 l0_5 x7_2).f7) ((rd_T68 l0_5 x7_2).f8) ((rd_T68 l0_5 x7_2).f9) ((rd_T68 l0_5 x7_2).f10) ((rd_T68 l0_5 x7_2).f11) ((rd_T68 l0_5 x7_2).f12) ((rd_T68 l0_5 x7_2).f13) ((rd_T68 l0_5 x7_2).f14) ((rd_T68 l0_5 x7_2).f15) ((rd_T68 l0_5 x7_2).f16) ((rd_T68 l0_5 x7_2).f17) ((rd_T68 l0_5 x7_2).f18) ((rd_T68 l0_5 x7_2).f19)) = some (r1, r2, r3) := by rw [if_pos rfl] at H; exact H
      clear H
      have H := H1
      clear H1
      as_aux_lemma =>
        have H' := Aside0.mk H
        clear H
        have hnb31 := NB158_153.out
        have hnc31 := NB153_158.out
        have hnb32 := NB158_154.out
        have hnc32 := NB154_158.out
        have hcz33_0 : w28.cell? ⟨gb158, 0, none⟩ = some (.int .i64 ((rd_T68 l0_5 x7_2).f0)) := (blk_cell BK158.out 0).trans rfl
        have hcz33_1 : w28.cell? ⟨gb158, 1, none⟩ = some (.int .i64 ((rd_T68 l0_5 x7_2).f1)) := (blk_cell BK158.out 1).trans rfl
        have hcz33_2 : w28.cell? ⟨gb158, 2, none⟩ = some (.string ((rd_T68 l0_5 x7_2).f2)) := (blk_cell BK158.out 2).trans rfl
        have hcz33_3 : w28.cell? ⟨gb158, 3, none⟩ = some (.string ((rd_T68 l0_5 x7_2).f3)) := (blk_cell BK158.out 3).trans rfl
        have hcz33_4 : w28.cell? ⟨gb158, 4, none⟩ = some (.string ((rd_T68 l0_5 x7_2).f4)) := (blk_cell BK158.out 4).trans rfl
        have hcz33_5 : w28.cell? ⟨gb158, 5, none⟩ = some (.int .i64 ((rd_T68 l0_5 x7_2).f5)) := (blk_cell BK158.out 5).trans rfl
        have hcz33_6 : w28.cell? ⟨gb158, 6, none⟩ = some (.int .i64 ((rd_T68 l0_5 x7_2).f6)) := (blk_cell BK158.out 6).trans rfl
        have hcz33_7 : w28.cell? ⟨gb158, 7, none⟩ = some (.int .i64 ((rd_T68 l0_5 x7_2).f7)) := (blk_cell BK158.out 7).trans rfl
        have hcz33_8 : w28.cell? ⟨gb158, 8, none⟩ = some (.int .i64 ((rd_T68 l0_5 x7_2).f8)) := (blk_cell BK158.out 8).trans rfl
        have hcz33_9 : w28.cell? ⟨gb158, 9, none⟩ = some (.bool ((rd_T68 l0_5 x7_2).f9)) := (blk_cell BK158.out 9).trans rfl
        have hcz33_10 : w28.cell? ⟨gb158, 10, none⟩ = some (.int .i64 ((rd_T68 l0_5 x7_2).f10)) := (blk_cell BK158.out 10).trans rfl
        have hcz33_11 : w28.cell? ⟨gb158, 11, none⟩ = some (.int .i64 ((rd_T68 l0_5 x7_2).f11)) := (blk_cell BK158.out 11).trans rfl
        have hcz33_12 : w28.cell? ⟨gb158, 12, none⟩ = some (.int .i64 ((rd_T68 l0_5 x7_2).f12)) := (blk_cell BK158.out 12).trans rfl
        have hcz33_13 : w28.cell? ⟨gb158, 13, none⟩ = some (.string ((rd_T68 l0_5 x7_2).f13)) := (blk_cell BK158.out 13).trans rfl
        have hcz33_14 : w28.cell? ⟨gb158, 14, none⟩ = some (.int .i64 ((rd_T68 l0_5 x7_2).f14)) := (blk_cell BK158.out 14).trans rfl
        have hcz33_15 : w28.cell? ⟨gb158, 15, none⟩ = some (.int .i64 ((rd_T68 l0_5 x7_2).f15)) := (blk_cell BK158.out 15).trans rfl
        have hcz33_16 : w28.cell? ⟨gb158, 16, none⟩ = some (.string ((rd_T68 l0_5 x7_2).f16)) := (blk_cell BK158.out 16).trans rfl
        have hcz33_17 : w28.cell? ⟨gb158, 17, none⟩ = some (.int .i64 ((rd_T68 l0_5 x7_2).f17)) := (blk_cell BK158.out 17).trans rfl
        have hcz33_18 : w28.cell? ⟨gb158, 18, none⟩ = some (.int .i64 ((rd_T68 l0_5 x7_2).f18)) := (blk_cell BK158.out 18).trans rfl
        have hcz33_19 : w28.cell? ⟨gb158, 19, none⟩ = some (.string ((rd_T68 l0_5 x7_2).f19)) := (blk_cell BK158.out 19).trans rfl
        have hfz33_0 := blk_frozen BK158.out 0
        have hfz33_1 := blk_frozen BK158.out 1
        have hfz33_2 := blk_frozen BK158.out 2
        have hfz33_3 := blk_frozen BK158.out 3
        have hfz33_4 := blk_frozen BK158.out 4
        have hfz33_5 := blk_frozen BK158.out 5
        have hfz33_6 := blk_frozen BK158.out 6
        have hfz33_7 := blk_frozen BK158.out 7
        have hfz33_8 := blk_frozen BK158.out 8
        have hfz33_9 := blk_frozen BK158.out 9
        have hfz33_10 := blk_frozen BK158.out 10
        have hfz33_11 := blk_frozen BK158.out 11
        have hfz33_12 := blk_frozen BK158.out 12
        have hfz33_13 := blk_frozen BK158.out 13
        have hfz33_14 := blk_frozen BK158.out 14
        have hfz33_15 := blk_frozen BK158.out 15
        have hfz33_16 := blk_frozen BK158.out 16
        have hfz33_17 := blk_frozen BK158.out 17
        have hfz33_18 := blk_frozen BK158.out 18
        have hfz33_19 := blk_frozen BK158.out 19
        go_wp2_with (first | ((with_reducible refine gate_load (t := 68) rfl ?_); refine load_at2 (t := 68) ?hg ?ho (c0 := _) (cs := [_, _, _, _, _, _, _, _, _, _, _, _, _, _, _, _, _, _, _]) Try.underlying68 rfl (by kernel_rfl) hx157_0 ⟨hx157_1, hx157_2, hx157_3, hx157_4, hx157_5, hx157_6, hx157_7, hx157_8, hx157_9, hx157_10, hx157_11, hx157_12, hx157_13, hx157_14, hx157_15, hx157_16, hx157_17, hx157_18, hx157_19, trivial⟩ ?_; (case hg => rfl); (case ho => refine ⟨_, rfl, ?_⟩; first | (with_reducible rfl) | (go_simp; done))) | ((with_reducible refine gate_load (t := 56) rfl ?_); refine load_row3 (t := 56) (g := gb153) ?hg BK153.out ?ho ?hb Try.underlying56 rfl ?hs ?_; (case hg => rfl); (case ho => refine ⟨_, rfl, ?_⟩; first | (with_reducible rfl) | (go_simp; done)); (case hb => (with_reducible repeat (first | refine blk_drewN ?_ _ | refine blk_drew ?_ | refine blk_alloc ?_ _)); with_reducible exact BK153.out); (case hs => kernel_rfl)) | ((with_reducible refine gate_load (t := 68) rfl ?_); refine load_row3 (t := 68) (g := gb158) ?hg BK158.out ?ho ?hb Try.underlying68 rfl ?hs ?_; (case hg => rfl); (case ho => refine ⟨_, rfl, ?_⟩; first | (with_reducible rfl) | (go_simp; done)); (case hb => (with_reducible repeat (first | refine blk_drewN ?_ _ | refine blk_drew ?_ | refine blk_alloc ?_ _)); with_reducible exact BK158.out); (case hs => kernel_rfl)) | ((with_reducible refine gate_callee (f := 43) rfl ?_); refine goesL_ (some 42) rfl rfl Try.func43 (by kernel_rfl) rfl #[.agg #[.int .i64 ((rd_T68 l0_5 x7_2).f0), .int .i64 ((rd_T68 l0_5 x7_2).f1), .string ((rd_T68 l0_5 x7_2).f2), .string ((rd_T68 l0_5 x7_2).f3), .string ((rd_T68 l0_5 x7_2).f4), .int .i64 ((rd_T68 l0_5 x7_2).f5), .int .i64 ((rd_T68 l0_5 x7_2).f6), .int .i64 ((rd_T68 l0_5 x7_2).f7), .int .i64 ((rd_T68 l0_5 x7_2).f8), .bool ((rd_T68 l0_5 x7_2).f9), .int .i64 ((rd_T68 l0_5 x7_2).f10), .int .i64 ((rd_T68 l0_5 x7_2).f11), .int .i64 ((rd_T68 l0_5 x7_2).f12), .string ((rd_T68 l0_5 x7_2).f13), .int .i64 ((rd_T68 l0_5 x7_2).f14), .int .i64 ((rd_T68 l0_5 x7_2).f15), .string ((rd_T68 l0_5 x7_2).f16), .int .i64 ((rd_T68 l0_5 x7_2).f17), .int .i64 ((rd_T68 l0_5 x7_2).f18), .string ((rd_T68 l0_5 x7_2).f19)]] rfl (by (try simp only [List.map_toArray, List.map_cons, List.map_nil]); first | done | rfl | (simp only [List.length_drop, List.length_take]; rfl)) ?_; (with_reducible refine (newsreelref43_Waits.calls ((rd_T68 l0_5 x7_2).f0) ((rd_T68 l0_5 x7_2).f1) ((rd_T68 l0_5 x7_2).f2) ((rd_T68 l0_5 x7_2).f3) ((rd_T68 l0_5 x7_2).f4) ((rd_T68 l0_5 x7_2).f5) ((rd_T68 l0_5 x7_2).f6) ((rd_T68 l0_5 x7_2).f7) ((rd_T68 l0_5 x7_2).f8) ((rd_T68 l0_5 x7_2).f9) ((rd_T68 l0_5 x7_2).f10) ((rd_T68 l0_5 x7_2).f11) ((rd_T68 l0_5 x7_2).f12) ((rd_T68 l0_5 x7_2).f13) ((rd_T68 l0_5 x7_2).f14) ((rd_T68 l0_5 x7_2).f15) ((rd_T68 l0_5 x7_2).f16) ((rd_T68 l0_5 x7_2).f17) ((rd_T68 l0_5 x7_2).f18) ((rd_T68 l0_5 x7_2).f19) true _ A29.out).mono ?_); rintro e w34 ⟨rfl, hb⟩; refine ⟨_, rfl, ?_⟩; have n0_ := Aside0.mk (blk_below (blk_y BK153.out) hb); have n1_ := Aside0.mk (blk_below (blk_y BK154.out) hb); have n2_ := Aside0.mk (blk_below (blk_y BK158.out) hb); have n3_ := Aside0.mk (below_step (below_y HB.out) hb); clear BK153; clear BK154; clear BK158; clear HB; have BK153 := n0_; have BK154 := n1_; have BK158 := n2_; have HB := n3_; clear n0_ n1_ n2_ n3_; (try clear hb); (try clear hb2); (try clear hk); (try clear hi); have hcz35_0 : w34.cell? ⟨gb158, 0, none⟩ = some (.int .i64 ((rd_T68 l0_5 x7_2).f0)) := (blk_cell BK158.out 0).trans rfl; have hcz35_1 : w34.cell? ⟨gb158, 1, none⟩ = some (.int .i64 ((rd_T68 l0_5 x7_2).f1)) := (blk_cell BK158.out 1).trans rfl; have hcz35_2 : w34.cell? ⟨gb158, 2, none⟩ = some (.string ((rd_T68 l0_5 x7_2).f2)) := (blk_cell BK158.out 2).trans rfl; have hcz35_3 : w34.cell? ⟨gb158, 3, none⟩ = some (.string ((rd_T68 l0_5 x7_2).f3)) := (blk_cell BK158.out 3).trans rfl; have hcz35_4 : w34.cell? ⟨gb158, 4, none⟩ = some (.string ((rd_T68 l0_5 x7_2).f4)) := (blk_cell BK158.out 4).trans rfl; have hcz35_5 : w34.cell? ⟨gb158, 5, none⟩ = some (.int .i64 ((rd_T68 l0_5 x7_2).f5)) := (blk_cell BK158.out 5).trans rfl; have hcz35_6 : w34.cell? ⟨gb158, 6, none⟩ = some (.int .i64 ((rd_T68 l0_5 x7_2).f6)) := (blk_cell BK158.out 6).trans rfl; have hcz35_7 : w34.cell? ⟨gb158, 7, none⟩ = some (.int .i64 ((rd_T68 l0_5 x7_2).f7)) := (blk_cell BK158.out 7).trans rfl; have hcz35_8 : w34.cell? ⟨gb158, 8, none⟩ = some (.int .i64 ((rd_T68 l0_5 x7_2).f8)) := (blk_cell BK158.out 8).trans rfl; have hcz35_9 : w34.cell? ⟨gb158, 9, none⟩ = some (.bool ((rd_T68 l0_5 x7_2).f9)) := (blk_cell BK158.out 9).trans rfl; have hcz35_10 : w34.cell? ⟨gb158, 10, none⟩ = some (.int .i64 ((rd_T68 l0_5 x7_2).f10)) := (blk_cell BK158.out 10).trans rfl; have hcz35_11 : w34.cell? ⟨gb158, 11, none⟩ = some (.int .i64 ((rd_T68 l0_5 x7_2).f11)) := (blk_cell BK158.out 11).trans rfl; have hcz35_12 : w34.cell? ⟨gb158, 12, none⟩ = some (.int .i64 ((rd_T68 l0_5 x7_2).f12)) := (blk_cell BK158.out 12).trans rfl; have hcz35_13 : w34.cell? ⟨gb158, 13, none⟩ = some (.string ((rd_T68 l0_5 x7_2).f13)) := (blk_cell BK158.out 13).trans rfl; have hcz35_14 : w34.cell? ⟨gb158, 14, none⟩ = some (.int .i64 ((rd_T68 l0_5 x7_2).f14)) := (blk_cell BK158.out 14).trans rfl; have hcz35_15 : w34.cell? ⟨gb158, 15, none⟩ = some (.int .i64 ((rd_T68 l0_5 x7_2).f15)) := (blk_cell BK158.out 15).trans rfl; have hcz35_16 : w34.cell? ⟨gb158, 16, none⟩ = some (.string ((rd_T68 l0_5 x7_2).f16)) := (blk_cell BK158.out 16).trans rfl; have hcz35_17 : w34.cell? ⟨gb158, 17, none⟩ = some (.int .i64 ((rd_T68 l0_5 x7_2).f17)) := (blk_cell BK158.out 17).trans rfl; have hcz35_18 : w34.cell? ⟨gb158, 18, none⟩ = some (.int .i64 ((rd_T68 l0_5 x7_2).f18)) := (blk_cell BK158.out 18).trans rfl; have hcz35_19 : w34.cell? ⟨gb158, 19, none⟩ = some (.string ((rd_T68 l0_5 x7_2).f19)) := (blk_cell BK158.out 19).trans rfl; have hfz35_0 := blk_frozen BK158.out 0; have hfz35_1 := blk_frozen BK158.out 1; have hfz35_2 := blk_frozen BK158.out 2; have hfz35_3 := blk_frozen BK158.out 3; have hfz35_4 := blk_frozen BK158.out 4; have hfz35_5 := blk_frozen BK158.out 5; have hfz35_6 := blk_frozen BK158.out 6; have hfz35_7 := blk_frozen BK158.out 7; have hfz35_8 := blk_frozen BK158.out 8; have hfz35_9 := blk_frozen BK158.out 9; have hfz35_10 := blk_frozen BK158.out 10; have hfz35_11 := blk_frozen BK158.out 11; have hfz35_12 := blk_frozen BK158.out 12; have hfz35_13 := blk_frozen BK158.out 13; have hfz35_14 := blk_frozen BK158.out 14; have hfz35_15 := blk_frozen BK158.out 15; have hfz35_16 := blk_frozen BK158.out 16; have hfz35_17 := blk_frozen BK158.out 17; have hfz35_18 := blk_frozen BK158.out 18; have hfz35_19 := blk_frozen BK158.out 19))
        go_meet
        case rel => exact ⟨_, (decide (((rd_T68 l0_5 x7_2).f12) ≤ a1)), (by first | rfl | (simp; done) | (simp [*]; done)), H', ⟨by have := HK1.out; have := HK2.out; first | omega | exact Nat.le_refl _⟩, ⟨by (with_reducible repeat (first | refine blk_drewN ?_ _ | refine blk_drew ?_ | refine blk_alloc ?_ _)); exact BK153.out⟩, ⟨by (with_reducible repeat (first | refine blk_drewN ?_ _ | refine blk_drew ?_ | refine blk_alloc ?_ _)); exact BK154.out⟩, ⟨by (with_reducible repeat (first | refine blk_drewN ?_ _ | refine blk_drew ?_ | refine blk_alloc ?_ _)); exact BK158.out⟩, ⟨by repeat (first | (with_reducible first | exact HB.out | apply below_alloc | apply pw_below_drewN | apply below_drew1 | refine below_set ?_ GE153.out | refine below_set ?_ GE154.out | refine below_set ?_ GE158.out) | exact HB.out)⟩⟩
    · replace c30 := Bool.eq_false_iff.mpr c30
      subst c30
      have H1 : (newsreelref43_Of.j2 k2 a1 x7_2 false a0_0 a0_1 a0_2 a0_3 l0_4 l0_5 ((rd_T68 l0_5 x7_2).f0) ((rd_T68 l0_5 x7_2).f1) ((rd_T68 l0_5 x7_2).f2) ((rd_T68 l0_5 x7_2).f3) ((rd_T68 l0_5 x7_2).f4) ((rd_T68 l0_5 x7_2).f5) ((rd_T68 l0_5 x7_2).f6) ((rd_T68 l0_5 x7_2).f7) ((rd_T68 l0_5 x7_2).f8) ((rd_T68 l0_5 x7_2).f9) ((rd_T68 l0_5 x7_2).f10) ((rd_T68 l0_5 x7_2).f11) ((rd_T68 l0_5 x7_2).f12) ((rd_T68 l0_5 x7_2).f13) ((rd_T68 l0_5 x7_2).f14) ((rd_T68 l0_5 x7_2).f15) ((rd_T68 l0_5 x7_2).f16) ((rd_T68 l0_5 x7_2).f17) ((rd_T68 l0_5 x7_2).f18) ((rd_T68 l0_5 x7_2).f19)) = some (r1, r2, r3) := by rw [if_neg (show ¬ (false = true) by decide)] at H; exact H
      clear H
      have H := H1
      clear H1
      as_aux_lemma =>
        have H' := Aside0.mk H
        clear H
        have hnb36 := NB158_153.out
        have hnc36 := NB153_158.out
        have hnb37 := NB158_154.out
        have hnc37 := NB154_158.out
        have hcz38_0 : w28.cell? ⟨gb158, 0, none⟩ = some (.int .i64 ((rd_T68 l0_5 x7_2).f0)) := (blk_cell BK158.out 0).trans rfl
        have hcz38_1 : w28.cell? ⟨gb158, 1, none⟩ = some (.int .i64 ((rd_T68 l0_5 x7_2).f1)) := (blk_cell BK158.out 1).trans rfl
        have hcz38_2 : w28.cell? ⟨gb158, 2, none⟩ = some (.string ((rd_T68 l0_5 x7_2).f2)) := (blk_cell BK158.out 2).trans rfl
        have hcz38_3 : w28.cell? ⟨gb158, 3, none⟩ = some (.string ((rd_T68 l0_5 x7_2).f3)) := (blk_cell BK158.out 3).trans rfl
        have hcz38_4 : w28.cell? ⟨gb158, 4, none⟩ = some (.string ((rd_T68 l0_5 x7_2).f4)) := (blk_cell BK158.out 4).trans rfl
        have hcz38_5 : w28.cell? ⟨gb158, 5, none⟩ = some (.int .i64 ((rd_T68 l0_5 x7_2).f5)) := (blk_cell BK158.out 5).trans rfl
        have hcz38_6 : w28.cell? ⟨gb158, 6, none⟩ = some (.int .i64 ((rd_T68 l0_5 x7_2).f6)) := (blk_cell BK158.out 6).trans rfl
        have hcz38_7 : w28.cell? ⟨gb158, 7, none⟩ = some (.int .i64 ((rd_T68 l0_5 x7_2).f7)) := (blk_cell BK158.out 7).trans rfl
        have hcz38_8 : w28.cell? ⟨gb158, 8, none⟩ = some (.int .i64 ((rd_T68 l0_5 x7_2).f8)) := (blk_cell BK158.out 8).trans rfl
        have hcz38_9 : w28.cell? ⟨gb158, 9, none⟩ = some (.bool ((rd_T68 l0_5 x7_2).f9)) := (blk_cell BK158.out 9).trans rfl
        have hcz38_10 : w28.cell? ⟨gb158, 10, none⟩ = some (.int .i64 ((rd_T68 l0_5 x7_2).f10)) := (blk_cell BK158.out 10).trans rfl
        have hcz38_11 : w28.cell? ⟨gb158, 11, none⟩ = some (.int .i64 ((rd_T68 l0_5 x7_2).f11)) := (blk_cell BK158.out 11).trans rfl
        have hcz38_12 : w28.cell? ⟨gb158, 12, none⟩ = some (.int .i64 ((rd_T68 l0_5 x7_2).f12)) := (blk_cell BK158.out 12).trans rfl
        have hcz38_13 : w28.cell? ⟨gb158, 13, none⟩ = some (.string ((rd_T68 l0_5 x7_2).f13)) := (blk_cell BK158.out 13).trans rfl
        have hcz38_14 : w28.cell? ⟨gb158, 14, none⟩ = some (.int .i64 ((rd_T68 l0_5 x7_2).f14)) := (blk_cell BK158.out 14).trans rfl
        have hcz38_15 : w28.cell? ⟨gb158, 15, none⟩ = some (.int .i64 ((rd_T68 l0_5 x7_2).f15)) := (blk_cell BK158.out 15).trans rfl
        have hcz38_16 : w28.cell? ⟨gb158, 16, none⟩ = some (.string ((rd_T68 l0_5 x7_2).f16)) := (blk_cell BK158.out 16).trans rfl
        have hcz38_17 : w28.cell? ⟨gb158, 17, none⟩ = some (.int .i64 ((rd_T68 l0_5 x7_2).f17)) := (blk_cell BK158.out 17).trans rfl
        have hcz38_18 : w28.cell? ⟨gb158, 18, none⟩ = some (.int .i64 ((rd_T68 l0_5 x7_2).f18)) := (blk_cell BK158.out 18).trans rfl
        have hcz38_19 : w28.cell? ⟨gb158, 19, none⟩ = some (.string ((rd_T68 l0_5 x7_2).f19)) := (blk_cell BK158.out 19).trans rfl
        have hfz38_0 := blk_frozen BK158.out 0
        have hfz38_1 := blk_frozen BK158.out 1
        have hfz38_2 := blk_frozen BK158.out 2
        have hfz38_3 := blk_frozen BK158.out 3
        have hfz38_4 := blk_frozen BK158.out 4
        have hfz38_5 := blk_frozen BK158.out 5
        have hfz38_6 := blk_frozen BK158.out 6
        have hfz38_7 := blk_frozen BK158.out 7
        have hfz38_8 := blk_frozen BK158.out 8
        have hfz38_9 := blk_frozen BK158.out 9
        have hfz38_10 := blk_frozen BK158.out 10
        have hfz38_11 := blk_frozen BK158.out 11
        have hfz38_12 := blk_frozen BK158.out 12
        have hfz38_13 := blk_frozen BK158.out 13
        have hfz38_14 := blk_frozen BK158.out 14
        have hfz38_15 := blk_frozen BK158.out 15
        have hfz38_16 := blk_frozen BK158.out 16
        have hfz38_17 := blk_frozen BK158.out 17
        have hfz38_18 := blk_frozen BK158.out 18
        have hfz38_19 := blk_frozen BK158.out 19
        go_wp2_with (first | ((with_reducible refine gate_load (t := 68) rfl ?_); refine load_at2 (t := 68) ?hg ?ho (c0 := _) (cs := [_, _, _, _, _, _, _, _, _, _, _, _, _, _, _, _, _, _, _]) Try.underlying68 rfl (by kernel_rfl) hx157_0 ⟨hx157_1, hx157_2, hx157_3, hx157_4, hx157_5, hx157_6, hx157_7, hx157_8, hx157_9, hx157_10, hx157_11, hx157_12, hx157_13, hx157_14, hx157_15, hx157_16, hx157_17, hx157_18, hx157_19, trivial⟩ ?_; (case hg => rfl); (case ho => refine ⟨_, rfl, ?_⟩; first | (with_reducible rfl) | (go_simp; done))) | ((with_reducible refine gate_load (t := 56) rfl ?_); refine load_row3 (t := 56) (g := gb153) ?hg BK153.out ?ho ?hb Try.underlying56 rfl ?hs ?_; (case hg => rfl); (case ho => refine ⟨_, rfl, ?_⟩; first | (with_reducible rfl) | (go_simp; done)); (case hb => (with_reducible repeat (first | refine blk_drewN ?_ _ | refine blk_drew ?_ | refine blk_alloc ?_ _)); with_reducible exact BK153.out); (case hs => kernel_rfl)) | ((with_reducible refine gate_load (t := 68) rfl ?_); refine load_row3 (t := 68) (g := gb158) ?hg BK158.out ?ho ?hb Try.underlying68 rfl ?hs ?_; (case hg => rfl); (case ho => refine ⟨_, rfl, ?_⟩; first | (with_reducible rfl) | (go_simp; done)); (case hb => (with_reducible repeat (first | refine blk_drewN ?_ _ | refine blk_drew ?_ | refine blk_alloc ?_ _)); with_reducible exact BK158.out); (case hs => kernel_rfl)) | ((with_reducible refine gate_callee (f := 43) rfl ?_); refine goesL_ (some 42) rfl rfl Try.func43 (by kernel_rfl) rfl #[.agg #[.int .i64 ((rd_T68 l0_5 x7_2).f0), .int .i64 ((rd_T68 l0_5 x7_2).f1), .string ((rd_T68 l0_5 x7_2).f2), .string ((rd_T68 l0_5 x7_2).f3), .string ((rd_T68 l0_5 x7_2).f4), .int .i64 ((rd_T68 l0_5 x7_2).f5), .int .i64 ((rd_T68 l0_5 x7_2).f6), .int .i64 ((rd_T68 l0_5 x7_2).f7), .int .i64 ((rd_T68 l0_5 x7_2).f8), .bool ((rd_T68 l0_5 x7_2).f9), .int .i64 ((rd_T68 l0_5 x7_2).f10), .int .i64 ((rd_T68 l0_5 x7_2).f11), .int .i64 ((rd_T68 l0_5 x7_2).f12), .string ((rd_T68 l0_5 x7_2).f13), .int .i64 ((rd_T68 l0_5 x7_2).f14), .int .i64 ((rd_T68 l0_5 x7_2).f15), .string ((rd_T68 l0_5 x7_2).f16), .int .i64 ((rd_T68 l0_5 x7_2).f17), .int .i64 ((rd_T68 l0_5 x7_2).f18), .string ((rd_T68 l0_5 x7_2).f19)]] rfl (by (try simp only [List.map_toArray, List.map_cons, List.map_nil]); first | done | rfl | (simp only [List.length_drop, List.length_take]; rfl)) ?_; (with_reducible refine (newsreelref43_Waits.calls ((rd_T68 l0_5 x7_2).f0) ((rd_T68 l0_5 x7_2).f1) ((rd_T68 l0_5 x7_2).f2) ((rd_T68 l0_5 x7_2).f3) ((rd_T68 l0_5 x7_2).f4) ((rd_T68 l0_5 x7_2).f5) ((rd_T68 l0_5 x7_2).f6) ((rd_T68 l0_5 x7_2).f7) ((rd_T68 l0_5 x7_2).f8) ((rd_T68 l0_5 x7_2).f9) ((rd_T68 l0_5 x7_2).f10) ((rd_T68 l0_5 x7_2).f11) ((rd_T68 l0_5 x7_2).f12) ((rd_T68 l0_5 x7_2).f13) ((rd_T68 l0_5 x7_2).f14) ((rd_T68 l0_5 x7_2).f15) ((rd_T68 l0_5 x7_2).f16) ((rd_T68 l0_5 x7_2).f17) ((rd_T68 l0_5 x7_2).f18) ((rd_T68 l0_5 x7_2).f19) false _ A29.out).mono ?_); rintro e w39 ⟨rfl, hb⟩; refine ⟨_, rfl, ?_⟩; have n0_ := Aside0.mk (blk_below (blk_y BK153.out) hb); have n1_ := Aside0.mk (blk_below (blk_y BK154.out) hb); have n2_ := Aside0.mk (blk_below (blk_y BK158.out) hb); have n3_ := Aside0.mk (below_step (below_y HB.out) hb); clear BK153; clear BK154; clear BK158; clear HB; have BK153 := n0_; have BK154 := n1_; have BK158 := n2_; have HB := n3_; clear n0_ n1_ n2_ n3_; (try clear hb); (try clear hb2); (try clear hk); (try clear hi)))
        go_meet
        case rel => exact ⟨_, (false), (by first | rfl | (simp; done) | (simp [*]; done)), H', ⟨by have := HK1.out; have := HK2.out; first | omega | exact Nat.le_refl _⟩, ⟨by (with_reducible repeat (first | refine blk_drewN ?_ _ | refine blk_drew ?_ | refine blk_alloc ?_ _)); exact BK153.out⟩, ⟨by (with_reducible repeat (first | refine blk_drewN ?_ _ | refine blk_drew ?_ | refine blk_alloc ?_ _)); exact BK154.out⟩, ⟨by (with_reducible repeat (first | refine blk_drewN ?_ _ | refine blk_drew ?_ | refine blk_alloc ?_ _)); exact BK158.out⟩, ⟨by repeat (first | (with_reducible first | exact HB.out | apply below_alloc | apply pw_below_drewN | apply below_drew1 | refine below_set ?_ GE153.out | refine below_set ?_ GE154.out | refine below_set ?_ GE158.out) | exact HB.out)⟩⟩
  clear HC21
  try clear c1
  try clear p1
  try clear q1
  try clear hx1
  try clear c2
  try clear p2
  try clear c3
  try clear c4
  try clear c5
  try clear c5b0
  try clear p6
  try clear c7
  try clear c8
  try clear c8b0
  try clear c9
  try clear c14
  try clear p15
  try clear q15
  try clear hx15
  try clear c17
  try clear c19
  try clear c19b0
  try clear c20
  try clear c20b0
  try clear c22
  try clear c25
  try clear c26
  try clear c30
  try clear c31
  try clear c32
  try clear c36
  try clear c37
  try clear hcz10_0
  try clear hcz10_1
  try clear hcz10_2
  try clear hcz10_3
  try clear hcz10_4
  try clear hcz10_5
  try clear hcz12_0
  try clear hcz12_1
  try clear hcz12_2
  try clear hcz12_3
  try clear hcz12_4
  try clear hcz12_5
  try clear hcz13_0
  try clear hcz13_1
  try clear hcz15_0
  try clear hcz15_1
  try clear hcz15_2
  try clear hcz15_3
  try clear hcz15_4
  try clear hcz15_5
  try clear hcz18_0
  try clear hcz18_1
  try clear hcz18_2
  try clear hcz18_3
  try clear hcz18_4
  try clear hcz18_5
  try clear hcz23_0
  try clear hcz23_1
  try clear hcz23_2
  try clear hcz23_3
  try clear hcz23_4
  try clear hcz23_5
  try clear hcz27_0
  try clear hcz27_1
  try clear hcz27_10
  try clear hcz27_11
  try clear hcz27_12
  try clear hcz27_13
  try clear hcz27_14
  try clear hcz27_15
  try clear hcz27_16
  try clear hcz27_17
  try clear hcz27_18
  try clear hcz27_19
  try clear hcz27_2
  try clear hcz27_3
  try clear hcz27_4
  try clear hcz27_5
  try clear hcz27_6
  try clear hcz27_7
  try clear hcz27_8
  try clear hcz27_9
  try clear hcz33_0
  try clear hcz33_1
  try clear hcz33_10
  try clear hcz33_11
  try clear hcz33_12
  try clear hcz33_13
  try clear hcz33_14
  try clear hcz33_15
  try clear hcz33_16
  try clear hcz33_17
  try clear hcz33_18
  try clear hcz33_19
  try clear hcz33_2
  try clear hcz33_3
  try clear hcz33_4
  try clear hcz33_5
  try clear hcz33_6
  try clear hcz33_7
  try clear hcz33_8
  try clear hcz33_9
  try clear hcz35_0
  try clear hcz35_1
  try clear hcz35_10
  try clear hcz35_11
  try clear hcz35_12
  try clear hcz35_13
  try clear hcz35_14
  try clear hcz35_15
  try clear hcz35_16
  try clear hcz35_17
  try clear hcz35_18
  try clear hcz35_19
  try clear hcz35_2
  try clear hcz35_3
  try clear hcz35_4
  try clear hcz35_5
  try clear hcz35_6
  try clear hcz35_7
  try clear hcz35_8
  try clear hcz35_9
  try clear hcz38_0
  try clear hcz38_1
  try clear hcz38_10
  try clear hcz38_11
  try clear hcz38_12
  try clear hcz38_13
  try clear hcz38_14
  try clear hcz38_15
  try clear hcz38_16
  try clear hcz38_17
  try clear hcz38_18
  try clear hcz38_19
  try clear hcz38_2
  try clear hcz38_3
  try clear hcz38_4
  try clear hcz38_5
  try clear hcz38_6
  try clear hcz38_7
  try clear hcz38_8
  try clear hcz38_9
  try clear hfz10_0
  try clear hfz10_1
  try clear hfz10_2
  try clear hfz10_3
  try clear hfz10_4
  try clear hfz10_5
  try clear hfz12_0
  try clear hfz12_1
  try clear hfz12_2
  try clear hfz12_3
  try clear hfz12_4
  try clear hfz12_5
  try clear hfz13_0
  try clear hfz13_1
  try clear hfz15_0
  try clear hfz15_1
  try clear hfz15_2
  try clear hfz15_3
  try clear hfz15_4
  try clear hfz15_5
  try clear hfz18_0
  try clear hfz18_1
  try clear hfz18_2
  try clear hfz18_3
  try clear hfz18_4
  try clear hfz18_5
  try clear hfz23_0
  try clear hfz23_1
  try clear hfz23_2
  try clear hfz23_3
  try clear hfz23_4
  try clear hfz23_5
  try clear hfz27_0
  try clear hfz27_1
  try clear hfz27_10
  try clear hfz27_11
  try clear hfz27_12
  try clear hfz27_13
  try clear hfz27_14
  try clear hfz27_15
  try clear hfz27_16
  try clear hfz27_17
  try clear hfz27_18
  try clear hfz27_19
  try clear hfz27_2
  try clear hfz27_3
  try clear hfz27_4
  try clear hfz27_5
  try clear hfz27_6
  try clear hfz27_7
  try clear hfz27_8
  try clear hfz27_9
  try clear hfz33_0
  try clear hfz33_1
  try clear hfz33_10
  try clear hfz33_11
  try clear hfz33_12
  try clear hfz33_13
  try clear hfz33_14
  try clear hfz33_15
  try clear hfz33_16
  try clear hfz33_17
  try clear hfz33_18
  try clear hfz33_19
  try clear hfz33_2
  try clear hfz33_3
  try clear hfz33_4
  try clear hfz33_5
  try clear hfz33_6
  try clear hfz33_7
  try clear hfz33_8
  try clear hfz33_9
  try clear hfz35_0
  try clear hfz35_1
  try clear hfz35_10
  try clear hfz35_11
  try clear hfz35_12
  try clear hfz35_13
  try clear hfz35_14
  try clear hfz35_15
  try clear hfz35_16
  try clear hfz35_17
  try clear hfz35_18
  try clear hfz35_19
  try clear hfz35_2
  try clear hfz35_3
  try clear hfz35_4
  try clear hfz35_5
  try clear hfz35_6
  try clear hfz35_7
  try clear hfz35_8
  try clear hfz35_9
  try clear hfz38_0
  try clear hfz38_1
  try clear hfz38_10
  try clear hfz38_11
  try clear hfz38_12
  try clear hfz38_13
  try clear hfz38_14
  try clear hfz38_15
  try clear hfz38_16
  try clear hfz38_17
  try clear hfz38_18
  try clear hfz38_19
  try clear hfz38_2
  try clear hfz38_3
  try clear hfz38_4
  try clear hfz38_5
  try clear hfz38_6
  try clear hfz38_7
  try clear hfz38_8
  try clear hfz38_9
  try clear hx156_0
  try clear hx156_1
  try clear hx156_2
  try clear hx156_3
  try clear hx156_4
  try clear hx157_0
  try clear hx157_1
  try clear hx157_10
  try clear hx157_11
  try clear hx157_12
  try clear hx157_13
  try clear hx157_14
  try clear hx157_15
  try clear hx157_16
  try clear hx157_17
  try clear hx157_18
  try clear hx157_19
  try clear hx157_2
  try clear hx157_3
  try clear hx157_4
  try clear hx157_5
  try clear hx157_6
  try clear hx157_7
  try clear hx157_8
  try clear hx157_9
  try clear p1
  try clear p15
  try clear p156
  try clear p157
  try clear p2
  try clear p6
  try clear q1
  try clear q15
  try clear q156
  try clear q157
  obtain ⟨kq, x9_20, rfl, HA, HJ20, BK153, BK154, BK158, HB⟩ := hcut
  rcases kq with _ | kj20
  · exact absurd HA.out (by simp [newsreelref43_Of.j2])
  have H := HA.out
  clear HA
  simp only [newsreelref43_Of.j2] at H
  have H' := Aside0.mk H
  clear H
  go_wp2_with (first | ((with_reducible refine gate_load (t := 68) rfl ?_); refine load_at2 (t := 68) ?hg ?ho (c0 := _) (cs := [_, _, _, _, _, _, _, _, _, _, _, _, _, _, _, _, _, _, _]) Try.underlying68 rfl (by kernel_rfl) hx157_0 ⟨hx157_1, hx157_2, hx157_3, hx157_4, hx157_5, hx157_6, hx157_7, hx157_8, hx157_9, hx157_10, hx157_11, hx157_12, hx157_13, hx157_14, hx157_15, hx157_16, hx157_17, hx157_18, hx157_19, trivial⟩ ?_; (case hg => rfl); (case ho => refine ⟨_, rfl, ?_⟩; first | (with_reducible rfl) | (go_simp; done))) | ((with_reducible refine gate_load (t := 56) rfl ?_); refine load_row3 (t := 56) (g := gb153) ?hg BK153.out ?ho ?hb Try.underlying56 rfl ?hs ?_; (case hg => rfl); (case ho => refine ⟨_, rfl, ?_⟩; first | (with_reducible rfl) | (go_simp; done)); (case hb => (with_reducible repeat (first | refine blk_drewN ?_ _ | refine blk_drew ?_ | refine blk_alloc ?_ _)); with_reducible exact BK153.out); (case hs => kernel_rfl)) | ((with_reducible refine gate_load (t := 68) rfl ?_); refine load_row3 (t := 68) (g := gb158) ?hg BK158.out ?ho ?hb Try.underlying68 rfl ?hs ?_; (case hg => rfl); (case ho => refine ⟨_, rfl, ?_⟩; first | (with_reducible rfl) | (go_simp; done)); (case hb => (with_reducible repeat (first | refine blk_drewN ?_ _ | refine blk_drew ?_ | refine blk_alloc ?_ _)); with_reducible exact BK158.out); (case hs => kernel_rfl)))
  go_loopg [9, 10] kj20 (fun kq v9 v10 w' => ∃ (x9_4 : Bool) (x10_4 : Int), v9 = .bool x9_4 ∧ v10 = .int .i64 x10_4 ∧ Aside0 (newsreelref43_Of.l2 kq a1 x7_2 x9_4 x10_4 a0_0 a0_1 a0_2 a0_3 l0_4 l0_5 ((rd_T68 l0_5 x7_2).f0) ((rd_T68 l0_5 x7_2).f1) ((rd_T68 l0_5 x7_2).f2) ((rd_T68 l0_5 x7_2).f3) ((rd_T68 l0_5 x7_2).f4) ((rd_T68 l0_5 x7_2).f5) ((rd_T68 l0_5 x7_2).f6) ((rd_T68 l0_5 x7_2).f7) ((rd_T68 l0_5 x7_2).f8) ((rd_T68 l0_5 x7_2).f9) ((rd_T68 l0_5 x7_2).f10) ((rd_T68 l0_5 x7_2).f11) ((rd_T68 l0_5 x7_2).f12) ((rd_T68 l0_5 x7_2).f13) ((rd_T68 l0_5 x7_2).f14) ((rd_T68 l0_5 x7_2).f15) ((rd_T68 l0_5 x7_2).f16) ((rd_T68 l0_5 x7_2).f17) ((rd_T68 l0_5 x7_2).f18) ((rd_T68 l0_5 x7_2).f19) = some (r1, r2, r3)) ∧ Aside0 (kq ≤ kj20) ∧ Aside0 (w'.heap[gb153]? = some (.cells #[.int .i64 a0_0, .int .i64 a0_1, .int .i64 a0_2, .int .i64 a0_3, (.slice A0_4 l0_4.length c0_4), (.slice (some ad157) l0_5.length c0_5)] 56 (0, 0))) ∧ Aside0 (w'.heap[gb154]? = some (.cells #[.int .i64 x155000_2, .int .i64 x155001_2] 59 (0, 0))) ∧ Aside0 (w'.heap[gb158]? = some (.cells #[.int .i64 ((rd_T68 l0_5 x7_2).f0), .int .i64 ((rd_T68 l0_5 x7_2).f1), .string ((rd_T68 l0_5 x7_2).f2), .string ((rd_T68 l0_5 x7_2).f3), .string ((rd_T68 l0_5 x7_2).f4), .int .i64 ((rd_T68 l0_5 x7_2).f5), .int .i64 ((rd_T68 l0_5 x7_2).f6), .int .i64 ((rd_T68 l0_5 x7_2).f7), .int .i64 ((rd_T68 l0_5 x7_2).f8), .bool ((rd_T68 l0_5 x7_2).f9), .int .i64 ((rd_T68 l0_5 x7_2).f10), .int .i64 ((rd_T68 l0_5 x7_2).f11), .int .i64 ((rd_T68 l0_5 x7_2).f12), .string ((rd_T68 l0_5 x7_2).f13), .int .i64 ((rd_T68 l0_5 x7_2).f14), .int .i64 ((rd_T68 l0_5 x7_2).f15), .string ((rd_T68 l0_5 x7_2).f16), .int .i64 ((rd_T68 l0_5 x7_2).f17), .int .i64 ((rd_T68 l0_5 x7_2).f18), .string ((rd_T68 l0_5 x7_2).f19)] 68 (0, 0))) ∧ Aside0 (Below w.heap.size w w'))
  case atStart => exact ⟨(x9_20), (0), (by first | rfl | (simp; done) | (simp [*]; done)), (by first | rfl | (simp; done) | (simp [*]; done)), H', ⟨Nat.le_refl _⟩, ⟨by (with_reducible repeat (first | refine blk_drewN ?_ _ | refine blk_drew ?_ | refine blk_alloc ?_ _)); exact BK153.out⟩, ⟨by (with_reducible repeat (first | refine blk_drewN ?_ _ | refine blk_drew ?_ | refine blk_alloc ?_ _)); exact BK154.out⟩, ⟨by (with_reducible repeat (first | refine blk_drewN ?_ _ | refine blk_drew ?_ | refine blk_alloc ?_ _)); exact BK158.out⟩, ⟨by repeat (first | (with_reducible first | exact HB.out | apply below_alloc | apply pw_below_drewN | apply below_drew1 | refine below_set ?_ GE153.out | refine below_set ?_ GE154.out | refine below_set ?_ GE158.out) | exact HB.out)⟩⟩
  clear H'
  try clear c1
  try clear p1
  try clear q1
  try clear hx1
  try clear c2
  try clear p2
  try clear c3
  try clear c4
  try clear c5
  try clear c5b0
  try clear p6
  try clear c7
  try clear c8
  try clear c8b0
  try clear c9
  try clear c14
  try clear p15
  try clear q15
  try clear hx15
  try clear c17
  try clear c19
  try clear c19b0
  try clear c20
  try clear c20b0
  try clear c22
  try clear c25
  try clear c26
  try clear c30
  try clear c31
  try clear c32
  try clear c36
  try clear c37
  try clear hcz10_0
  try clear hcz10_1
  try clear hcz10_2
  try clear hcz10_3
  try clear hcz10_4
  try clear hcz10_5
  try clear hcz12_0
  try clear hcz12_1
  try clear hcz12_2
  try clear hcz12_3
  try clear hcz12_4
  try clear hcz12_5
  try clear hcz13_0
  try clear hcz13_1
  try clear hcz15_0
  try clear hcz15_1
  try clear hcz15_2
  try clear hcz15_3
  try clear hcz15_4
  try clear hcz15_5
  try clear hcz18_0
  try clear hcz18_1
  try clear hcz18_2
  try clear hcz18_3
  try clear hcz18_4
  try clear hcz18_5
  try clear hcz23_0
  try clear hcz23_1
  try clear hcz23_2
  try clear hcz23_3
  try clear hcz23_4
  try clear hcz23_5
  try clear hcz27_0
  try clear hcz27_1
  try clear hcz27_10
  try clear hcz27_11
  try clear hcz27_12
  try clear hcz27_13
  try clear hcz27_14
  try clear hcz27_15
  try clear hcz27_16
  try clear hcz27_17
  try clear hcz27_18
  try clear hcz27_19
  try clear hcz27_2
  try clear hcz27_3
  try clear hcz27_4
  try clear hcz27_5
  try clear hcz27_6
  try clear hcz27_7
  try clear hcz27_8
  try clear hcz27_9
  try clear hcz33_0
  try clear hcz33_1
  try clear hcz33_10
  try clear hcz33_11
  try clear hcz33_12
  try clear hcz33_13
  try clear hcz33_14
  try clear hcz33_15
  try clear hcz33_16
  try clear hcz33_17
  try clear hcz33_18
  try clear hcz33_19
  try clear hcz33_2
  try clear hcz33_3
  try clear hcz33_4
  try clear hcz33_5
  try clear hcz33_6
  try clear hcz33_7
  try clear hcz33_8
  try clear hcz33_9
  try clear hcz35_0
  try clear hcz35_1
  try clear hcz35_10
  try clear hcz35_11
  try clear hcz35_12
  try clear hcz35_13
  try clear hcz35_14
  try clear hcz35_15
  try clear hcz35_16
  try clear hcz35_17
  try clear hcz35_18
  try clear hcz35_19
  try clear hcz35_2
  try clear hcz35_3
  try clear hcz35_4
  try clear hcz35_5
  try clear hcz35_6
  try clear hcz35_7
  try clear hcz35_8
  try clear hcz35_9
  try clear hcz38_0
  try clear hcz38_1
  try clear hcz38_10
  try clear hcz38_11
  try clear hcz38_12
  try clear hcz38_13
  try clear hcz38_14
  try clear hcz38_15
  try clear hcz38_16
  try clear hcz38_17
  try clear hcz38_18
  try clear hcz38_19
  try clear hcz38_2
  try clear hcz38_3
  try clear hcz38_4
  try clear hcz38_5
  try clear hcz38_6
  try clear hcz38_7
  try clear hcz38_8
  try clear hcz38_9
  try clear hfz10_0
  try clear hfz10_1
  try clear hfz10_2
  try clear hfz10_3
  try clear hfz10_4
  try clear hfz10_5
  try clear hfz12_0
  try clear hfz12_1
  try clear hfz12_2
  try clear hfz12_3
  try clear hfz12_4
  try clear hfz12_5
  try clear hfz13_0
  try clear hfz13_1
  try clear hfz15_0
  try clear hfz15_1
  try clear hfz15_2
  try clear hfz15_3
  try clear hfz15_4
  try clear hfz15_5
  try clear hfz18_0
  try clear hfz18_1
  try clear hfz18_2
  try clear hfz18_3
  try clear hfz18_4
  try clear hfz18_5
  try clear hfz23_0
  try clear hfz23_1
  try clear hfz23_2
  try clear hfz23_3
  try clear hfz23_4
  try clear hfz23_5
  try clear hfz27_0
  try clear hfz27_1
  try clear hfz27_10
  try clear hfz27_11
  try clear hfz27_12
  try clear hfz27_13
  try clear hfz27_14
  try clear hfz27_15
  try clear hfz27_16
  try clear hfz27_17
  try clear hfz27_18
  try clear hfz27_19
  try clear hfz27_2
  try clear hfz27_3
  try clear hfz27_4
  try clear hfz27_5
  try clear hfz27_6
  try clear hfz27_7
  try clear hfz27_8
  try clear hfz27_9
  try clear hfz33_0
  try clear hfz33_1
  try clear hfz33_10
  try clear hfz33_11
  try clear hfz33_12
  try clear hfz33_13
  try clear hfz33_14
  try clear hfz33_15
  try clear hfz33_16
  try clear hfz33_17
  try clear hfz33_18
  try clear hfz33_19
  try clear hfz33_2
  try clear hfz33_3
  try clear hfz33_4
  try clear hfz33_5
  try clear hfz33_6
  try clear hfz33_7
  try clear hfz33_8
  try clear hfz33_9
  try clear hfz35_0
  try clear hfz35_1
  try clear hfz35_10
  try clear hfz35_11
  try clear hfz35_12
  try clear hfz35_13
  try clear hfz35_14
  try clear hfz35_15
  try clear hfz35_16
  try clear hfz35_17
  try clear hfz35_18
  try clear hfz35_19
  try clear hfz35_2
  try clear hfz35_3
  try clear hfz35_4
  try clear hfz35_5
  try clear hfz35_6
  try clear hfz35_7
  try clear hfz35_8
  try clear hfz35_9
  try clear hfz38_0
  try clear hfz38_1
  try clear hfz38_10
  try clear hfz38_11
  try clear hfz38_12
  try clear hfz38_13
  try clear hfz38_14
  try clear hfz38_15
  try clear hfz38_16
  try clear hfz38_17
  try clear hfz38_18
  try clear hfz38_19
  try clear hfz38_2
  try clear hfz38_3
  try clear hfz38_4
  try clear hfz38_5
  try clear hfz38_6
  try clear hfz38_7
  try clear hfz38_8
  try clear hfz38_9
  try clear hx156_0
  try clear hx156_1
  try clear hx156_2
  try clear hx156_3
  try clear hx156_4
  try clear hx157_0
  try clear hx157_1
  try clear hx157_10
  try clear hx157_11
  try clear hx157_12
  try clear hx157_13
  try clear hx157_14
  try clear hx157_15
  try clear hx157_16
  try clear hx157_17
  try clear hx157_18
  try clear hx157_19
  try clear hx157_2
  try clear hx157_3
  try clear hx157_4
  try clear hx157_5
  try clear hx157_6
  try clear hx157_7
  try clear hx157_8
  try clear hx157_9
  try clear p1
  try clear p15
  try clear p156
  try clear p157
  try clear p2
  try clear p6
  try clear q1
  try clear q15
  try clear q156
  try clear q157
  obtain ⟨x9_4, x10_4, rfl, rfl, HA, HK4, BK153, BK154, BK158, HB⟩ := hrel
  rcases gk with _ | k4
  · exact absurd HA.out (by simp [newsreelref43_Of.l2])
  have H := HA.out
  clear HA
  simp only [newsreelref43_Of.l2] at H
  by_cases c40 : x10_4 < (l0_5.length : Int)
  rotate_left
  · rw [if_neg c40] at H
    have c40b0 : decide (x10_4 < (l0_5.length : Int)) = false := decide_eq_false c40
    clear c40
    by_cases c65 : x9_4 = true
    · subst c65
      have H1 : (some (2, ((rd_T68 l0_5 x7_2).f0), true)) = some (r1, r2, r3) := by rw [if_pos rfl] at H; exact H
      clear H
      have H := H1
      clear H1
      as_aux_lemma =>
        simp only [Option.some.injEq, Prod.mk.injEq] at H
        obtain ⟨rfl, rfl, rfl⟩ := H
        have hnb66 := NB153_154.out
        have hnc66 := NB154_153.out
        have hnb67 := NB153_158.out
        have hnc67 := NB158_153.out
        have hcz68_0 : wr.cell? ⟨gb153, 0, none⟩ = some (.int .i64 a0_0) := (blk_cell BK153.out 0).trans rfl
        have hcz68_1 : wr.cell? ⟨gb153, 1, none⟩ = some (.int .i64 a0_1) := (blk_cell BK153.out 1).trans rfl
        have hcz68_2 : wr.cell? ⟨gb153, 2, none⟩ = some (.int .i64 a0_2) := (blk_cell BK153.out 2).trans rfl
        have hcz68_3 : wr.cell? ⟨gb153, 3, none⟩ = some (.int .i64 a0_3) := (blk_cell BK153.out 3).trans rfl
        have hcz68_4 : wr.cell? ⟨gb153, 4, none⟩ = some (.slice A0_4 l0_4.length c0_4) := (blk_cell BK153.out 4).trans rfl
        have hcz68_5 : wr.cell? ⟨gb153, 5, none⟩ = some (.slice (some ad157) l0_5.length c0_5) := (blk_cell BK153.out 5).trans rfl
        have hfz68_0 := blk_frozen BK153.out 0
        have hfz68_1 := blk_frozen BK153.out 1
        have hfz68_2 := blk_frozen BK153.out 2
        have hfz68_3 := blk_frozen BK153.out 3
        have hfz68_4 := blk_frozen BK153.out 4
        have hfz68_5 := blk_frozen BK153.out 5
        have hnb69 := NB158_154.out
        have hnc69 := NB154_158.out
        have hcz70_0 : wr.cell? ⟨gb158, 0, none⟩ = some (.int .i64 ((rd_T68 l0_5 x7_2).f0)) := (blk_cell BK158.out 0).trans rfl
        have hcz70_1 : wr.cell? ⟨gb158, 1, none⟩ = some (.int .i64 ((rd_T68 l0_5 x7_2).f1)) := (blk_cell BK158.out 1).trans rfl
        have hcz70_2 : wr.cell? ⟨gb158, 2, none⟩ = some (.string ((rd_T68 l0_5 x7_2).f2)) := (blk_cell BK158.out 2).trans rfl
        have hcz70_3 : wr.cell? ⟨gb158, 3, none⟩ = some (.string ((rd_T68 l0_5 x7_2).f3)) := (blk_cell BK158.out 3).trans rfl
        have hcz70_4 : wr.cell? ⟨gb158, 4, none⟩ = some (.string ((rd_T68 l0_5 x7_2).f4)) := (blk_cell BK158.out 4).trans rfl
        have hcz70_5 : wr.cell? ⟨gb158, 5, none⟩ = some (.int .i64 ((rd_T68 l0_5 x7_2).f5)) := (blk_cell BK158.out 5).trans rfl
        have hcz70_6 : wr.cell? ⟨gb158, 6, none⟩ = some (.int .i64 ((rd_T68 l0_5 x7_2).f6)) := (blk_cell BK158.out 6).trans rfl
        have hcz70_7 : wr.cell? ⟨gb158, 7, none⟩ = some (.int .i64 ((rd_T68 l0_5 x7_2).f7)) := (blk_cell BK158.out 7).trans rfl
        have hcz70_8 : wr.cell? ⟨gb158, 8, none⟩ = some (.int .i64 ((rd_T68 l0_5 x7_2).f8)) := (blk_cell BK158.out 8).trans rfl
        have hcz70_9 : wr.cell? ⟨gb158, 9, none⟩ = some (.bool ((rd_T68 l0_5 x7_2).f9)) := (blk_cell BK158.out 9).trans rfl
        have hcz70_10 : wr.cell? ⟨gb158, 10, none⟩ = some (.int .i64 ((rd_T68 l0_5 x7_2).f10)) := (blk_cell BK158.out 10).trans rfl
        have hcz70_11 : wr.cell? ⟨gb158, 11, none⟩ = some (.int .i64 ((rd_T68 l0_5 x7_2).f11)) := (blk_cell BK158.out 11).trans rfl
        have hcz70_12 : wr.cell? ⟨gb158, 12, none⟩ = some (.int .i64 ((rd_T68 l0_5 x7_2).f12)) := (blk_cell BK158.out 12).trans rfl
        have hcz70_13 : wr.cell? ⟨gb158, 13, none⟩ = some (.string ((rd_T68 l0_5 x7_2).f13)) := (blk_cell BK158.out 13).trans rfl
        have hcz70_14 : wr.cell? ⟨gb158, 14, none⟩ = some (.int .i64 ((rd_T68 l0_5 x7_2).f14)) := (blk_cell BK158.out 14).trans rfl
        have hcz70_15 : wr.cell? ⟨gb158, 15, none⟩ = some (.int .i64 ((rd_T68 l0_5 x7_2).f15)) := (blk_cell BK158.out 15).trans rfl
        have hcz70_16 : wr.cell? ⟨gb158, 16, none⟩ = some (.string ((rd_T68 l0_5 x7_2).f16)) := (blk_cell BK158.out 16).trans rfl
        have hcz70_17 : wr.cell? ⟨gb158, 17, none⟩ = some (.int .i64 ((rd_T68 l0_5 x7_2).f17)) := (blk_cell BK158.out 17).trans rfl
        have hcz70_18 : wr.cell? ⟨gb158, 18, none⟩ = some (.int .i64 ((rd_T68 l0_5 x7_2).f18)) := (blk_cell BK158.out 18).trans rfl
        have hcz70_19 : wr.cell? ⟨gb158, 19, none⟩ = some (.string ((rd_T68 l0_5 x7_2).f19)) := (blk_cell BK158.out 19).trans rfl
        have hfz70_0 := blk_frozen BK158.out 0
        have hfz70_1 := blk_frozen BK158.out 1
        have hfz70_2 := blk_frozen BK158.out 2
        have hfz70_3 := blk_frozen BK158.out 3
        have hfz70_4 := blk_frozen BK158.out 4
        have hfz70_5 := blk_frozen BK158.out 5
        have hfz70_6 := blk_frozen BK158.out 6
        have hfz70_7 := blk_frozen BK158.out 7
        have hfz70_8 := blk_frozen BK158.out 8
        have hfz70_9 := blk_frozen BK158.out 9
        have hfz70_10 := blk_frozen BK158.out 10
        have hfz70_11 := blk_frozen BK158.out 11
        have hfz70_12 := blk_frozen BK158.out 12
        have hfz70_13 := blk_frozen BK158.out 13
        have hfz70_14 := blk_frozen BK158.out 14
        have hfz70_15 := blk_frozen BK158.out 15
        have hfz70_16 := blk_frozen BK158.out 16
        have hfz70_17 := blk_frozen BK158.out 17
        have hfz70_18 := blk_frozen BK158.out 18
        have hfz70_19 := blk_frozen BK158.out 19
        have hcz71_0 : wr.cell? ⟨gb154, 0, none⟩ = some (.int .i64 x155000_2) := (blk_cell BK154.out 0).trans rfl
        have hcz71_1 : wr.cell? ⟨gb154, 1, none⟩ = some (.int .i64 x155001_2) := (blk_cell BK154.out 1).trans rfl
        have hfz71_0 := blk_frozen BK154.out 0
        have hfz71_1 := blk_frozen BK154.out 1
        go_wp2_with (first | ((with_reducible refine gate_load (t := 68) rfl ?_); refine load_at2 (t := 68) ?hg ?ho (c0 := _) (cs := [_, _, _, _, _, _, _, _, _, _, _, _, _, _, _, _, _, _, _]) Try.underlying68 rfl (by kernel_rfl) hx157_0 ⟨hx157_1, hx157_2, hx157_3, hx157_4, hx157_5, hx157_6, hx157_7, hx157_8, hx157_9, hx157_10, hx157_11, hx157_12, hx157_13, hx157_14, hx157_15, hx157_16, hx157_17, hx157_18, hx157_19, trivial⟩ ?_; (case hg => rfl); (case ho => refine ⟨_, rfl, ?_⟩; first | (with_reducible rfl) | (go_simp; done))) | ((with_reducible refine gate_load (t := 56) rfl ?_); refine load_row3 (t := 56) (g := gb153) ?hg BK153.out ?ho ?hb Try.underlying56 rfl ?hs ?_; (case hg => rfl); (case ho => refine ⟨_, rfl, ?_⟩; first | (with_reducible rfl) | (go_simp; done)); (case hb => (with_reducible repeat (first | refine blk_drewN ?_ _ | refine blk_drew ?_ | refine blk_alloc ?_ _)); with_reducible exact BK153.out); (case hs => kernel_rfl)) | ((with_reducible refine gate_load (t := 68) rfl ?_); refine load_row3 (t := 68) (g := gb158) ?hg BK158.out ?ho ?hb Try.underlying68 rfl ?hs ?_; (case hg => rfl); (case ho => refine ⟨_, rfl, ?_⟩; first | (with_reducible rfl) | (go_simp; done)); (case hb => (with_reducible repeat (first | refine blk_drewN ?_ _ | refine blk_drew ?_ | refine blk_alloc ?_ _)); with_reducible exact BK158.out); (case hs => kernel_rfl)))
        refine bodyPost_ret (results_ct rfl _ _ gb154 59 #[.int .i64 2, .int .i64 ((rd_T68 l0_5 x7_2).f0)] (0, 0) _ rfl (by (with_reducible repeat (first | refine blk_drewN ?_ _ | refine blk_drew ?_ | refine blk_alloc ?_ _)); refine blk_put (cs := #[.int .i64 2, .int .i64 x155001_2]) ?_ 1 _ rfl; (with_reducible repeat (first | refine blk_drewN ?_ _ | refine blk_drew ?_ | refine blk_alloc ?_ _)); refine blk_put (cs := #[.int .i64 x155000_2, .int .i64 x155001_2]) ?_ 0 _ rfl; (with_reducible repeat (first | refine blk_drewN ?_ _ | refine blk_drew ?_ | refine blk_alloc ?_ _)); exact BK154.out) Try.underlying59 rfl (by kernel_rfl)) rfl ?_
        exact ⟨by first | rfl | (simp [errW_none, errW_some] <;> rfl) | (simp [*, errW_none, errW_some] <;> rfl), by repeat (first | (with_reducible first | exact HB.out | apply below_alloc | apply pw_below_drewN | apply below_drew1 | refine below_set ?_ GE153.out | refine below_set ?_ GE154.out | refine below_set ?_ GE158.out) | exact HB.out)⟩
    · replace c65 := Bool.eq_false_iff.mpr c65
      subst c65
      have H1 : (newsreelref43_Of.l1 k4 a1 (wrap64 (x7_2 + 1)) a0_0 a0_1 a0_2 a0_3 l0_4 l0_5) = some (r1, r2, r3) := by rw [if_neg (show ¬ (false = true) by decide)] at H; exact H
      clear H
      have H := H1
      clear H1
      as_aux_lemma =>
        have H' := Aside0.mk H
        clear H
        have hnb72 := NB153_154.out
        have hnc72 := NB154_153.out
        have hnb73 := NB153_158.out
        have hnc73 := NB158_153.out
        have hcz74_0 : wr.cell? ⟨gb153, 0, none⟩ = some (.int .i64 a0_0) := (blk_cell BK153.out 0).trans rfl
        have hcz74_1 : wr.cell? ⟨gb153, 1, none⟩ = some (.int .i64 a0_1) := (blk_cell BK153.out 1).trans rfl
        have hcz74_2 : wr.cell? ⟨gb153, 2, none⟩ = some (.int .i64 a0_2) := (blk_cell BK153.out 2).trans rfl
        have hcz74_3 : wr.cell? ⟨gb153, 3, none⟩ = some (.int .i64 a0_3) := (blk_cell BK153.out 3).trans rfl
        have hcz74_4 : wr.cell? ⟨gb153, 4, none⟩ = some (.slice A0_4 l0_4.length c0_4) := (blk_cell BK153.out 4).trans rfl
        have hcz74_5 : wr.cell? ⟨gb153, 5, none⟩ = some (.slice (some ad157) l0_5.length c0_5) := (blk_cell BK153.out 5).trans rfl
        have hfz74_0 := blk_frozen BK153.out 0
        have hfz74_1 := blk_frozen BK153.out 1
        have hfz74_2 := blk_frozen BK153.out 2
        have hfz74_3 := blk_frozen BK153.out 3
        have hfz74_4 := blk_frozen BK153.out 4
        have hfz74_5 := blk_frozen BK153.out 5
        go_wp2_with (first | ((with_reducible refine gate_load (t := 68) rfl ?_); refine load_at2 (t := 68) ?hg ?ho (c0 := _) (cs := [_, _, _, _, _, _, _, _, _, _, _, _, _, _, _, _, _, _, _]) Try.underlying68 rfl (by kernel_rfl) hx157_0 ⟨hx157_1, hx157_2, hx157_3, hx157_4, hx157_5, hx157_6, hx157_7, hx157_8, hx157_9, hx157_10, hx157_11, hx157_12, hx157_13, hx157_14, hx157_15, hx157_16, hx157_17, hx157_18, hx157_19, trivial⟩ ?_; (case hg => rfl); (case ho => refine ⟨_, rfl, ?_⟩; first | (with_reducible rfl) | (go_simp; done))) | ((with_reducible refine gate_load (t := 56) rfl ?_); refine load_row3 (t := 56) (g := gb153) ?hg BK153.out ?ho ?hb Try.underlying56 rfl ?hs ?_; (case hg => rfl); (case ho => refine ⟨_, rfl, ?_⟩; first | (with_reducible rfl) | (go_simp; done)); (case hb => (with_reducible repeat (first | refine blk_drewN ?_ _ | refine blk_drew ?_ | refine blk_alloc ?_ _)); with_reducible exact BK153.out); (case hs => kernel_rfl)) | ((with_reducible refine gate_load (t := 68) rfl ?_); refine load_row3 (t := 68) (g := gb158) ?hg BK158.out ?ho ?hb Try.underlying68 rfl ?hs ?_; (case hg => rfl); (case ho => refine ⟨_, rfl, ?_⟩; first | (with_reducible rfl) | (go_simp; done)); (case hb => (with_reducible repeat (first | refine blk_drewN ?_ _ | refine blk_drew ?_ | refine blk_alloc ?_ _)); with_reducible exact BK158.out); (case hs => kernel_rfl)))
        go_roundg k4
        case measure => have := HK1.out; have := HK2.out; have := HJ20.out; have := HK4.out; omega
        case rel => exact ⟨(wrap64 (x7_2 + 1)), (x155000_2), (x155001_2), (by first | rfl | (simp; done) | (simp [*]; done)), H', ⟨by have := HK1.out; have := HK2.out; have := HJ20.out; have := HK4.out; omega⟩, ⟨by (with_reducible repeat (first | refine blk_drewN ?_ _ | refine blk_drew ?_ | refine blk_alloc ?_ _)); exact BK153.out⟩, ⟨by (with_reducible repeat (first | refine blk_drewN ?_ _ | refine blk_drew ?_ | refine blk_alloc ?_ _)); exact BK154.out⟩, ⟨by repeat (first | (with_reducible first | exact HB.out | apply below_alloc | apply pw_below_drewN | apply below_drew1 | refine below_set ?_ GE153.out | refine below_set ?_ GE154.out | refine below_set ?_ GE158.out) | exact HB.out)⟩⟩
  rw [if_pos c40] at H
  have c40b0 : decide (x10_4 < (l0_5.length : Int)) = true := decide_eq_true c40
  clear c40
  by_cases c41 : x9_4 = true
  rotate_left
  · replace c41 := Bool.eq_false_iff.mpr c41
    subst c41
    have H1 : (newsreelref43_Of.l2 k4 a1 x7_2 false (wrap64 (x10_4 + 1)) a0_0 a0_1 a0_2 a0_3 l0_4 l0_5 ((rd_T68 l0_5 x7_2).f0) ((rd_T68 l0_5 x7_2).f1) ((rd_T68 l0_5 x7_2).f2) ((rd_T68 l0_5 x7_2).f3) ((rd_T68 l0_5 x7_2).f4) ((rd_T68 l0_5 x7_2).f5) ((rd_T68 l0_5 x7_2).f6) ((rd_T68 l0_5 x7_2).f7) ((rd_T68 l0_5 x7_2).f8) ((rd_T68 l0_5 x7_2).f9) ((rd_T68 l0_5 x7_2).f10) ((rd_T68 l0_5 x7_2).f11) ((rd_T68 l0_5 x7_2).f12) ((rd_T68 l0_5 x7_2).f13) ((rd_T68 l0_5 x7_2).f14) ((rd_T68 l0_5 x7_2).f15) ((rd_T68 l0_5 x7_2).f16) ((rd_T68 l0_5 x7_2).f17) ((rd_T68 l0_5 x7_2).f18) ((rd_T68 l0_5 x7_2).f19)) = some (r1, r2, r3) := by rw [if_neg (show ¬ (false = true) by decide)] at H; exact H
    clear H
    have H := H1
    clear H1
    as_aux_lemma =>
      have H' := Aside0.mk H
      clear H
      have hnb61 := NB153_154.out
      have hnc61 := NB154_153.out
      have hnb62 := NB153_158.out
      have hnc62 := NB158_153.out
      have hcz63_0 : wr.cell? ⟨gb153, 0, none⟩ = some (.int .i64 a0_0) := (blk_cell BK153.out 0).trans rfl
      have hcz63_1 : wr.cell? ⟨gb153, 1, none⟩ = some (.int .i64 a0_1) := (blk_cell BK153.out 1).trans rfl
      have hcz63_2 : wr.cell? ⟨gb153, 2, none⟩ = some (.int .i64 a0_2) := (blk_cell BK153.out 2).trans rfl
      have hcz63_3 : wr.cell? ⟨gb153, 3, none⟩ = some (.int .i64 a0_3) := (blk_cell BK153.out 3).trans rfl
      have hcz63_4 : wr.cell? ⟨gb153, 4, none⟩ = some (.slice A0_4 l0_4.length c0_4) := (blk_cell BK153.out 4).trans rfl
      have hcz63_5 : wr.cell? ⟨gb153, 5, none⟩ = some (.slice (some ad157) l0_5.length c0_5) := (blk_cell BK153.out 5).trans rfl
      have hfz63_0 := blk_frozen BK153.out 0
      have hfz63_1 := blk_frozen BK153.out 1
      have hfz63_2 := blk_frozen BK153.out 2
      have hfz63_3 := blk_frozen BK153.out 3
      have hfz63_4 := blk_frozen BK153.out 4
      have hfz63_5 := blk_frozen BK153.out 5
      try go_wp2_with (first | ((with_reducible refine gate_load (t := 68) rfl ?_); refine load_at2 (t := 68) ?hg ?ho (c0 := _) (cs := [_, _, _, _, _, _, _, _, _, _, _, _, _, _, _, _, _, _, _]) Try.underlying68 rfl (by kernel_rfl) hx157_0 ⟨hx157_1, hx157_2, hx157_3, hx157_4, hx157_5, hx157_6, hx157_7, hx157_8, hx157_9, hx157_10, hx157_11, hx157_12, hx157_13, hx157_14, hx157_15, hx157_16, hx157_17, hx157_18, hx157_19, trivial⟩ ?_; (case hg => rfl); (case ho => refine ⟨_, rfl, ?_⟩; first | (with_reducible rfl) | (go_simp; done))) | ((with_reducible refine gate_load (t := 56) rfl ?_); refine load_row3 (t := 56) (g := gb153) ?hg BK153.out ?ho ?hb Try.underlying56 rfl ?hs ?_; (case hg => rfl); (case ho => refine ⟨_, rfl, ?_⟩; first | (with_reducible rfl) | (go_simp; done)); (case hb => (with_reducible repeat (first | refine blk_drewN ?_ _ | refine blk_drew ?_ | refine blk_alloc ?_ _)); with_reducible exact BK153.out); (case hs => kernel_rfl)) | ((with_reducible refine gate_load (t := 68) rfl ?_); refine load_row3 (t := 68) (g := gb158) ?hg BK158.out ?ho ?hb Try.underlying68 rfl ?hs ?_; (case hg => rfl); (case ho => refine ⟨_, rfl, ?_⟩; first | (with_reducible rfl) | (go_simp; done)); (case hb => (with_reducible repeat (first | refine blk_drewN ?_ _ | refine blk_drew ?_ | refine blk_alloc ?_ _)); with_reducible exact BK158.out); (case hs => kernel_rfl)))
      have n0_ := Aside0.mk (blk_drew BK153.out)
      have n1_ := Aside0.mk (blk_drew BK154.out)
      have n2_ := Aside0.mk (blk_drew BK158.out)
      have n3_ := Aside0.mk (below_drew1 HB.out)
      clear BK153
      clear BK154
      clear BK158
      clear HB
      have BK153 := n0_
      have BK154 := n1_
      have BK158 := n2_
      have HB := n3_
      clear n0_ n1_ n2_ n3_
      refine start_ (n := 32) (S := fun w' => True) (ds := []) #[false, false, false, false, false, false, false, false, false, false, false, false, false, false, false, false, false, false, false, false, false, false, false, false, false, false, false, false, false, false, false, false] (by kernel_rfl) rfl rfl trivial (fun hHeld => ?_); refine with_tabW newsreelref43_Of.tab14 newsreelref43_Of.bits14 (fun HT_ HW_ => ?_)
      generalize wr.drew = w64 at BK153 BK154 BK158 HB hHeld ⊢
      refine pure_ (i := 0) (N := some 56) (v := ?_) (a' := ?_) #[true, false, false, false, false, false, false, false, false, false, false, false, false, false, false, false, false, false, false, false, false, false, false, false, false, false, false, false, false, false, false, false] rfl rfl (any_of HT_.out (by kernel_rfl)) (fun _ _ _ h => h) (Or.inl ⟨by rfl, ?_⟩) ?_ ?_
      rotate_left
      · intro w'
        go_simp
        with_reducible rfl
      rotate_left
      · simp only [Act.put, List.setIfInBounds_toArray, List.set_cons_zero, List.set_cons_succ, i64_w, i32_w]
        rfl
      refine pure_ (i := 1) (N := some 57) (v := ?_) (a' := ?_) #[true, true, false, false, false, false, false, false, false, false, false, false, false, false, false, false, false, false, false, false, false, false, false, false, false, false, false, false, false, false, false, false] rfl rfl (any_of HT_.out (by kernel_rfl)) (fun _ _ _ h => h) (Or.inl ⟨by rfl, ?_⟩) ?_ ?_
      rotate_left
      · intro w'
        go_simp
        with_reducible rfl
      rotate_left
      · simp only [Act.put, List.setIfInBounds_toArray, List.set_cons_zero, List.set_cons_succ, i64_w, i32_w]
        rfl
      refine pure_ (i := 2) (N := some 58) (v := undef) (a' := ?_) #[true, true, true, false, false, false, false, false, false, false, false, false, false, false, false, false, false, false, false, false, false, false, false, false, false, false, false, false, false, false, false, false] rfl rfl (any_of HT_.out (by kernel_rfl)) (fun _ _ _ h => h) (Or.inr ⟨by rfl, rfl⟩) ?_ ?_
      rotate_left
      · simp only [Act.put, List.setIfInBounds_toArray, List.set_cons_zero, List.set_cons_succ, i64_w, i32_w]
        rfl
      refine pure_ (i := 3) (N := some 59) (v := undef) (a' := ?_) #[true, true, true, true, false, false, false, false, false, false, false, false, false, false, false, false, false, false, false, false, false, false, false, false, false, false, false, false, false, false, false, false] rfl rfl (any_of HT_.out (by kernel_rfl)) (fun _ _ _ h => h) (Or.inr ⟨by rfl, rfl⟩) ?_ ?_
      rotate_left
      · simp only [Act.put, List.setIfInBounds_toArray, List.set_cons_zero, List.set_cons_succ, i64_w, i32_w]
        rfl
      refine pure_ (i := 4) (N := some 60) (v := undef) (a' := ?_) #[true, true, true, true, true, false, false, false, false, false, false, false, false, false, false, false, false, false, false, false, false, false, false, false, false, false, false, false, false, false, false, false] rfl rfl (any_of HT_.out (by kernel_rfl)) (fun _ _ _ h => h) (Or.inr ⟨by rfl, rfl⟩) ?_ ?_
      rotate_left
      · simp only [Act.put, List.setIfInBounds_toArray, List.set_cons_zero, List.set_cons_succ, i64_w, i32_w]
        rfl
      refine pure_ (i := 5) (N := some 61) (v := undef) (a' := ?_) #[true, true, true, true, true, true, false, false, false, false, false, false, false, false, false, false, false, false, false, false, false, false, false, false, false, false, false, false, false, false, false, false] rfl rfl (any_of HT_.out (by kernel_rfl)) (fun _ _ _ h => h) (Or.inr ⟨by rfl, rfl⟩) ?_ ?_
      rotate_left
      · simp only [Act.put, List.setIfInBounds_toArray, List.set_cons_zero, List.set_cons_succ, i64_w, i32_w]
        rfl
      refine pure_ (i := 6) (N := some 62) (v := undef) (a' := ?_) #[true, true, true, true, true, true, true, false, false, false, false, false, false, false, false, false, false, false, false, false, false, false, false, false, false, false, false, false, false, false, false, false] rfl rfl (any_of HT_.out (by kernel_rfl)) (fun _ _ _ h => h) (Or.inr ⟨by rfl, rfl⟩) ?_ ?_
      rotate_left
      · simp only [Act.put, List.setIfInBounds_toArray, List.set_cons_zero, List.set_cons_succ, i64_w, i32_w]
        rfl
      refine pure_ (i := 7) (N := some 63) (v := undef) (a' := ?_) #[true, true, true, true, true, true, true, true, false, false, false, false, false, false, false, false, false, false, false, false, false, false, false, false, false, false, false, false, false, false, false, false] rfl rfl (any_of HT_.out (by kernel_rfl)) (fun _ _ _ h => h) (Or.inr ⟨by rfl, rfl⟩) ?_ ?_
      rotate_left
      · simp only [Act.put, List.setIfInBounds_toArray, List.set_cons_zero, List.set_cons_succ, i64_w, i32_w]
        rfl
      refine pure_ (i := 8) (N := some 64) (v := undef) (a' := ?_) #[true, true, true, true, true, true, true, true, true, false, false, false, false, false, false, false, false, false, false, false, false, false, false, false, false, false, false, false, false, false, false, false] rfl rfl (any_of HT_.out (by kernel_rfl)) (fun _ _ _ h => h) (Or.inr ⟨by rfl, rfl⟩) ?_ ?_
      rotate_left
      · simp only [Act.put, List.setIfInBounds_toArray, List.set_cons_zero, List.set_cons_succ, i64_w, i32_w]
        rfl
      refine pure_ (i := 9) (N := some 65) (v := undef) (a' := ?_) #[true, true, true, true, true, true, true, true, true, true, false, false, false, false, false, false, false, false, false, false, false, false, false, false, false, false, false, false, false, false, false, false] rfl rfl (any_of HT_.out (by kernel_rfl)) (fun _ _ _ h => h) (Or.inr ⟨by rfl, rfl⟩) ?_ ?_
      rotate_left
      · simp only [Act.put, List.setIfInBounds_toArray, List.set_cons_zero, List.set_cons_succ, i64_w, i32_w]
        rfl
      refine pure_ (i := 10) (N := some 66) (v := undef) (a' := ?_) #[true, true, true, true, true, true, true, true, true, true, true, false, false, false, false, false, false, false, false, false, false, false, false, false, false, false, false, false, false, false, false, false] rfl rfl (any_of HT_.out (by kernel_rfl)) (fun _ _ _ h => h) (Or.inr ⟨by rfl, rfl⟩) ?_ ?_
      rotate_left
      · simp only [Act.put, List.setIfInBounds_toArray, List.set_cons_zero, List.set_cons_succ, i64_w, i32_w]
        rfl
      refine pure_ (i := 11) (N := some 67) (v := undef) (a' := ?_) #[true, true, true, true, true, true, true, true, true, true, true, true, false, false, false, false, false, false, false, false, false, false, false, false, false, false, false, false, false, false, false, false] rfl rfl (any_of HT_.out (by kernel_rfl)) (fun _ _ _ h => h) (Or.inr ⟨by rfl, rfl⟩) ?_ ?_
      rotate_left
      · simp only [Act.put, List.setIfInBounds_toArray, List.set_cons_zero, List.set_cons_succ, i64_w, i32_w]
        rfl
      refine pure_ (i := 12) (N := some 68) (v := undef) (a' := ?_) #[true, true, true, true, true, true, true, true, true, true, true, true, true, false, false, false, false, false, false, false, false, false, false, false, false, false, false, false, false, false, false, false] rfl rfl (any_of HT_.out (by kernel_rfl)) (fun _ _ _ h => h) (Or.inr ⟨by rfl, rfl⟩) ?_ ?_
      rotate_left
      · simp only [Act.put, List.setIfInBounds_toArray, List.set_cons_zero, List.set_cons_succ, i64_w, i32_w]
        rfl
      refine pure_ (i := 13) (N := some 69) (v := undef) (a' := ?_) #[true, true, true, true, true, true, true, true, true, true, true, true, true, true, false, false, false, false, false, false, false, false, false, false, false, false, false, false, false, false, false, false] rfl rfl (any_of HT_.out (by kernel_rfl)) (fun _ _ _ h => h) (Or.inr ⟨by rfl, rfl⟩) ?_ ?_
      rotate_left
      · simp only [Act.put, List.setIfInBounds_toArray, List.set_cons_zero, List.set_cons_succ, i64_w, i32_w]
        rfl
      refine pure_ (i := 14) (N := some 70) (v := undef) (a' := ?_) #[true, true, true, true, true, true, true, true, true, true, true, true, true, true, true, false, false, false, false, false, false, false, false, false, false, false, false, false, false, false, false, false] rfl rfl (any_of HT_.out (by kernel_rfl)) (fun _ _ _ h => h) (Or.inr ⟨by rfl, rfl⟩) ?_ ?_
      rotate_left
      · simp only [Act.put, List.setIfInBounds_toArray, List.set_cons_zero, List.set_cons_succ, i64_w, i32_w]
        rfl
      refine pure_ (i := 15) (N := some 71) (v := undef) (a' := ?_) #[true, true, true, true, true, true, true, true, true, true, true, true, true, true, true, true, false, false, false, false, false, false, false, false, false, false, false, false, false, false, false, false] rfl rfl (any_of HT_.out (by kernel_rfl)) (fun _ _ _ h => h) (Or.inr ⟨by rfl, rfl⟩) ?_ ?_
      rotate_left
      · simp only [Act.put, List.setIfInBounds_toArray, List.set_cons_zero, List.set_cons_succ, i64_w, i32_w]
        rfl
      refine pure_ (i := 16) (N := some 72) (v := undef) (a' := ?_) #[true, true, true, true, true, true, true, true, true, true, true, true, true, true, true, true, true, false, false, false, false, false, false, false, false, false, false, false, false, false, false, false] rfl rfl (any_of HT_.out (by kernel_rfl)) (fun _ _ _ h => h) (Or.inr ⟨by rfl, rfl⟩) ?_ ?_
      rotate_left
      · simp only [Act.put, List.setIfInBounds_toArray, List.set_cons_zero, List.set_cons_succ, i64_w, i32_w]
        rfl
      refine pure_ (i := 17) (N := some 73) (v := undef) (a' := ?_) #[true, true, true, true, true, true, true, true, true, true, true, true, true, true, true, true, true, true, false, false, false, false, false, false, false, false, false, false, false, false, false, false] rfl rfl (any_of HT_.out (by kernel_rfl)) (fun _ _ _ h => h) (Or.inr ⟨by rfl, rfl⟩) ?_ ?_
      rotate_left
      · simp only [Act.put, List.setIfInBounds_toArray, List.set_cons_zero, List.set_cons_succ, i64_w, i32_w]
        rfl
      refine pure_ (i := 18) (N := some 74) (v := undef) (a' := ?_) #[true, true, true, true, true, true, true, true, true, true, true, true, true, true, true, true, true, true, true, false, false, false, false, false, false, false, false, false, false, false, false, false] rfl rfl (any_of HT_.out (by kernel_rfl)) (fun _ _ _ h => h) (Or.inr ⟨by rfl, rfl⟩) ?_ ?_
      rotate_left
      · simp only [Act.put, List.setIfInBounds_toArray, List.set_cons_zero, List.set_cons_succ, i64_w, i32_w]
        rfl
      refine pure_ (i := 19) (N := some 75) (v := undef) (a' := ?_) #[true, true, true, true, true, true, true, true, true, true, true, true, true, true, true, true, true, true, true, true, false, false, false, false, false, false, false, false, false, false, false, false] rfl rfl (any_of HT_.out (by kernel_rfl)) (fun _ _ _ h => h) (Or.inr ⟨by rfl, rfl⟩) ?_ ?_
      rotate_left
      · simp only [Act.put, List.setIfInBounds_toArray, List.set_cons_zero, List.set_cons_succ, i64_w, i32_w]
        rfl
      refine pure_ (i := 20) (N := some 76) (v := undef) (a' := ?_) #[true, true, true, true, true, true, true, true, true, true, true, true, true, true, true, true, true, true, true, true, true, false, false, false, false, false, false, false, false, false, false, false] rfl rfl (any_of HT_.out (by kernel_rfl)) (fun _ _ _ h => h) (Or.inr ⟨by rfl, rfl⟩) ?_ ?_
      rotate_left
      · simp only [Act.put, List.setIfInBounds_toArray, List.set_cons_zero, List.set_cons_succ, i64_w, i32_w]
        rfl
      refine pure_ (i := 21) (N := some 77) (v := undef) (a' := ?_) #[true, true, true, true, true, true, true, true, true, true, true, true, true, true, true, true, true, true, true, true, true, true, false, false, false, false, false, false, false, false, false, false] rfl rfl (any_of HT_.out (by kernel_rfl)) (fun _ _ _ h => h) (Or.inr ⟨by rfl, rfl⟩) ?_ ?_
      rotate_left
      · simp only [Act.put, List.setIfInBounds_toArray, List.set_cons_zero, List.set_cons_succ, i64_w, i32_w]
        rfl
      refine pure_ (i := 22) (N := some 78) (v := undef) (a' := ?_) #[true, true, true, true, true, true, true, true, true, true, true, true, true, true, true, true, true, true, true, true, true, true, true, false, false, false, false, false, false, false, false, false] rfl rfl (any_of HT_.out (by kernel_rfl)) (fun _ _ _ h => h) (Or.inr ⟨by rfl, rfl⟩) ?_ ?_
      rotate_left
      · simp only [Act.put, List.setIfInBounds_toArray, List.set_cons_zero, List.set_cons_succ, i64_w, i32_w]
        rfl
      refine pure_ (i := 23) (N := some 79) (v := undef) (a' := ?_) #[true, true, true, true, true, true, true, true, true, true, true, true, true, true, true, true, true, true, true, true, true, true, true, true, false, false, false, false, false, false, false, false] rfl rfl (any_of HT_.out (by kernel_rfl)) (fun _ _ _ h => h) (Or.inr ⟨by rfl, rfl⟩) ?_ ?_
      rotate_left
      · simp only [Act.put, List.setIfInBounds_toArray, List.set_cons_zero, List.set_cons_succ, i64_w, i32_w]
        rfl
      refine pure_ (i := 24) (N := some 80) (v := undef) (a' := ?_) #[true, true, true, true, true, true, true, true, true, true, true, true, true, true, true, true, true, true, true, true, true, true, true, true, true, false, false, false, false, false, false, false] rfl rfl (any_of HT_.out (by kernel_rfl)) (fun _ _ _ h => h) (Or.inr ⟨by rfl, rfl⟩) ?_ ?_
      rotate_left
      · simp only [Act.put, List.setIfInBounds_toArray, List.set_cons_zero, List.set_cons_succ, i64_w, i32_w]
        rfl
      refine pure_ (i := 25) (N := some 81) (v := undef) (a' := ?_) #[true, true, true, true, true, true, true, true, true, true, true, true, true, true, true, true, true, true, true, true, true, true, true, true, true, true, false, false, false, false, false, false] rfl rfl (any_of HT_.out (by kernel_rfl)) (fun _ _ _ h => h) (Or.inr ⟨by rfl, rfl⟩) ?_ ?_
      rotate_left
      · simp only [Act.put, List.setIfInBounds_toArray, List.set_cons_zero, List.set_cons_succ, i64_w, i32_w]
        rfl
      refine pure_ (i := 26) (N := some 82) (v := undef) (a' := ?_) #[true, true, true, true, true, true, true, true, true, true, true, true, true, true, true, true, true, true, true, true, true, true, true, true, true, true, true, false, false, false, false, false] rfl rfl (any_of HT_.out (by kernel_rfl)) (fun _ _ _ h => h) (Or.inr ⟨by rfl, rfl⟩) ?_ ?_
      rotate_left
      · simp only [Act.put, List.setIfInBounds_toArray, List.set_cons_zero, List.set_cons_succ, i64_w, i32_w]
        rfl
      refine pure_ (i := 27) (N := some 83) (v := undef) (a' := ?_) #[true, true, true, true, true, true, true, true, true, true, true, true, true, true, true, true, true, true, true, true, true, true, true, true, true, true, true, true, false, false, false, false] rfl rfl (any_of HT_.out (by kernel_rfl)) (fun _ _ _ h => h) (Or.inr ⟨by rfl, rfl⟩) ?_ ?_
      rotate_left
      · simp only [Act.put, List.setIfInBounds_toArray, List.set_cons_zero, List.set_cons_succ, i64_w, i32_w]
        rfl
      refine pure_ (i := 28) (N := some 84) (v := undef) (a' := ?_) #[true, true, true, true, true, true, true, true, true, true, true, true, true, true, true, true, true, true, true, true, true, true, true, true, true, true, true, true, true, false, false, false] rfl rfl (any_of HT_.out (by kernel_rfl)) (fun _ _ _ h => h) (Or.inr ⟨by rfl, rfl⟩) ?_ ?_
      rotate_left
      · simp only [Act.put, List.setIfInBounds_toArray, List.set_cons_zero, List.set_cons_succ, i64_w, i32_w]
        rfl
      refine pure_ (i := 29) (N := some 85) (v := undef) (a' := ?_) #[true, true, true, true, true, true, true, true, true, true, true, true, true, true, true, true, true, true, true, true, true, true, true, true, true, true, true, true, true, true, false, false] rfl rfl (any_of HT_.out (by kernel_rfl)) (fun _ _ _ h => h) (Or.inr ⟨by rfl, rfl⟩) ?_ ?_
      rotate_left
      · simp only [Act.put, List.setIfInBounds_toArray, List.set_cons_zero, List.set_cons_succ, i64_w, i32_w]
        rfl
      refine pure_ (i := 30) (N := some 86) (v := ?_) (a' := ?_) #[true, true, true, true, true, true, true, true, true, true, true, true, true, true, true, true, true, true, true, true, true, true, true, true, true, true, true, true, true, true, true, false] rfl rfl (any_of HT_.out (by kernel_rfl)) (fun _ _ _ h => h) (Or.inl ⟨by rfl, ?_⟩) ?_ ?_
      rotate_left
      · intro w'
        go_simp
        with_reducible rfl
      rotate_left
      · simp only [Act.put, List.setIfInBounds_toArray, List.set_cons_zero, List.set_cons_succ, i64_w, i32_w]
        rfl
      refine pure_ (i := 31) (N := some 9) (v := ?_) (a' := ?_) #[true, true, true, true, true, true, true, true, true, true, true, true, true, true, true, true, true, true, true, true, true, true, true, true, true, true, true, true, true, true, true, true] rfl rfl (any_of HT_.out (by kernel_rfl)) (fun _ _ _ h => h) (Or.inl ⟨by rfl, ?_⟩) ?_ ?_
      rotate_left
      · intro w'
        go_simp
        with_reducible rfl
      rotate_left
      · simp only [Act.put, List.setIfInBounds_toArray, List.set_cons_zero, List.set_cons_succ, i64_w, i32_w]
        rfl
      refine done_ (done_of HT_.out (by kernel_rfl)) ?_
      try go_wp2_with (first | ((with_reducible refine gate_load (t := 68) rfl ?_); refine load_at2 (t := 68) ?hg ?ho (c0 := _) (cs := [_, _, _, _, _, _, _, _, _, _, _, _, _, _, _, _, _, _, _]) Try.underlying68 rfl (by kernel_rfl) hx157_0 ⟨hx157_1, hx157_2, hx157_3, hx157_4, hx157_5, hx157_6, hx157_7, hx157_8, hx157_9, hx157_10, hx157_11, hx157_12, hx157_13, hx157_14, hx157_15, hx157_16, hx157_17, hx157_18, hx157_19, trivial⟩ ?_; (case hg => rfl); (case ho => refine ⟨_, rfl, ?_⟩; first | (with_reducible rfl) | (go_simp; done))) | ((with_reducible refine gate_load (t := 56) rfl ?_); refine load_row3 (t := 56) (g := gb153) ?hg BK153.out ?ho ?hb Try.underlying56 rfl ?hs ?_; (case hg => rfl); (case ho => refine ⟨_, rfl, ?_⟩; first | (with_reducible rfl) | (go_simp; done)); (case hb => (with_reducible repeat (first | refine blk_drewN ?_ _ | refine blk_drew ?_ | refine blk_alloc ?_ _)); with_reducible exact BK153.out); (case hs => kernel_rfl)) | ((with_reducible refine gate_load (t := 68) rfl ?_); refine load_row3 (t := 68) (g := gb158) ?hg BK158.out ?ho ?hb Try.underlying68 rfl ?hs ?_; (case hg => rfl); (case ho => refine ⟨_, rfl, ?_⟩; first | (with_reducible rfl) | (go_simp; done)); (case hb => (with_reducible repeat (first | refine blk_drewN ?_ _ | refine blk_drew ?_ | refine blk_alloc ?_ _)); with_reducible exact BK158.out); (case hs => kernel_rfl)))
      go_roundg k4
      case measure => have := HK1.out; have := HK2.out; have := HJ20.out; have := HK4.out; omega
      case rel => exact ⟨(false), (wrap64 (x10_4 + 1)), (by first | rfl | (simp; done) | (simp [*]; done)), (by first | rfl | (simp; done) | (simp [*]; done)), H', ⟨by have := HK1.out; have := HK2.out; have := HJ20.out; have := HK4.out; omega⟩, ⟨by (with_reducible repeat (first | refine blk_drewN ?_ _ | refine blk_drew ?_ | refine blk_alloc ?_ _)); exact BK153.out⟩, ⟨by (with_reducible repeat (first | refine blk_drewN ?_ _ | refine blk_drew ?_ | refine blk_alloc ?_ _)); exact BK154.out⟩, ⟨by (with_reducible repeat (first | refine blk_drewN ?_ _ | refine blk_drew ?_ | refine blk_alloc ?_ _)); exact BK158.out⟩, ⟨by repeat (first | (with_reducible first | exact HB.out | apply below_alloc | apply pw_below_drewN | apply below_drew1 | refine below_set ?_ GE153.out | refine below_set ?_ GE154.out | refine below_set ?_ GE158.out) | exact HB.out)⟩⟩
  subst c41
  have H1 : (if 0 ≤ x10_4 then ((newsreelref43_Waits.f ((rd_T68 l0_5 x10_4).f0) ((rd_T68 l0_5 x10_4).f1) ((rd_T68 l0_5 x10_4).f2) ((rd_T68 l0_5 x10_4).f3) ((rd_T68 l0_5 x10_4).f4) ((rd_T68 l0_5 x10_4).f5) ((rd_T68 l0_5 x10_4).f6) ((rd_T68 l0_5 x10_4).f7) ((rd_T68 l0_5 x10_4).f8) ((rd_T68 l0_5 x10_4).f9) ((rd_T68 l0_5 x10_4).f10) ((rd_T68 l0_5 x10_4).f11) ((rd_T68 l0_5 x10_4).f12) ((rd_T68 l0_5 x10_4).f13) ((rd_T68 l0_5 x10_4).f14) ((rd_T68 l0_5 x10_4).f15) ((rd_T68 l0_5 x10_4).f16) ((rd_T68 l0_5 x10_4).f17) ((rd_T68 l0_5 x10_4).f18) ((rd_T68 l0_5 x10_4).f19)).bind fun t161 => (if t161 = true then (if ((rd_T68 l0_5 x10_4).f12) ≤ a1 then (newsreelref43_Of.l2 k4 a1 x7_2 (!(decide (((rd_T68 l0_5 x10_4).f0) < ((rd_T68 l0_5 x7_2).f0)))) (wrap64 (x10_4 + 1)) a0_0 a0_1 a0_2 a0_3 l0_4 l0_5 ((rd_T68 l0_5 x7_2).f0) ((rd_T68 l0_5 x7_2).f1) ((rd_T68 l0_5 x7_2).f2) ((rd_T68 l0_5 x7_2).f3) ((rd_T68 l0_5 x7_2).f4) ((rd_T68 l0_5 x7_2).f5) ((rd_T68 l0_5 x7_2).f6) ((rd_T68 l0_5 x7_2).f7) ((rd_T68 l0_5 x7_2).f8) ((rd_T68 l0_5 x7_2).f9) ((rd_T68 l0_5 x7_2).f10) ((rd_T68 l0_5 x7_2).f11) ((rd_T68 l0_5 x7_2).f12) ((rd_T68 l0_5 x7_2).f13) ((rd_T68 l0_5 x7_2).f14) ((rd_T68 l0_5 x7_2).f15) ((rd_T68 l0_5 x7_2).f16) ((rd_T68 l0_5 x7_2).f17) ((rd_T68 l0_5 x7_2).f18) ((rd_T68 l0_5 x7_2).f19)) else (newsreelref43_Of.l2 k4 a1 x7_2 (!false) (wrap64 (x10_4 + 1)) a0_0 a0_1 a0_2 a0_3 l0_4 l0_5 ((rd_T68 l0_5 x7_2).f0) ((rd_T68 l0_5 x7_2).f1) ((rd_T68 l0_5 x7_2).f2) ((rd_T68 l0_5 x7_2).f3) ((rd_T68 l0_5 x7_2).f4) ((rd_T68 l0_5 x7_2).f5) ((rd_T68 l0_5 x7_2).f6) ((rd_T68 l0_5 x7_2).f7) ((rd_T68 l0_5 x7_2).f8) ((rd_T68 l0_5 x7_2).f9) ((rd_T68 l0_5 x7_2).f10) ((rd_T68 l0_5 x7_2).f11) ((rd_T68 l0_5 x7_2).f12) ((rd_T68 l0_5 x7_2).f13) ((rd_T68 l0_5 x7_2).f14) ((rd_T68 l0_5 x7_2).f15) ((rd_T68 l0_5 x7_2).f16) ((rd_T68 l0_5 x7_2).f17) ((rd_T68 l0_5 x7_2).f18) ((rd_T68 l0_5 x7_2).f19))) else (newsreelref43_Of.l2 k4 a1 x7_2 (!false) (wrap64 (x10_4 + 1)) a0_0 a0_1 a0_2 a0_3 l0_4 l0_5 ((rd_T68 l0_5 x7_2).f0) ((rd_T68 l0_5 x7_2).f1) ((rd_T68 l0_5 x7_2).f2) ((rd_T68 l0_5 x7_2).f3) ((rd_T68 l0_5 x7_2).f4) ((rd_T68 l0_5 x7_2).f5) ((rd_T68 l0_5 x7_2).f6) ((rd_T68 l0_5 x7_2).f7) ((rd_T68 l0_5 x7_2).f8) ((rd_T68 l0_5 x7_2).f9) ((rd_T68 l0_5 x7_2).f10) ((rd_T68 l0_5 x7_2).f11) ((rd_T68 l0_5 x7_2).f12) ((rd_T68 l0_5 x7_2).f13) ((rd_T68 l0_5 x7_2).f14) ((rd_T68 l0_5 x7_2).f15) ((rd_T68 l0_5 x7_2).f16) ((rd_T68 l0_5 x7_2).f17) ((rd_T68 l0_5 x7_2).f18) ((rd_T68 l0_5 x7_2).f19)))) else (none)) = some (r1, r2, r3) := by rw [if_pos rfl] at H; exact H
  clear H
  have H := H1
  clear H1
  by_cases c42 : 0 ≤ x10_4
  rotate_left
  · rw [if_neg c42] at H
    exact absurd H (by simp)
  rw [if_pos c42] at H
  have c42b0 : decide (0 ≤ x10_4) = true := decide_eq_true c42
  clear c42
  replace H := Option.bind_eq_some_iff.mp H
  obtain ⟨t161, A430, H⟩ := H
  replace H : (if t161 = true then (if ((rd_T68 l0_5 x10_4).f12) ≤ a1 then (newsreelref43_Of.l2 k4 a1 x7_2 (!(decide (((rd_T68 l0_5 x10_4).f0) < ((rd_T68 l0_5 x7_2).f0)))) (wrap64 (x10_4 + 1)) a0_0 a0_1 a0_2 a0_3 l0_4 l0_5 ((rd_T68 l0_5 x7_2).f0) ((rd_T68 l0_5 x7_2).f1) ((rd_T68 l0_5 x7_2).f2) ((rd_T68 l0_5 x7_2).f3) ((rd_T68 l0_5 x7_2).f4) ((rd_T68 l0_5 x7_2).f5) ((rd_T68 l0_5 x7_2).f6) ((rd_T68 l0_5 x7_2).f7) ((rd_T68 l0_5 x7_2).f8) ((rd_T68 l0_5 x7_2).f9) ((rd_T68 l0_5 x7_2).f10) ((rd_T68 l0_5 x7_2).f11) ((rd_T68 l0_5 x7_2).f12) ((rd_T68 l0_5 x7_2).f13) ((rd_T68 l0_5 x7_2).f14) ((rd_T68 l0_5 x7_2).f15) ((rd_T68 l0_5 x7_2).f16) ((rd_T68 l0_5 x7_2).f17) ((rd_T68 l0_5 x7_2).f18) ((rd_T68 l0_5 x7_2).f19)) else (newsreelref43_Of.l2 k4 a1 x7_2 (!false) (wrap64 (x10_4 + 1)) a0_0 a0_1 a0_2 a0_3 l0_4 l0_5 ((rd_T68 l0_5 x7_2).f0) ((rd_T68 l0_5 x7_2).f1) ((rd_T68 l0_5 x7_2).f2) ((rd_T68 l0_5 x7_2).f3) ((rd_T68 l0_5 x7_2).f4) ((rd_T68 l0_5 x7_2).f5) ((rd_T68 l0_5 x7_2).f6) ((rd_T68 l0_5 x7_2).f7) ((rd_T68 l0_5 x7_2).f8) ((rd_T68 l0_5 x7_2).f9) ((rd_T68 l0_5 x7_2).f10) ((rd_T68 l0_5 x7_2).f11) ((rd_T68 l0_5 x7_2).f12) ((rd_T68 l0_5 x7_2).f13) ((rd_T68 l0_5 x7_2).f14) ((rd_T68 l0_5 x7_2).f15) ((rd_T68 l0_5 x7_2).f16) ((rd_T68 l0_5 x7_2).f17) ((rd_T68 l0_5 x7_2).f18) ((rd_T68 l0_5 x7_2).f19))) else (newsreelref43_Of.l2 k4 a1 x7_2 (!false) (wrap64 (x10_4 + 1)) a0_0 a0_1 a0_2 a0_3 l0_4 l0_5 ((rd_T68 l0_5 x7_2).f0) ((rd_T68 l0_5 x7_2).f1) ((rd_T68 l0_5 x7_2).f2) ((rd_T68 l0_5 x7_2).f3) ((rd_T68 l0_5 x7_2).f4) ((rd_T68 l0_5 x7_2).f5) ((rd_T68 l0_5 x7_2).f6) ((rd_T68 l0_5 x7_2).f7) ((rd_T68 l0_5 x7_2).f8) ((rd_T68 l0_5 x7_2).f9) ((rd_T68 l0_5 x7_2).f10) ((rd_T68 l0_5 x7_2).f11) ((rd_T68 l0_5 x7_2).f12) ((rd_T68 l0_5 x7_2).f13) ((rd_T68 l0_5 x7_2).f14) ((rd_T68 l0_5 x7_2).f15) ((rd_T68 l0_5 x7_2).f16) ((rd_T68 l0_5 x7_2).f17) ((rd_T68 l0_5 x7_2).f18) ((rd_T68 l0_5 x7_2).f19))) = some (r1, r2, r3) := H
  have A43 := Aside0.mk A430
  clear A430
  by_cases c44 : t161 = true
  rotate_left
  · replace c44 := Bool.eq_false_iff.mpr c44
    subst c44
    have H1 : (newsreelref43_Of.l2 k4 a1 x7_2 (!false) (wrap64 (x10_4 + 1)) a0_0 a0_1 a0_2 a0_3 l0_4 l0_5 ((rd_T68 l0_5 x7_2).f0) ((rd_T68 l0_5 x7_2).f1) ((rd_T68 l0_5 x7_2).f2) ((rd_T68 l0_5 x7_2).f3) ((rd_T68 l0_5 x7_2).f4) ((rd_T68 l0_5 x7_2).f5) ((rd_T68 l0_5 x7_2).f6) ((rd_T68 l0_5 x7_2).f7) ((rd_T68 l0_5 x7_2).f8) ((rd_T68 l0_5 x7_2).f9) ((rd_T68 l0_5 x7_2).f10) ((rd_T68 l0_5 x7_2).f11) ((rd_T68 l0_5 x7_2).f12) ((rd_T68 l0_5 x7_2).f13) ((rd_T68 l0_5 x7_2).f14) ((rd_T68 l0_5 x7_2).f15) ((rd_T68 l0_5 x7_2).f16) ((rd_T68 l0_5 x7_2).f17) ((rd_T68 l0_5 x7_2).f18) ((rd_T68 l0_5 x7_2).f19)) = some (r1, r2, r3) := by rw [if_neg (show ¬ (false = true) by decide)] at H; exact H
    clear H
    have H := H1
    clear H1
    as_aux_lemma =>
      have H' := Aside0.mk H
      clear H
      have hnb56 := NB153_154.out
      have hnc56 := NB154_153.out
      have hnb57 := NB153_158.out
      have hnc57 := NB158_153.out
      have hcz58_0 : wr.cell? ⟨gb153, 0, none⟩ = some (.int .i64 a0_0) := (blk_cell BK153.out 0).trans rfl
      have hcz58_1 : wr.cell? ⟨gb153, 1, none⟩ = some (.int .i64 a0_1) := (blk_cell BK153.out 1).trans rfl
      have hcz58_2 : wr.cell? ⟨gb153, 2, none⟩ = some (.int .i64 a0_2) := (blk_cell BK153.out 2).trans rfl
      have hcz58_3 : wr.cell? ⟨gb153, 3, none⟩ = some (.int .i64 a0_3) := (blk_cell BK153.out 3).trans rfl
      have hcz58_4 : wr.cell? ⟨gb153, 4, none⟩ = some (.slice A0_4 l0_4.length c0_4) := (blk_cell BK153.out 4).trans rfl
      have hcz58_5 : wr.cell? ⟨gb153, 5, none⟩ = some (.slice (some ad157) l0_5.length c0_5) := (blk_cell BK153.out 5).trans rfl
      have hfz58_0 := blk_frozen BK153.out 0
      have hfz58_1 := blk_frozen BK153.out 1
      have hfz58_2 := blk_frozen BK153.out 2
      have hfz58_3 := blk_frozen BK153.out 3
      have hfz58_4 := blk_frozen BK153.out 4
      have hfz58_5 := blk_frozen BK153.out 5
      try go_wp2_with (first | ((with_reducible refine gate_load (t := 68) rfl ?_); refine load_at2 (t := 68) ?hg ?ho (c0 := _) (cs := [_, _, _, _, _, _, _, _, _, _, _, _, _, _, _, _, _, _, _]) Try.underlying68 rfl (by kernel_rfl) hx157_0 ⟨hx157_1, hx157_2, hx157_3, hx157_4, hx157_5, hx157_6, hx157_7, hx157_8, hx157_9, hx157_10, hx157_11, hx157_12, hx157_13, hx157_14, hx157_15, hx157_16, hx157_17, hx157_18, hx157_19, trivial⟩ ?_; (case hg => rfl); (case ho => refine ⟨_, rfl, ?_⟩; first | (with_reducible rfl) | (go_simp; done))) | ((with_reducible refine gate_load (t := 56) rfl ?_); refine load_row3 (t := 56) (g := gb153) ?hg BK153.out ?ho ?hb Try.underlying56 rfl ?hs ?_; (case hg => rfl); (case ho => refine ⟨_, rfl, ?_⟩; first | (with_reducible rfl) | (go_simp; done)); (case hb => (with_reducible repeat (first | refine blk_drewN ?_ _ | refine blk_drew ?_ | refine blk_alloc ?_ _)); with_reducible exact BK153.out); (case hs => kernel_rfl)) | ((with_reducible refine gate_load (t := 68) rfl ?_); refine load_row3 (t := 68) (g := gb158) ?hg BK158.out ?ho ?hb Try.underlying68 rfl ?hs ?_; (case hg => rfl); (case ho => refine ⟨_, rfl, ?_⟩; first | (with_reducible rfl) | (go_simp; done)); (case hb => (with_reducible repeat (first | refine blk_drewN ?_ _ | refine blk_drew ?_ | refine blk_alloc ?_ _)); with_reducible exact BK158.out); (case hs => kernel_rfl)))
      have n0_ := Aside0.mk (blk_drew BK153.out)
      have n1_ := Aside0.mk (blk_drew BK154.out)
      have n2_ := Aside0.mk (blk_drew BK158.out)
      have n3_ := Aside0.mk (below_drew1 HB.out)
      clear BK153
      clear BK154
      clear BK158
      clear HB
      have BK153 := n0_
      have BK154 := n1_
      have BK158 := n2_
      have HB := n3_
      clear n0_ n1_ n2_ n3_
      have p160 : 0 ≤ (x10_4 : Int) := of_decide_eq_true (by first | (with_reducible assumption) | assumption)
      have q160 : x10_4 < (l0_5.length : Int) := of_decide_eq_true (by first | (with_reducible assumption) | assumption)
      obtain ⟨ad160, e160, hx160_0, hx160_1, hx160_2, hx160_3, hx160_4, hx160_5, hx160_6, hx160_7, hx160_8, hx160_9, hx160_10, hx160_11, hx160_12, hx160_13, hx160_14, hx160_15, hx160_16, hx160_17, hx160_18, hx160_19⟩ := at_T68 HR0_5.out x10_4 p160 q160
      have hw160_19 := hx160_19
      have hw160_18 := hx160_18
      have hw160_17 := hx160_17
      have hw160_16 := hx160_16
      have hw160_15 := hx160_15
      have hw160_14 := hx160_14
      have hw160_13 := hx160_13
      have hw160_12 := hx160_12
      have hw160_11 := hx160_11
      have hw160_10 := hx160_10
      have hw160_9 := hx160_9
      have hw160_8 := hx160_8
      have hw160_7 := hx160_7
      have hw160_6 := hx160_6
      have hw160_5 := hx160_5
      have hw160_4 := hx160_4
      have hw160_3 := hx160_3
      have hw160_2 := hx160_2
      have hw160_1 := hx160_1
      have hw160_0 := hx160_0
      obtain rfl : ad157 = ad160 := (by injection e160)
      replace hx160_0 := (HB.out.cell (World.block_lt_of_cell? w _ hx160_0)).trans hx160_0
      replace hx160_1 := (HB.out.cell (World.block_lt_of_cell? w _ hx160_1)).trans hx160_1
      replace hx160_2 := (HB.out.cell (World.block_lt_of_cell? w _ hx160_2)).trans hx160_2
      replace hx160_3 := (HB.out.cell (World.block_lt_of_cell? w _ hx160_3)).trans hx160_3
      replace hx160_4 := (HB.out.cell (World.block_lt_of_cell? w _ hx160_4)).trans hx160_4
      replace hx160_5 := (HB.out.cell (World.block_lt_of_cell? w _ hx160_5)).trans hx160_5
      replace hx160_6 := (HB.out.cell (World.block_lt_of_cell? w _ hx160_6)).trans hx160_6
      replace hx160_7 := (HB.out.cell (World.block_lt_of_cell? w _ hx160_7)).trans hx160_7
      replace hx160_8 := (HB.out.cell (World.block_lt_of_cell? w _ hx160_8)).trans hx160_8
      replace hx160_9 := (HB.out.cell (World.block_lt_of_cell? w _ hx160_9)).trans hx160_9
      replace hx160_10 := (HB.out.cell (World.block_lt_of_cell? w _ hx160_10)).trans hx160_10
      replace hx160_11 := (HB.out.cell (World.block_lt_of_cell? w _ hx160_11)).trans hx160_11
      replace hx160_12 := (HB.out.cell (World.block_lt_of_cell? w _ hx160_12)).trans hx160_12
      replace hx160_13 := (HB.out.cell (World.block_lt_of_cell? w _ hx160_13)).trans hx160_13
      replace hx160_14 := (HB.out.cell (World.block_lt_of_cell? w _ hx160_14)).trans hx160_14
      replace hx160_15 := (HB.out.cell (World.block_lt_of_cell? w _ hx160_15)).trans hx160_15
      replace hx160_16 := (HB.out.cell (World.block_lt_of_cell? w _ hx160_16)).trans hx160_16
      replace hx160_17 := (HB.out.cell (World.block_lt_of_cell? w _ hx160_17)).trans hx160_17
      replace hx160_18 := (HB.out.cell (World.block_lt_of_cell? w _ hx160_18)).trans hx160_18
      replace hx160_19 := (HB.out.cell (World.block_lt_of_cell? w _ hx160_19)).trans hx160_19
      replace p160 := eq_true p160
      replace q160 := eq_true q160
      refine start_ (n := 32) (S := fun w' => w'.cell? ⟨gb153, 0, none⟩ = some (.int .i64 a0_0) ∧ w'.cell? ⟨gb153, 1, none⟩ = some (.int .i64 a0_1) ∧ w'.cell? ⟨gb153, 2, none⟩ = some (.int .i64 a0_2) ∧ w'.cell? ⟨gb153, 3, none⟩ = some (.int .i64 a0_3) ∧ w'.cell? ⟨gb153, 4, none⟩ = some (.slice A0_4 l0_4.length c0_4) ∧ w'.cell? ⟨gb153, 5, none⟩ = some (.slice (some ad157) l0_5.length c0_5) ∧ w'.cell? (ad157.add ((x10_4).toNat * 20)) = some (.int .i64 ((rd_T68 l0_5 x10_4).f0)) ∧ w'.cell? ⟨(ad157.add ((x10_4).toNat * 20)).block, (ad157.add ((x10_4).toNat * 20)).off + 1, none⟩ = some (.int .i64 ((rd_T68 l0_5 x10_4).f1)) ∧ w'.cell? ⟨(ad157.add ((x10_4).toNat * 20)).block, (ad157.add ((x10_4).toNat * 20)).off + 2, none⟩ = some (.string ((rd_T68 l0_5 x10_4).f2)) ∧ w'.cell? ⟨(ad157.add ((x10_4).toNat * 20)).block, (ad157.add ((x10_4).toNat * 20)).off + 3, none⟩ = some (.string ((rd_T68 l0_5 x10_4).f3)) ∧ w'.cell? ⟨(ad157.add ((x10_4).toNat * 20)).block, (ad157.add ((x10_4).toNat * 20)).off + 4, none⟩ = some (.string ((rd_T68 l0_5 x10_4).f4)) ∧ w'.cell? ⟨(ad157.add ((x10_4).toNat * 20)).block, (ad157.add ((x10_4).toNat * 20)).off + 5, none⟩ = some (.int .i64 ((rd_T68 l0_5 x10_4).f5)) ∧ w'.cell? ⟨(ad157.add ((x10_4).toNat * 20)).block, (ad157.add ((x10_4).toNat * 20)).off + 6, none⟩ = some (.int .i64 ((rd_T68 l0_5 x10_4).f6)) ∧ w'.cell? ⟨(ad157.add ((x10_4).toNat * 20)).block, (ad157.add ((x10_4).toNat * 20)).off + 7, none⟩ = some (.int .i64 ((rd_T68 l0_5 x10_4).f7)) ∧ w'.cell? ⟨(ad157.add ((x10_4).toNat * 20)).block, (ad157.add ((x10_4).toNat * 20)).off + 8, none⟩ = some (.int .i64 ((rd_T68 l0_5 x10_4).f8)) ∧ w'.cell? ⟨(ad157.add ((x10_4).toNat * 20)).block, (ad157.add ((x10_4).toNat * 20)).off + 9, none⟩ = some (.bool ((rd_T68 l0_5 x10_4).f9)) ∧ w'.cell? ⟨(ad157.add ((x10_4).toNat * 20)).block, (ad157.add ((x10_4).toNat * 20)).off + 10, none⟩ = some (.int .i64 ((rd_T68 l0_5 x10_4).f10)) ∧ w'.cell? ⟨(ad157.add ((x10_4).toNat * 20)).block, (ad157.add ((x10_4).toNat * 20)).off + 11, none⟩ = some (.int .i64 ((rd_T68 l0_5 x10_4).f11)) ∧ w'.cell? ⟨(ad157.add ((x10_4).toNat * 20)).block, (ad157.add ((x10_4).toNat * 20)).off + 12, none⟩ = some (.int .i64 ((rd_T68 l0_5 x10_4).f12)) ∧ w'.cell? ⟨(ad157.add ((x10_4).toNat * 20)).block, (ad157.add ((x10_4).toNat * 20)).off + 13, none⟩ = some (.string ((rd_T68 l0_5 x10_4).f13)) ∧ w'.cell? ⟨(ad157.add ((x10_4).toNat * 20)).block, (ad157.add ((x10_4).toNat * 20)).off + 14, none⟩ = some (.int .i64 ((rd_T68 l0_5 x10_4).f14)) ∧ w'.cell? ⟨(ad157.add ((x10_4).toNat * 20)).block, (ad157.add ((x10_4).toNat * 20)).off + 15, none⟩ = some (.int .i64 ((rd_T68 l0_5 x10_4).f15)) ∧ w'.cell? ⟨(ad157.add ((x10_4).toNat * 20)).block, (ad157.add ((x10_4).toNat * 20)).off + 16, none⟩ = some (.string ((rd_T68 l0_5 x10_4).f16)) ∧ w'.cell? ⟨(ad157.add ((x10_4).toNat * 20)).block, (ad157.add ((x10_4).toNat * 20)).off + 17, none⟩ = some (.int .i64 ((rd_T68 l0_5 x10_4).f17)) ∧ w'.cell? ⟨(ad157.add ((x10_4).toNat * 20)).block, (ad157.add ((x10_4).toNat * 20)).off + 18, none⟩ = some (.int .i64 ((rd_T68 l0_5 x10_4).f18)) ∧ w'.cell? ⟨(ad157.add ((x10_4).toNat * 20)).block, (ad157.add ((x10_4).toNat * 20)).off + 19, none⟩ = some (.string ((rd_T68 l0_5 x10_4).f19))) (ds := []) #[false, false, false, false, false, false, false, false, false, false, false, false, false, false, false, false, false, false, false, false, false, false, false, false, false, false, false, false, false, false, false, false] (by kernel_rfl) rfl rfl ⟨(blk_cell BK153.out 0).trans rfl, (blk_cell BK153.out 1).trans rfl, (blk_cell BK153.out 2).trans rfl, (blk_cell BK153.out 3).trans rfl, (blk_cell BK153.out 4).trans rfl, (blk_cell BK153.out 5).trans rfl, ((HB.out.cell (World.block_lt_of_cell? w _ hw160_0)).trans hw160_0), ((HB.out.cell (World.block_lt_of_cell? w _ hw160_1)).trans hw160_1), ((HB.out.cell (World.block_lt_of_cell? w _ hw160_2)).trans hw160_2), ((HB.out.cell (World.block_lt_of_cell? w _ hw160_3)).trans hw160_3), ((HB.out.cell (World.block_lt_of_cell? w _ hw160_4)).trans hw160_4), ((HB.out.cell (World.block_lt_of_cell? w _ hw160_5)).trans hw160_5), ((HB.out.cell (World.block_lt_of_cell? w _ hw160_6)).trans hw160_6), ((HB.out.cell (World.block_lt_of_cell? w _ hw160_7)).trans hw160_7), ((HB.out.cell (World.block_lt_of_cell? w _ hw160_8)).trans hw160_8), ((HB.out.cell (World.block_lt_of_cell? w _ hw160_9)).trans hw160_9), ((HB.out.cell (World.block_lt_of_cell? w _ hw160_10)).trans hw160_10), ((HB.out.cell (World.block_lt_of_cell? w _ hw160_11)).trans hw160_11), ((HB.out.cell (World.block_lt_of_cell? w _ hw160_12)).trans hw160_12), ((HB.out.cell (World.block_lt_of_cell? w _ hw160_13)).trans hw160_13), ((HB.out.cell (World.block_lt_of_cell? w _ hw160_14)).trans hw160_14), ((HB.out.cell (World.block_lt_of_cell? w _ hw160_15)).trans hw160_15), ((HB.out.cell (World.block_lt_of_cell? w _ hw160_16)).trans hw160_16), ((HB.out.cell (World.block_lt_of_cell? w _ hw160_17)).trans hw160_17), ((HB.out.cell (World.block_lt_of_cell? w _ hw160_18)).trans hw160_18), ((HB.out.cell (World.block_lt_of_cell? w _ hw160_19)).trans hw160_19)⟩ (fun hHeld => ?_); refine with_tabW newsreelref43_Of.tab14 newsreelref43_Of.bits14 (fun HT_ HW_ => ?_)
      generalize wr.drew = w59 at BK153 BK154 BK158 HB hx160_0 hx160_1 hx160_10 hx160_11 hx160_12 hx160_13 hx160_14 hx160_15 hx160_16 hx160_17 hx160_18 hx160_19 hx160_2 hx160_3 hx160_4 hx160_5 hx160_6 hx160_7 hx160_8 hx160_9 hHeld ⊢
      refine pure_ (i := 0) (N := some 56) (v := ?_) (a' := ?_) #[true, false, false, false, false, false, false, false, false, false, false, false, false, false, false, false, false, false, false, false, false, false, false, false, false, false, false, false, false, false, false, false] rfl rfl (any_of HT_.out (by kernel_rfl)) (fun _ _ _ h => h) (Or.inl ⟨by rfl, ?_⟩) ?_ ?_
      rotate_left
      · intro w'
        go_simp
        with_reducible rfl
      rotate_left
      · simp only [Act.put, List.setIfInBounds_toArray, List.set_cons_zero, List.set_cons_succ, i64_w, i32_w]
        rfl
      refine pure_ (i := 1) (N := some 57) (v := ?_) (a' := ?_) #[true, true, false, false, false, false, false, false, false, false, false, false, false, false, false, false, false, false, false, false, false, false, false, false, false, false, false, false, false, false, false, false] rfl rfl (any_of HT_.out (by kernel_rfl)) (fun _ _ _ h => h) (Or.inl ⟨by rfl, ?_⟩) ?_ ?_
      rotate_left
      · intro w'
        go_simp
        with_reducible rfl
      rotate_left
      · simp only [Act.put, List.setIfInBounds_toArray, List.set_cons_zero, List.set_cons_succ, i64_w, i32_w]
        rfl
      refine pure_ (i := 2) (N := some 58) (v := ?_) (a' := ?_) #[true, true, true, false, false, false, false, false, false, false, false, false, false, false, false, false, false, false, false, false, false, false, false, false, false, false, false, false, false, false, false, false] rfl rfl (any_of HT_.out (by kernel_rfl)) (fun _ _ _ h => h) (Or.inl ⟨by rfl, ?_⟩) ?_ ?_
      rotate_left
      · intro w'
        go_simp
        with_reducible rfl
      rotate_left
      · simp only [Act.put, List.setIfInBounds_toArray, List.set_cons_zero, List.set_cons_succ, i64_w, i32_w]
        rfl
      refine pure_ (i := 4) (N := some 60) (v := ?_) (a' := ?_) #[true, true, true, false, true, false, false, false, false, false, false, false, false, false, false, false, false, false, false, false, false, false, false, false, false, false, false, false, false, false, false, false] rfl rfl (any_of HT_.out (by kernel_rfl)) (fun _ _ _ h => h) (Or.inl ⟨by rfl, ?_⟩) ?_ ?_
      rotate_left
      · intro w'
        go_simp
        with_reducible rfl
      rotate_left
      · simp only [Act.put, List.setIfInBounds_toArray, List.set_cons_zero, List.set_cons_succ, i64_w, i32_w]
        rfl
      refine take_ (i := 3) (N := some 59) (v := ?_) (a' := ?_) #[true, true, true, true, true, false, false, false, false, false, false, false, false, false, false, false, false, false, false, false, false, false, false, false, false, false, false, false, false, false, false, false] rfl rfl (take_ofW HT_.out HW_.out (by kernel_rfl)) (fun _ _ _ h => h) (Or.inl ⟨by rfl, ?_⟩) hHeld ?_ ?_
      rotate_left
      · rintro w' ⟨s0, s1, s2, s3, s4, s5, s6, s7, s8, s9, s10, s11, s12, s13, s14, s15, s16, s17, s18, s19, s20, s21, s22, s23, s24, s25⟩
        go_simp
        with_reducible rfl
      rotate_left
      · simp only [Act.put, List.setIfInBounds_toArray, List.set_cons_zero, List.set_cons_succ, i64_w, i32_w]
        rfl
      refine pure_ (i := 5) (N := some 61) (v := ?_) (a' := ?_) #[true, true, true, true, true, true, false, false, false, false, false, false, false, false, false, false, false, false, false, false, false, false, false, false, false, false, false, false, false, false, false, false] rfl rfl (any_of HT_.out (by kernel_rfl)) (fun _ _ _ h => h) (Or.inl ⟨by rfl, ?_⟩) ?_ ?_
      rotate_left
      · intro w'
        go_simp
        with_reducible rfl
      rotate_left
      · simp only [Act.put, List.setIfInBounds_toArray, List.set_cons_zero, List.set_cons_succ, i64_w, i32_w]
        rfl
      refine take_ (i := 6) (N := some 62) (v := ?_) (a' := ?_) #[true, true, true, true, true, true, true, false, false, false, false, false, false, false, false, false, false, false, false, false, false, false, false, false, false, false, false, false, false, false, false, false] rfl rfl (take_ofW HT_.out HW_.out (by kernel_rfl)) (fun _ _ _ h => h) (Or.inl ⟨by rfl, ?_⟩) hHeld ?_ ?_
      rotate_left
      · rintro w' ⟨s0, s1, s2, s3, s4, s5, s6, s7, s8, s9, s10, s11, s12, s13, s14, s15, s16, s17, s18, s19, s20, s21, s22, s23, s24, s25⟩
        first | (have hz_ := fun (a : Act) (o : Oper) (x : Operand) (ho : o.op = .load 68 x) (hx : a.eval x = _) => exec_load_at (P := Try.prog) (W := w') (cs := [_, _, _, _, _, _, _, _, _, _, _, _, _, _, _, _, _, _, _]) ho hx Try.underlying68 rfl (by kernel_rfl) s6 ⟨s7, s8, s9, s10, s11, s12, s13, s14, s15, s16, s17, s18, s19, s20, s21, s22, s23, s24, s25, trivial⟩; refine (hz_ _ _ (.tmp 61) ?_ ?_).trans ?_; (focus rfl); (focus (first | (with_reducible rfl) | (go_simp; done))); with_reducible rfl) | (go_simp; with_reducible rfl)
      rotate_left
      · simp only [Act.put, List.setIfInBounds_toArray, List.set_cons_zero, List.set_cons_succ, i64_w, i32_w]
        rfl
      refine one_ (i := 7) (N := some 63) #[true, true, true, true, true, true, true, true, false, false, false, false, false, false, false, false, false, false, false, false, false, false, false, false, false, false, false, false, false, false, false, false] rfl rfl (one_of HT_.out (by kernel_rfl)) (by decide) (fun K hK => ?_)
      refine goes_ Try.func43 (by kernel_rfl) rfl #[.agg #[.int .i64 ((rd_T68 l0_5 x10_4).f0), .int .i64 ((rd_T68 l0_5 x10_4).f1), .string ((rd_T68 l0_5 x10_4).f2), .string ((rd_T68 l0_5 x10_4).f3), .string ((rd_T68 l0_5 x10_4).f4), .int .i64 ((rd_T68 l0_5 x10_4).f5), .int .i64 ((rd_T68 l0_5 x10_4).f6), .int .i64 ((rd_T68 l0_5 x10_4).f7), .int .i64 ((rd_T68 l0_5 x10_4).f8), .bool ((rd_T68 l0_5 x10_4).f9), .int .i64 ((rd_T68 l0_5 x10_4).f10), .int .i64 ((rd_T68 l0_5 x10_4).f11), .int .i64 ((rd_T68 l0_5 x10_4).f12), .string ((rd_T68 l0_5 x10_4).f13), .int .i64 ((rd_T68 l0_5 x10_4).f14), .int .i64 ((rd_T68 l0_5 x10_4).f15), .string ((rd_T68 l0_5 x10_4).f16), .int .i64 ((rd_T68 l0_5 x10_4).f17), .int .i64 ((rd_T68 l0_5 x10_4).f18), .string ((rd_T68 l0_5 x10_4).f19)]] (by rfl) rfl rfl (by (try simp only [List.map_toArray, List.map_cons, List.map_nil]); first | done | rfl | (simp only [List.length_drop, List.length_take]; rfl)) ?_
      with_reducible refine (newsreelref43_Waits.calls ((rd_T68 l0_5 x10_4).f0) ((rd_T68 l0_5 x10_4).f1) ((rd_T68 l0_5 x10_4).f2) ((rd_T68 l0_5 x10_4).f3) ((rd_T68 l0_5 x10_4).f4) ((rd_T68 l0_5 x10_4).f5) ((rd_T68 l0_5 x10_4).f6) ((rd_T68 l0_5 x10_4).f7) ((rd_T68 l0_5 x10_4).f8) ((rd_T68 l0_5 x10_4).f9) ((rd_T68 l0_5 x10_4).f10) ((rd_T68 l0_5 x10_4).f11) ((rd_T68 l0_5 x10_4).f12) ((rd_T68 l0_5 x10_4).f13) ((rd_T68 l0_5 x10_4).f14) ((rd_T68 l0_5 x10_4).f15) ((rd_T68 l0_5 x10_4).f16) ((rd_T68 l0_5 x10_4).f17) ((rd_T68 l0_5 x10_4).f18) ((rd_T68 l0_5 x10_4).f19) false _ A43.out).mono ?_
      rintro e w60 ⟨rfl, hb⟩
      have hbk_w60 := Aside0.mk hb
      refine ⟨_, rfl, ?_⟩
      have n0_ := Aside0.mk (blk_below (blk_y BK153.out) hb)
      have n1_ := Aside0.mk (blk_below (blk_y BK154.out) hb)
      have n2_ := Aside0.mk (blk_below (blk_y BK158.out) hb)
      have n3_ := Aside0.mk (below_step (below_y HB.out) hb)
      clear BK153
      clear BK154
      clear BK158
      clear HB
      have BK153 := n0_
      have BK154 := n1_
      have BK158 := n2_
      have HB := n3_
      clear n0_ n1_ n2_ n3_
      (try clear hb)
      (try clear hb2)
      (try clear hk)
      (try clear hi)
      refine hK.out _ _ ⟨(blk_cell BK153.out 0).trans rfl, (blk_cell BK153.out 1).trans rfl, (blk_cell BK153.out 2).trans rfl, (blk_cell BK153.out 3).trans rfl, (blk_cell BK153.out 4).trans rfl, (blk_cell BK153.out 5).trans rfl, ((HB.out.cell (World.block_lt_of_cell? w _ hw160_0)).trans hw160_0), ((HB.out.cell (World.block_lt_of_cell? w _ hw160_1)).trans hw160_1), ((HB.out.cell (World.block_lt_of_cell? w _ hw160_2)).trans hw160_2), ((HB.out.cell (World.block_lt_of_cell? w _ hw160_3)).trans hw160_3), ((HB.out.cell (World.block_lt_of_cell? w _ hw160_4)).trans hw160_4), ((HB.out.cell (World.block_lt_of_cell? w _ hw160_5)).trans hw160_5), ((HB.out.cell (World.block_lt_of_cell? w _ hw160_6)).trans hw160_6), ((HB.out.cell (World.block_lt_of_cell? w _ hw160_7)).trans hw160_7), ((HB.out.cell (World.block_lt_of_cell? w _ hw160_8)).trans hw160_8), ((HB.out.cell (World.block_lt_of_cell? w _ hw160_9)).trans hw160_9), ((HB.out.cell (World.block_lt_of_cell? w _ hw160_10)).trans hw160_10), ((HB.out.cell (World.block_lt_of_cell? w _ hw160_11)).trans hw160_11), ((HB.out.cell (World.block_lt_of_cell? w _ hw160_12)).trans hw160_12), ((HB.out.cell (World.block_lt_of_cell? w _ hw160_13)).trans hw160_13), ((HB.out.cell (World.block_lt_of_cell? w _ hw160_14)).trans hw160_14), ((HB.out.cell (World.block_lt_of_cell? w _ hw160_15)).trans hw160_15), ((HB.out.cell (World.block_lt_of_cell? w _ hw160_16)).trans hw160_16), ((HB.out.cell (World.block_lt_of_cell? w _ hw160_17)).trans hw160_17), ((HB.out.cell (World.block_lt_of_cell? w _ hw160_18)).trans hw160_18), ((HB.out.cell (World.block_lt_of_cell? w _ hw160_19)).trans hw160_19)⟩ (fun hHeld => ?_)
      clear hK K
      refine norm_ (a' := ?_) ?_ ?_
      rotate_left
      · show Act.put _ (some 63) _ = _
        simp only [Act.put, List.setIfInBounds_toArray, List.set_cons_zero, List.set_cons_succ, i64_w, i32_w]
        rfl
      refine pure_ (i := 8) (N := some 64) (v := ?_) (a' := ?_) #[true, true, true, true, true, true, true, true, true, false, false, false, false, false, false, false, false, false, false, false, false, false, false, false, false, false, false, false, false, false, false, false] rfl rfl (any_of HT_.out (by kernel_rfl)) (fun _ _ _ h => h) (Or.inl ⟨by rfl, ?_⟩) ?_ ?_
      rotate_left
      · intro w'
        go_simp
        with_reducible rfl
      rotate_left
      · simp only [Act.put, List.setIfInBounds_toArray, List.set_cons_zero, List.set_cons_succ, i64_w, i32_w]
        rfl
      refine pure_ (i := 9) (N := some 65) (v := undef) (a' := ?_) #[true, true, true, true, true, true, true, true, true, true, false, false, false, false, false, false, false, false, false, false, false, false, false, false, false, false, false, false, false, false, false, false] rfl rfl (any_of HT_.out (by kernel_rfl)) (fun _ _ _ h => h) (Or.inr ⟨by rfl, rfl⟩) ?_ ?_
      rotate_left
      · simp only [Act.put, List.setIfInBounds_toArray, List.set_cons_zero, List.set_cons_succ, i64_w, i32_w]
        rfl
      refine pure_ (i := 10) (N := some 66) (v := undef) (a' := ?_) #[true, true, true, true, true, true, true, true, true, true, true, false, false, false, false, false, false, false, false, false, false, false, false, false, false, false, false, false, false, false, false, false] rfl rfl (any_of HT_.out (by kernel_rfl)) (fun _ _ _ h => h) (Or.inr ⟨by rfl, rfl⟩) ?_ ?_
      rotate_left
      · simp only [Act.put, List.setIfInBounds_toArray, List.set_cons_zero, List.set_cons_succ, i64_w, i32_w]
        rfl
      refine pure_ (i := 11) (N := some 67) (v := undef) (a' := ?_) #[true, true, true, true, true, true, true, true, true, true, true, true, false, false, false, false, false, false, false, false, false, false, false, false, false, false, false, false, false, false, false, false] rfl rfl (any_of HT_.out (by kernel_rfl)) (fun _ _ _ h => h) (Or.inr ⟨by rfl, rfl⟩) ?_ ?_
      rotate_left
      · simp only [Act.put, List.setIfInBounds_toArray, List.set_cons_zero, List.set_cons_succ, i64_w, i32_w]
        rfl
      refine pure_ (i := 12) (N := some 68) (v := undef) (a' := ?_) #[true, true, true, true, true, true, true, true, true, true, true, true, true, false, false, false, false, false, false, false, false, false, false, false, false, false, false, false, false, false, false, false] rfl rfl (any_of HT_.out (by kernel_rfl)) (fun _ _ _ h => h) (Or.inr ⟨by rfl, rfl⟩) ?_ ?_
      rotate_left
      · simp only [Act.put, List.setIfInBounds_toArray, List.set_cons_zero, List.set_cons_succ, i64_w, i32_w]
        rfl
      refine pure_ (i := 13) (N := some 69) (v := undef) (a' := ?_) #[true, true, true, true, true, true, true, true, true, true, true, true, true, true, false, false, false, false, false, false, false, false, false, false, false, false, false, false, false, false, false, false] rfl rfl (any_of HT_.out (by kernel_rfl)) (fun _ _ _ h => h) (Or.inr ⟨by rfl, rfl⟩) ?_ ?_
      rotate_left
      · simp only [Act.put, List.setIfInBounds_toArray, List.set_cons_zero, List.set_cons_succ, i64_w, i32_w]
        rfl
      refine pure_ (i := 14) (N := some 70) (v := undef) (a' := ?_) #[true, true, true, true, true, true, true, true, true, true, true, true, true, true, true, false, false, false, false, false, false, false, false, false, false, false, false, false, false, false, false, false] rfl rfl (any_of HT_.out (by kernel_rfl)) (fun _ _ _ h => h) (Or.inr ⟨by rfl, rfl⟩) ?_ ?_
      rotate_left
      · simp only [Act.put, List.setIfInBounds_toArray, List.set_cons_zero, List.set_cons_succ, i64_w, i32_w]
        rfl
      refine pure_ (i := 15) (N := some 71) (v := undef) (a' := ?_) #[true, true, true, true, true, true, true, true, true, true, true, true, true, true, true, true, false, false, false, false, false, false, false, false, false, false, false, false, false, false, false, false] rfl rfl (any_of HT_.out (by kernel_rfl)) (fun _ _ _ h => h) (Or.inr ⟨by rfl, rfl⟩) ?_ ?_
      rotate_left
      · simp only [Act.put, List.setIfInBounds_toArray, List.set_cons_zero, List.set_cons_succ, i64_w, i32_w]
        rfl
      refine pure_ (i := 16) (N := some 72) (v := undef) (a' := ?_) #[true, true, true, true, true, true, true, true, true, true, true, true, true, true, true, true, true, false, false, false, false, false, false, false, false, false, false, false, false, false, false, false] rfl rfl (any_of HT_.out (by kernel_rfl)) (fun _ _ _ h => h) (Or.inr ⟨by rfl, rfl⟩) ?_ ?_
      rotate_left
      · simp only [Act.put, List.setIfInBounds_toArray, List.set_cons_zero, List.set_cons_succ, i64_w, i32_w]
        rfl
      refine pure_ (i := 17) (N := some 73) (v := ?_) (a' := ?_) #[true, true, true, true, true, true, true, true, true, true, true, true, true, true, true, true, true, true, false, false, false, false, false, false, false, false, false, false, false, false, false, false] rfl rfl (any_of HT_.out (by kernel_rfl)) (fun _ _ _ h => h) (Or.inl ⟨by rfl, ?_⟩) ?_ ?_
      rotate_left
      · intro w'
        go_simp
        with_reducible rfl
      rotate_left
      · simp only [Act.put, List.setIfInBounds_toArray, List.set_cons_zero, List.set_cons_succ, i64_w, i32_w]
        rfl
      refine pure_ (i := 18) (N := some 74) (v := ?_) (a' := ?_) #[true, true, true, true, true, true, true, true, true, true, true, true, true, true, true, true, true, true, true, false, false, false, false, false, false, false, false, false, false, false, false, false] rfl rfl (any_of HT_.out (by kernel_rfl)) (fun _ _ _ h => h) (Or.inl ⟨by rfl, ?_⟩) ?_ ?_
      rotate_left
      · intro w'
        go_simp
        with_reducible rfl
      rotate_left
      · simp only [Act.put, List.setIfInBounds_toArray, List.set_cons_zero, List.set_cons_succ, i64_w, i32_w]
        rfl
      refine pure_ (i := 19) (N := some 75) (v := undef) (a' := ?_) #[true, true, true, true, true, true, true, true, true, true, true, true, true, true, true, true, true, true, true, true, false, false, false, false, false, false, false, false, false, false, false, false] rfl rfl (any_of HT_.out (by kernel_rfl)) (fun _ _ _ h => h) (Or.inr ⟨by rfl, rfl⟩) ?_ ?_
      rotate_left
      · simp only [Act.put, List.setIfInBounds_toArray, List.set_cons_zero, List.set_cons_succ, i64_w, i32_w]
        rfl
      refine pure_ (i := 20) (N := some 76) (v := undef) (a' := ?_) #[true, true, true, true, true, true, true, true, true, true, true, true, true, true, true, true, true, true, true, true, true, false, false, false, false, false, false, false, false, false, false, false] rfl rfl (any_of HT_.out (by kernel_rfl)) (fun _ _ _ h => h) (Or.inr ⟨by rfl, rfl⟩) ?_ ?_
      rotate_left
      · simp only [Act.put, List.setIfInBounds_toArray, List.set_cons_zero, List.set_cons_succ, i64_w, i32_w]
        rfl
      refine pure_ (i := 21) (N := some 77) (v := undef) (a' := ?_) #[true, true, true, true, true, true, true, true, true, true, true, true, true, true, true, true, true, true, true, true, true, true, false, false, false, false, false, false, false, false, false, false] rfl rfl (any_of HT_.out (by kernel_rfl)) (fun _ _ _ h => h) (Or.inr ⟨by rfl, rfl⟩) ?_ ?_
      rotate_left
      · simp only [Act.put, List.setIfInBounds_toArray, List.set_cons_zero, List.set_cons_succ, i64_w, i32_w]
        rfl
      refine pure_ (i := 22) (N := some 78) (v := undef) (a' := ?_) #[true, true, true, true, true, true, true, true, true, true, true, true, true, true, true, true, true, true, true, true, true, true, true, false, false, false, false, false, false, false, false, false] rfl rfl (any_of HT_.out (by kernel_rfl)) (fun _ _ _ h => h) (Or.inr ⟨by rfl, rfl⟩) ?_ ?_
      rotate_left
      · simp only [Act.put, List.setIfInBounds_toArray, List.set_cons_zero, List.set_cons_succ, i64_w, i32_w]
        rfl
      refine pure_ (i := 23) (N := some 79) (v := undef) (a' := ?_) #[true, true, true, true, true, true, true, true, true, true, true, true, true, true, true, true, true, true, true, true, true, true, true, true, false, false, false, false, false, false, false, false] rfl rfl (any_of HT_.out (by kernel_rfl)) (fun _ _ _ h => h) (Or.inr ⟨by rfl, rfl⟩) ?_ ?_
      rotate_left
      · simp only [Act.put, List.setIfInBounds_toArray, List.set_cons_zero, List.set_cons_succ, i64_w, i32_w]
        rfl
      refine pure_ (i := 24) (N := some 80) (v := undef) (a' := ?_) #[true, true, true, true, true, true, true, true, true, true, true, true, true, true, true, true, true, true, true, true, true, true, true, true, true, false, false, false, false, false, false, false] rfl rfl (any_of HT_.out (by kernel_rfl)) (fun _ _ _ h => h) (Or.inr ⟨by rfl, rfl⟩) ?_ ?_
      rotate_left
      · simp only [Act.put, List.setIfInBounds_toArray, List.set_cons_zero, List.set_cons_succ, i64_w, i32_w]
        rfl
      refine pure_ (i := 25) (N := some 81) (v := undef) (a' := ?_) #[true, true, true, true, true, true, true, true, true, true, true, true, true, true, true, true, true, true, true, true, true, true, true, true, true, true, false, false, false, false, false, false] rfl rfl (any_of HT_.out (by kernel_rfl)) (fun _ _ _ h => h) (Or.inr ⟨by rfl, rfl⟩) ?_ ?_
      rotate_left
      · simp only [Act.put, List.setIfInBounds_toArray, List.set_cons_zero, List.set_cons_succ, i64_w, i32_w]
        rfl
      refine pure_ (i := 26) (N := some 82) (v := undef) (a' := ?_) #[true, true, true, true, true, true, true, true, true, true, true, true, true, true, true, true, true, true, true, true, true, true, true, true, true, true, true, false, false, false, false, false] rfl rfl (any_of HT_.out (by kernel_rfl)) (fun _ _ _ h => h) (Or.inr ⟨by rfl, rfl⟩) ?_ ?_
      rotate_left
      · simp only [Act.put, List.setIfInBounds_toArray, List.set_cons_zero, List.set_cons_succ, i64_w, i32_w]
        rfl
      refine pure_ (i := 27) (N := some 83) (v := undef) (a' := ?_) #[true, true, true, true, true, true, true, true, true, true, true, true, true, true, true, true, true, true, true, true, true, true, true, true, true, true, true, true, false, false, false, false] rfl rfl (any_of HT_.out (by kernel_rfl)) (fun _ _ _ h => h) (Or.inr ⟨by rfl, rfl⟩) ?_ ?_
      rotate_left
      · simp only [Act.put, List.setIfInBounds_toArray, List.set_cons_zero, List.set_cons_succ, i64_w, i32_w]
        rfl
      refine pure_ (i := 28) (N := some 84) (v := ?_) (a' := ?_) #[true, true, true, true, true, true, true, true, true, true, true, true, true, true, true, true, true, true, true, true, true, true, true, true, true, true, true, true, true, false, false, false] rfl rfl (any_of HT_.out (by kernel_rfl)) (fun _ _ _ h => h) (Or.inl ⟨by rfl, ?_⟩) ?_ ?_
      rotate_left
      · intro w'
        go_simp
        with_reducible rfl
      rotate_left
      · simp only [Act.put, List.setIfInBounds_toArray, List.set_cons_zero, List.set_cons_succ, i64_w, i32_w]
        rfl
      refine pure_ (i := 29) (N := some 85) (v := ?_) (a' := ?_) #[true, true, true, true, true, true, true, true, true, true, true, true, true, true, true, true, true, true, true, true, true, true, true, true, true, true, true, true, true, true, false, false] rfl rfl (any_of HT_.out (by kernel_rfl)) (fun _ _ _ h => h) (Or.inl ⟨by rfl, ?_⟩) ?_ ?_
      rotate_left
      · intro w'
        go_simp
        with_reducible rfl
      rotate_left
      · simp only [Act.put, List.setIfInBounds_toArray, List.set_cons_zero, List.set_cons_succ, i64_w, i32_w]
        rfl
      refine pure_ (i := 30) (N := some 86) (v := ?_) (a' := ?_) #[true, true, true, true, true, true, true, true, true, true, true, true, true, true, true, true, true, true, true, true, true, true, true, true, true, true, true, true, true, true, true, false] rfl rfl (any_of HT_.out (by kernel_rfl)) (fun _ _ _ h => h) (Or.inl ⟨by rfl, ?_⟩) ?_ ?_
      rotate_left
      · intro w'
        go_simp
        with_reducible rfl
      rotate_left
      · simp only [Act.put, List.setIfInBounds_toArray, List.set_cons_zero, List.set_cons_succ, i64_w, i32_w]
        rfl
      refine pure_ (i := 31) (N := some 9) (v := ?_) (a' := ?_) #[true, true, true, true, true, true, true, true, true, true, true, true, true, true, true, true, true, true, true, true, true, true, true, true, true, true, true, true, true, true, true, true] rfl rfl (any_of HT_.out (by kernel_rfl)) (fun _ _ _ h => h) (Or.inl ⟨by rfl, ?_⟩) ?_ ?_
      rotate_left
      · intro w'
        go_simp
        with_reducible rfl
      rotate_left
      · simp only [Act.put, List.setIfInBounds_toArray, List.set_cons_zero, List.set_cons_succ, i64_w, i32_w]
        rfl
      refine done_ (done_of HT_.out (by kernel_rfl)) ?_
      try go_wp2_with (first | ((with_reducible refine gate_load (t := 68) rfl ?_); refine load_at2 (t := 68) ?hg ?ho (c0 := _) (cs := [_, _, _, _, _, _, _, _, _, _, _, _, _, _, _, _, _, _, _]) Try.underlying68 rfl (by kernel_rfl) hx157_0 ⟨hx157_1, hx157_2, hx157_3, hx157_4, hx157_5, hx157_6, hx157_7, hx157_8, hx157_9, hx157_10, hx157_11, hx157_12, hx157_13, hx157_14, hx157_15, hx157_16, hx157_17, hx157_18, hx157_19, trivial⟩ ?_; (case hg => rfl); (case ho => refine ⟨_, rfl, ?_⟩; first | (with_reducible rfl) | (go_simp; done))) | ((with_reducible refine gate_load (t := 68) rfl ?_); refine load_at2 (t := 68) ?hg ?ho (c0 := _) (cs := [_, _, _, _, _, _, _, _, _, _, _, _, _, _, _, _, _, _, _]) Try.underlying68 rfl (by kernel_rfl) hx160_0 ⟨hx160_1, hx160_2, hx160_3, hx160_4, hx160_5, hx160_6, hx160_7, hx160_8, hx160_9, hx160_10, hx160_11, hx160_12, hx160_13, hx160_14, hx160_15, hx160_16, hx160_17, hx160_18, hx160_19, trivial⟩ ?_; (case hg => rfl); (case ho => refine ⟨_, rfl, ?_⟩; first | (with_reducible rfl) | (go_simp; done))) | ((with_reducible refine gate_load (t := 56) rfl ?_); refine load_row3 (t := 56) (g := gb153) ?hg BK153.out ?ho ?hb Try.underlying56 rfl ?hs ?_; (case hg => rfl); (case ho => refine ⟨_, rfl, ?_⟩; first | (with_reducible rfl) | (go_simp; done)); (case hb => (with_reducible repeat (first | refine blk_drewN ?_ _ | refine blk_drew ?_ | refine blk_alloc ?_ _)); with_reducible exact BK153.out); (case hs => kernel_rfl)) | ((with_reducible refine gate_load (t := 68) rfl ?_); refine load_row3 (t := 68) (g := gb158) ?hg BK158.out ?ho ?hb Try.underlying68 rfl ?hs ?_; (case hg => rfl); (case ho => refine ⟨_, rfl, ?_⟩; first | (with_reducible rfl) | (go_simp; done)); (case hb => (with_reducible repeat (first | refine blk_drewN ?_ _ | refine blk_drew ?_ | refine blk_alloc ?_ _)); with_reducible exact BK158.out); (case hs => kernel_rfl)))
      go_roundg k4
      case measure => have := HK1.out; have := HK2.out; have := HJ20.out; have := HK4.out; omega
      case rel => exact ⟨(!false), (wrap64 (x10_4 + 1)), (by first | rfl | (simp; done) | (simp [*]; done)), (by first | rfl | (simp; done) | (simp [*]; done)), H', ⟨by have := HK1.out; have := HK2.out; have := HJ20.out; have := HK4.out; omega⟩, ⟨by (with_reducible repeat (first | refine blk_drewN ?_ _ | refine blk_drew ?_ | refine blk_alloc ?_ _)); exact BK153.out⟩, ⟨by (with_reducible repeat (first | refine blk_drewN ?_ _ | refine blk_drew ?_ | refine blk_alloc ?_ _)); exact BK154.out⟩, ⟨by (with_reducible repeat (first | refine blk_drewN ?_ _ | refine blk_drew ?_ | refine blk_alloc ?_ _)); exact BK158.out⟩, ⟨by repeat (first | (with_reducible first | exact HB.out | apply below_alloc | apply pw_below_drewN | apply below_drew1 | refine below_set ?_ GE153.out | refine below_set ?_ GE154.out | refine below_set ?_ GE158.out) | exact HB.out)⟩⟩
  subst c44
  have H1 : (if ((rd_T68 l0_5 x10_4).f12) ≤ a1 then (newsreelref43_Of.l2 k4 a1 x7_2 (!(decide (((rd_T68 l0_5 x10_4).f0) < ((rd_T68 l0_5 x7_2).f0)))) (wrap64 (x10_4 + 1)) a0_0 a0_1 a0_2 a0_3 l0_4 l0_5 ((rd_T68 l0_5 x7_2).f0) ((rd_T68 l0_5 x7_2).f1) ((rd_T68 l0_5 x7_2).f2) ((rd_T68 l0_5 x7_2).f3) ((rd_T68 l0_5 x7_2).f4) ((rd_T68 l0_5 x7_2).f5) ((rd_T68 l0_5 x7_2).f6) ((rd_T68 l0_5 x7_2).f7) ((rd_T68 l0_5 x7_2).f8) ((rd_T68 l0_5 x7_2).f9) ((rd_T68 l0_5 x7_2).f10) ((rd_T68 l0_5 x7_2).f11) ((rd_T68 l0_5 x7_2).f12) ((rd_T68 l0_5 x7_2).f13) ((rd_T68 l0_5 x7_2).f14) ((rd_T68 l0_5 x7_2).f15) ((rd_T68 l0_5 x7_2).f16) ((rd_T68 l0_5 x7_2).f17) ((rd_T68 l0_5 x7_2).f18) ((rd_T68 l0_5 x7_2).f19)) else (newsreelref43_Of.l2 k4 a1 x7_2 (!false) (wrap64 (x10_4 + 1)) a0_0 a0_1 a0_2 a0_3 l0_4 l0_5 ((rd_T68 l0_5 x7_2).f0) ((rd_T68 l0_5 x7_2).f1) ((rd_T68 l0_5 x7_2).f2) ((rd_T68 l0_5 x7_2).f3) ((rd_T68 l0_5 x7_2).f4) ((rd_T68 l0_5 x7_2).f5) ((rd_T68 l0_5 x7_2).f6) ((rd_T68 l0_5 x7_2).f7) ((rd_T68 l0_5 x7_2).f8) ((rd_T68 l0_5 x7_2).f9) ((rd_T68 l0_5 x7_2).f10) ((rd_T68 l0_5 x7_2).f11) ((rd_T68 l0_5 x7_2).f12) ((rd_T68 l0_5 x7_2).f13) ((rd_T68 l0_5 x7_2).f14) ((rd_T68 l0_5 x7_2).f15) ((rd_T68 l0_5 x7_2).f16) ((rd_T68 l0_5 x7_2).f17) ((rd_T68 l0_5 x7_2).f18) ((rd_T68 l0_5 x7_2).f19))) = some (r1, r2, r3) := by rw [if_pos rfl] at H; exact H
  clear H
  have H := H1
  clear H1
  by_cases c45 : ((rd_T68 l0_5 x10_4).f12) ≤ a1
  rotate_left
  · rw [if_neg c45] at H
    have c45b0 : decide (((rd_T68 l0_5 x10_4).f12) ≤ a1) = false := decide_eq_false c45
    clear c45
    as_aux_lemma =>
      have H' := Aside0.mk H
      clear H
      have hnb51 := NB153_154.out
      have hnc51 := NB154_153.out
      have hnb52 := NB153_158.out
      have hnc52 := NB158_153.out
      have hcz53_0 : wr.cell? ⟨gb153, 0, none⟩ = some (.int .i64 a0_0) := (blk_cell BK153.out 0).trans rfl
      have hcz53_1 : wr.cell? ⟨gb153, 1, none⟩ = some (.int .i64 a0_1) := (blk_cell BK153.out 1).trans rfl
      have hcz53_2 : wr.cell? ⟨gb153, 2, none⟩ = some (.int .i64 a0_2) := (blk_cell BK153.out 2).trans rfl
      have hcz53_3 : wr.cell? ⟨gb153, 3, none⟩ = some (.int .i64 a0_3) := (blk_cell BK153.out 3).trans rfl
      have hcz53_4 : wr.cell? ⟨gb153, 4, none⟩ = some (.slice A0_4 l0_4.length c0_4) := (blk_cell BK153.out 4).trans rfl
      have hcz53_5 : wr.cell? ⟨gb153, 5, none⟩ = some (.slice (some ad157) l0_5.length c0_5) := (blk_cell BK153.out 5).trans rfl
      have hfz53_0 := blk_frozen BK153.out 0
      have hfz53_1 := blk_frozen BK153.out 1
      have hfz53_2 := blk_frozen BK153.out 2
      have hfz53_3 := blk_frozen BK153.out 3
      have hfz53_4 := blk_frozen BK153.out 4
      have hfz53_5 := blk_frozen BK153.out 5
      try go_wp2_with (first | ((with_reducible refine gate_load (t := 68) rfl ?_); refine load_at2 (t := 68) ?hg ?ho (c0 := _) (cs := [_, _, _, _, _, _, _, _, _, _, _, _, _, _, _, _, _, _, _]) Try.underlying68 rfl (by kernel_rfl) hx157_0 ⟨hx157_1, hx157_2, hx157_3, hx157_4, hx157_5, hx157_6, hx157_7, hx157_8, hx157_9, hx157_10, hx157_11, hx157_12, hx157_13, hx157_14, hx157_15, hx157_16, hx157_17, hx157_18, hx157_19, trivial⟩ ?_; (case hg => rfl); (case ho => refine ⟨_, rfl, ?_⟩; first | (with_reducible rfl) | (go_simp; done))) | ((with_reducible refine gate_load (t := 56) rfl ?_); refine load_row3 (t := 56) (g := gb153) ?hg BK153.out ?ho ?hb Try.underlying56 rfl ?hs ?_; (case hg => rfl); (case ho => refine ⟨_, rfl, ?_⟩; first | (with_reducible rfl) | (go_simp; done)); (case hb => (with_reducible repeat (first | refine blk_drewN ?_ _ | refine blk_drew ?_ | refine blk_alloc ?_ _)); with_reducible exact BK153.out); (case hs => kernel_rfl)) | ((with_reducible refine gate_load (t := 68) rfl ?_); refine load_row3 (t := 68) (g := gb158) ?hg BK158.out ?ho ?hb Try.underlying68 rfl ?hs ?_; (case hg => rfl); (case ho => refine ⟨_, rfl, ?_⟩; first | (with_reducible rfl) | (go_simp; done)); (case hb => (with_reducible repeat (first | refine blk_drewN ?_ _ | refine blk_drew ?_ | refine blk_alloc ?_ _)); with_reducible exact BK158.out); (case hs => kernel_rfl)))
      have n0_ := Aside0.mk (blk_drew BK153.out)
      have n1_ := Aside0.mk (blk_drew BK154.out)
      have n2_ := Aside0.mk (blk_drew BK158.out)
      have n3_ := Aside0.mk (below_drew1 HB.out)
      clear BK153
      clear BK154
      clear BK158
      clear HB
      have BK153 := n0_
      have BK154 := n1_
      have BK158 := n2_
      have HB := n3_
      clear n0_ n1_ n2_ n3_
      have p160 : 0 ≤ (x10_4 : Int) := of_decide_eq_true (by first | (with_reducible assumption) | assumption)
      have q160 : x10_4 < (l0_5.length : Int) := of_decide_eq_true (by first | (with_reducible assumption) | assumption)
      obtain ⟨ad160, e160, hx160_0, hx160_1, hx160_2, hx160_3, hx160_4, hx160_5, hx160_6, hx160_7, hx160_8, hx160_9, hx160_10, hx160_11, hx160_12, hx160_13, hx160_14, hx160_15, hx160_16, hx160_17, hx160_18, hx160_19⟩ := at_T68 HR0_5.out x10_4 p160 q160
      have hw160_19 := hx160_19
      have hw160_18 := hx160_18
      have hw160_17 := hx160_17
      have hw160_16 := hx160_16
      have hw160_15 := hx160_15
      have hw160_14 := hx160_14
      have hw160_13 := hx160_13
      have hw160_12 := hx160_12
      have hw160_11 := hx160_11
      have hw160_10 := hx160_10
      have hw160_9 := hx160_9
      have hw160_8 := hx160_8
      have hw160_7 := hx160_7
      have hw160_6 := hx160_6
      have hw160_5 := hx160_5
      have hw160_4 := hx160_4
      have hw160_3 := hx160_3
      have hw160_2 := hx160_2
      have hw160_1 := hx160_1
      have hw160_0 := hx160_0
      obtain rfl : ad157 = ad160 := (by injection e160)
      replace hx160_0 := (HB.out.cell (World.block_lt_of_cell? w _ hx160_0)).trans hx160_0
      replace hx160_1 := (HB.out.cell (World.block_lt_of_cell? w _ hx160_1)).trans hx160_1
      replace hx160_2 := (HB.out.cell (World.block_lt_of_cell? w _ hx160_2)).trans hx160_2
      replace hx160_3 := (HB.out.cell (World.block_lt_of_cell? w _ hx160_3)).trans hx160_3
      replace hx160_4 := (HB.out.cell (World.block_lt_of_cell? w _ hx160_4)).trans hx160_4
      replace hx160_5 := (HB.out.cell (World.block_lt_of_cell? w _ hx160_5)).trans hx160_5
      replace hx160_6 := (HB.out.cell (World.block_lt_of_cell? w _ hx160_6)).trans hx160_6
      replace hx160_7 := (HB.out.cell (World.block_lt_of_cell? w _ hx160_7)).trans hx160_7
      replace hx160_8 := (HB.out.cell (World.block_lt_of_cell? w _ hx160_8)).trans hx160_8
      replace hx160_9 := (HB.out.cell (World.block_lt_of_cell? w _ hx160_9)).trans hx160_9
      replace hx160_10 := (HB.out.cell (World.block_lt_of_cell? w _ hx160_10)).trans hx160_10
      replace hx160_11 := (HB.out.cell (World.block_lt_of_cell? w _ hx160_11)).trans hx160_11
      replace hx160_12 := (HB.out.cell (World.block_lt_of_cell? w _ hx160_12)).trans hx160_12
      replace hx160_13 := (HB.out.cell (World.block_lt_of_cell? w _ hx160_13)).trans hx160_13
      replace hx160_14 := (HB.out.cell (World.block_lt_of_cell? w _ hx160_14)).trans hx160_14
      replace hx160_15 := (HB.out.cell (World.block_lt_of_cell? w _ hx160_15)).trans hx160_15
      replace hx160_16 := (HB.out.cell (World.block_lt_of_cell? w _ hx160_16)).trans hx160_16
      replace hx160_17 := (HB.out.cell (World.block_lt_of_cell? w _ hx160_17)).trans hx160_17
      replace hx160_18 := (HB.out.cell (World.block_lt_of_cell? w _ hx160_18)).trans hx160_18
      replace hx160_19 := (HB.out.cell (World.block_lt_of_cell? w _ hx160_19)).trans hx160_19
      replace p160 := eq_true p160
      replace q160 := eq_true q160
      have p162 : 0 ≤ (x10_4 : Int) := of_decide_eq_true (by first | (with_reducible assumption) | assumption)
      have q162 : x10_4 < (l0_5.length : Int) := of_decide_eq_true (by first | (with_reducible assumption) | assumption)
      obtain ⟨ad162, e162, hx162_0, hx162_1, hx162_2, hx162_3, hx162_4, hx162_5, hx162_6, hx162_7, hx162_8, hx162_9, hx162_10, hx162_11, hx162_12, hx162_13, hx162_14, hx162_15, hx162_16, hx162_17, hx162_18, hx162_19⟩ := at_T68 HR0_5.out x10_4 p162 q162
      have hw162_19 := hx162_19
      have hw162_18 := hx162_18
      have hw162_17 := hx162_17
      have hw162_16 := hx162_16
      have hw162_15 := hx162_15
      have hw162_14 := hx162_14
      have hw162_13 := hx162_13
      have hw162_12 := hx162_12
      have hw162_11 := hx162_11
      have hw162_10 := hx162_10
      have hw162_9 := hx162_9
      have hw162_8 := hx162_8
      have hw162_7 := hx162_7
      have hw162_6 := hx162_6
      have hw162_5 := hx162_5
      have hw162_4 := hx162_4
      have hw162_3 := hx162_3
      have hw162_2 := hx162_2
      have hw162_1 := hx162_1
      have hw162_0 := hx162_0
      obtain rfl : ad157 = ad162 := (by injection e162)
      replace hx162_0 := (HB.out.cell (World.block_lt_of_cell? w _ hx162_0)).trans hx162_0
      replace hx162_1 := (HB.out.cell (World.block_lt_of_cell? w _ hx162_1)).trans hx162_1
      replace hx162_2 := (HB.out.cell (World.block_lt_of_cell? w _ hx162_2)).trans hx162_2
      replace hx162_3 := (HB.out.cell (World.block_lt_of_cell? w _ hx162_3)).trans hx162_3
      replace hx162_4 := (HB.out.cell (World.block_lt_of_cell? w _ hx162_4)).trans hx162_4
      replace hx162_5 := (HB.out.cell (World.block_lt_of_cell? w _ hx162_5)).trans hx162_5
      replace hx162_6 := (HB.out.cell (World.block_lt_of_cell? w _ hx162_6)).trans hx162_6
      replace hx162_7 := (HB.out.cell (World.block_lt_of_cell? w _ hx162_7)).trans hx162_7
      replace hx162_8 := (HB.out.cell (World.block_lt_of_cell? w _ hx162_8)).trans hx162_8
      replace hx162_9 := (HB.out.cell (World.block_lt_of_cell? w _ hx162_9)).trans hx162_9
      replace hx162_10 := (HB.out.cell (World.block_lt_of_cell? w _ hx162_10)).trans hx162_10
      replace hx162_11 := (HB.out.cell (World.block_lt_of_cell? w _ hx162_11)).trans hx162_11
      replace hx162_12 := (HB.out.cell (World.block_lt_of_cell? w _ hx162_12)).trans hx162_12
      replace hx162_13 := (HB.out.cell (World.block_lt_of_cell? w _ hx162_13)).trans hx162_13
      replace hx162_14 := (HB.out.cell (World.block_lt_of_cell? w _ hx162_14)).trans hx162_14
      replace hx162_15 := (HB.out.cell (World.block_lt_of_cell? w _ hx162_15)).trans hx162_15
      replace hx162_16 := (HB.out.cell (World.block_lt_of_cell? w _ hx162_16)).trans hx162_16
      replace hx162_17 := (HB.out.cell (World.block_lt_of_cell? w _ hx162_17)).trans hx162_17
      replace hx162_18 := (HB.out.cell (World.block_lt_of_cell? w _ hx162_18)).trans hx162_18
      replace hx162_19 := (HB.out.cell (World.block_lt_of_cell? w _ hx162_19)).trans hx162_19
      replace p162 := eq_true p162
      replace q162 := eq_true q162
      refine start_ (n := 32) (S := fun w' => w'.cell? ⟨gb153, 0, none⟩ = some (.int .i64 a0_0) ∧ w'.cell? ⟨gb153, 1, none⟩ = some (.int .i64 a0_1) ∧ w'.cell? ⟨gb153, 2, none⟩ = some (.int .i64 a0_2) ∧ w'.cell? ⟨gb153, 3, none⟩ = some (.int .i64 a0_3) ∧ w'.cell? ⟨gb153, 4, none⟩ = some (.slice A0_4 l0_4.length c0_4) ∧ w'.cell? ⟨gb153, 5, none⟩ = some (.slice (some ad157) l0_5.length c0_5) ∧ w'.cell? (ad157.add ((x10_4).toNat * 20)) = some (.int .i64 ((rd_T68 l0_5 x10_4).f0)) ∧ w'.cell? ⟨(ad157.add ((x10_4).toNat * 20)).block, (ad157.add ((x10_4).toNat * 20)).off + 1, none⟩ = some (.int .i64 ((rd_T68 l0_5 x10_4).f1)) ∧ w'.cell? ⟨(ad157.add ((x10_4).toNat * 20)).block, (ad157.add ((x10_4).toNat * 20)).off + 2, none⟩ = some (.string ((rd_T68 l0_5 x10_4).f2)) ∧ w'.cell? ⟨(ad157.add ((x10_4).toNat * 20)).block, (ad157.add ((x10_4).toNat * 20)).off + 3, none⟩ = some (.string ((rd_T68 l0_5 x10_4).f3)) ∧ w'.cell? ⟨(ad157.add ((x10_4).toNat * 20)).block, (ad157.add ((x10_4).toNat * 20)).off + 4, none⟩ = some (.string ((rd_T68 l0_5 x10_4).f4)) ∧ w'.cell? ⟨(ad157.add ((x10_4).toNat * 20)).block, (ad157.add ((x10_4).toNat * 20)).off + 5, none⟩ = some (.int .i64 ((rd_T68 l0_5 x10_4).f5)) ∧ w'.cell? ⟨(ad157.add ((x10_4).toNat * 20)).block, (ad157.add ((x10_4).toNat * 20)).off + 6, none⟩ = some (.int .i64 ((rd_T68 l0_5 x10_4).f6)) ∧ w'.cell? ⟨(ad157.add ((x10_4).toNat * 20)).block, (ad157.add ((x10_4).toNat * 20)).off + 7, none⟩ = some (.int .i64 ((rd_T68 l0_5 x10_4).f7)) ∧ w'.cell? ⟨(ad157.add ((x10_4).toNat * 20)).block, (ad157.add ((x10_4).toNat * 20)).off + 8, none⟩ = some (.int .i64 ((rd_T68 l0_5 x10_4).f8)) ∧ w'.cell? ⟨(ad157.add ((x10_4).toNat * 20)).block, (ad157.add ((x10_4).toNat * 20)).off + 9, none⟩ = some (.bool ((rd_T68 l0_5 x10_4).f9)) ∧ w'.cell? ⟨(ad157.add ((x10_4).toNat * 20)).block, (ad157.add ((x10_4).toNat * 20)).off + 10, none⟩ = some (.int .i64 ((rd_T68 l0_5 x10_4).f10)) ∧ w'.cell? ⟨(ad157.add ((x10_4).toNat * 20)).block, (ad157.add ((x10_4).toNat * 20)).off + 11, none⟩ = some (.int .i64 ((rd_T68 l0_5 x10_4).f11)) ∧ w'.cell? ⟨(ad157.add ((x10_4).toNat * 20)).block, (ad157.add ((x10_4).toNat * 20)).off + 12, none⟩ = some (.int .i64 ((rd_T68 l0_5 x10_4).f12)) ∧ w'.cell? ⟨(ad157.add ((x10_4).toNat * 20)).block, (ad157.add ((x10_4).toNat * 20)).off + 13, none⟩ = some (.string ((rd_T68 l0_5 x10_4).f13)) ∧ w'.cell? ⟨(ad157.add ((x10_4).toNat * 20)).block, (ad157.add ((x10_4).toNat * 20)).off + 14, none⟩ = some (.int .i64 ((rd_T68 l0_5 x10_4).f14)) ∧ w'.cell? ⟨(ad157.add ((x10_4).toNat * 20)).block, (ad157.add ((x10_4).toNat * 20)).off + 15, none⟩ = some (.int .i64 ((rd_T68 l0_5 x10_4).f15)) ∧ w'.cell? ⟨(ad157.add ((x10_4).toNat * 20)).block, (ad157.add ((x10_4).toNat * 20)).off + 16, none⟩ = some (.string ((rd_T68 l0_5 x10_4).f16)) ∧ w'.cell? ⟨(ad157.add ((x10_4).toNat * 20)).block, (ad157.add ((x10_4).toNat * 20)).off + 17, none⟩ = some (.int .i64 ((rd_T68 l0_5 x10_4).f17)) ∧ w'.cell? ⟨(ad157.add ((x10_4).toNat * 20)).block, (ad157.add ((x10_4).toNat * 20)).off + 18, none⟩ = some (.int .i64 ((rd_T68 l0_5 x10_4).f18)) ∧ w'.cell? ⟨(ad157.add ((x10_4).toNat * 20)).block, (ad157.add ((x10_4).toNat * 20)).off + 19, none⟩ = some (.string ((rd_T68 l0_5 x10_4).f19)) ∧ w'.cell? (ad157.add ((x10_4).toNat * 20)) = some (.int .i64 ((rd_T68 l0_5 x10_4).f0)) ∧ w'.cell? ⟨(ad157.add ((x10_4).toNat * 20)).block, (ad157.add ((x10_4).toNat * 20)).off + 1, none⟩ = some (.int .i64 ((rd_T68 l0_5 x10_4).f1)) ∧ w'.cell? ⟨(ad157.add ((x10_4).toNat * 20)).block, (ad157.add ((x10_4).toNat * 20)).off + 2, none⟩ = some (.string ((rd_T68 l0_5 x10_4).f2)) ∧ w'.cell? ⟨(ad157.add ((x10_4).toNat * 20)).block, (ad157.add ((x10_4).toNat * 20)).off + 3, none⟩ = some (.string ((rd_T68 l0_5 x10_4).f3)) ∧ w'.cell? ⟨(ad157.add ((x10_4).toNat * 20)).block, (ad157.add ((x10_4).toNat * 20)).off + 4, none⟩ = some (.string ((rd_T68 l0_5 x10_4).f4)) ∧ w'.cell? ⟨(ad157.add ((x10_4).toNat * 20)).block, (ad157.add ((x10_4).toNat * 20)).off + 5, none⟩ = some (.int .i64 ((rd_T68 l0_5 x10_4).f5)) ∧ w'.cell? ⟨(ad157.add ((x10_4).toNat * 20)).block, (ad157.add ((x10_4).toNat * 20)).off + 6, none⟩ = some (.int .i64 ((rd_T68 l0_5 x10_4).f6)) ∧ w'.cell? ⟨(ad157.add ((x10_4).toNat * 20)).block, (ad157.add ((x10_4).toNat * 20)).off + 7, none⟩ = some (.int .i64 ((rd_T68 l0_5 x10_4).f7)) ∧ w'.cell? ⟨(ad157.add ((x10_4).toNat * 20)).block, (ad157.add ((x10_4).toNat * 20)).off + 8, none⟩ = some (.int .i64 ((rd_T68 l0_5 x10_4).f8)) ∧ w'.cell? ⟨(ad157.add ((x10_4).toNat * 20)).block, (ad157.add ((x10_4).toNat * 20)).off + 9, none⟩ = some (.bool ((rd_T68 l0_5 x10_4).f9)) ∧ w'.cell? ⟨(ad157.add ((x10_4).toNat * 20)).block, (ad157.add ((x10_4).toNat * 20)).off + 10, none⟩ = some (.int .i64 ((rd_T68 l0_5 x10_4).f10)) ∧ w'.cell? ⟨(ad157.add ((x10_4).toNat * 20)).block, (ad157.add ((x10_4).toNat * 20)).off + 11, none⟩ = some (.int .i64 ((rd_T68 l0_5 x10_4).f11)) ∧ w'.cell? ⟨(ad157.add ((x10_4).toNat * 20)).block, (ad157.add ((x10_4).toNat * 20)).off + 12, none⟩ = some (.int .i64 ((rd_T68 l0_5 x10_4).f12)) ∧ w'.cell? ⟨(ad157.add ((x10_4).toNat * 20)).block, (ad157.add ((x10_4).toNat * 20)).off + 13, none⟩ = some (.string ((rd_T68 l0_5 x10_4).f13)) ∧ w'.cell? ⟨(ad157.add ((x10_4).toNat * 20)).block, (ad157.add ((x10_4).toNat * 20)).off + 14, none⟩ = some (.int .i64 ((rd_T68 l0_5 x10_4).f14)) ∧ w'.cell? ⟨(ad157.add ((x10_4).toNat * 20)).block, (ad157.add ((x10_4).toNat * 20)).off + 15, none⟩ = some (.int .i64 ((rd_T68 l0_5 x10_4).f15)) ∧ w'.cell? ⟨(ad157.add ((x10_4).toNat * 20)).block, (ad157.add ((x10_4).toNat * 20)).off + 16, none⟩ = some (.string ((rd_T68 l0_5 x10_4).f16)) ∧ w'.cell? ⟨(ad157.add ((x10_4).toNat * 20)).block, (ad157.add ((x10_4).toNat * 20)).off + 17, none⟩ = some (.int .i64 ((rd_T68 l0_5 x10_4).f17)) ∧ w'.cell? ⟨(ad157.add ((x10_4).toNat * 20)).block, (ad157.add ((x10_4).toNat * 20)).off + 18, none⟩ = some (.int .i64 ((rd_T68 l0_5 x10_4).f18)) ∧ w'.cell? ⟨(ad157.add ((x10_4).toNat * 20)).block, (ad157.add ((x10_4).toNat * 20)).off + 19, none⟩ = some (.string ((rd_T68 l0_5 x10_4).f19))) (ds := []) #[false, false, false, false, false, false, false, false, false, false, false, false, false, false, false, false, false, false, false, false, false, false, false, false, false, false, false, false, false, false, false, false] (by kernel_rfl) rfl rfl ⟨(blk_cell BK153.out 0).trans rfl, (blk_cell BK153.out 1).trans rfl, (blk_cell BK153.out 2).trans rfl, (blk_cell BK153.out 3).trans rfl, (blk_cell BK153.out 4).trans rfl, (blk_cell BK153.out 5).trans rfl, ((HB.out.cell (World.block_lt_of_cell? w _ hw160_0)).trans hw160_0), ((HB.out.cell (World.block_lt_of_cell? w _ hw160_1)).trans hw160_1), ((HB.out.cell (World.block_lt_of_cell? w _ hw160_2)).trans hw160_2), ((HB.out.cell (World.block_lt_of_cell? w _ hw160_3)).trans hw160_3), ((HB.out.cell (World.block_lt_of_cell? w _ hw160_4)).trans hw160_4), ((HB.out.cell (World.block_lt_of_cell? w _ hw160_5)).trans hw160_5), ((HB.out.cell (World.block_lt_of_cell? w _ hw160_6)).trans hw160_6), ((HB.out.cell (World.block_lt_of_cell? w _ hw160_7)).trans hw160_7), ((HB.out.cell (World.block_lt_of_cell? w _ hw160_8)).trans hw160_8), ((HB.out.cell (World.block_lt_of_cell? w _ hw160_9)).trans hw160_9), ((HB.out.cell (World.block_lt_of_cell? w _ hw160_10)).trans hw160_10), ((HB.out.cell (World.block_lt_of_cell? w _ hw160_11)).trans hw160_11), ((HB.out.cell (World.block_lt_of_cell? w _ hw160_12)).trans hw160_12), ((HB.out.cell (World.block_lt_of_cell? w _ hw160_13)).trans hw160_13), ((HB.out.cell (World.block_lt_of_cell? w _ hw160_14)).trans hw160_14), ((HB.out.cell (World.block_lt_of_cell? w _ hw160_15)).trans hw160_15), ((HB.out.cell (World.block_lt_of_cell? w _ hw160_16)).trans hw160_16), ((HB.out.cell (World.block_lt_of_cell? w _ hw160_17)).trans hw160_17), ((HB.out.cell (World.block_lt_of_cell? w _ hw160_18)).trans hw160_18), ((HB.out.cell (World.block_lt_of_cell? w _ hw160_19)).trans hw160_19), ((HB.out.cell (World.block_lt_of_cell? w _ hw162_0)).trans hw162_0), ((HB.out.cell (World.block_lt_of_cell? w _ hw162_1)).trans hw162_1), ((HB.out.cell (World.block_lt_of_cell? w _ hw162_2)).trans hw162_2), ((HB.out.cell (World.block_lt_of_cell? w _ hw162_3)).trans hw162_3), ((HB.out.cell (World.block_lt_of_cell? w _ hw162_4)).trans hw162_4), ((HB.out.cell (World.block_lt_of_cell? w _ hw162_5)).trans hw162_5), ((HB.out.cell (World.block_lt_of_cell? w _ hw162_6)).trans hw162_6), ((HB.out.cell (World.block_lt_of_cell? w _ hw162_7)).trans hw162_7), ((HB.out.cell (World.block_lt_of_cell? w _ hw162_8)).trans hw162_8), ((HB.out.cell (World.block_lt_of_cell? w _ hw162_9)).trans hw162_9), ((HB.out.cell (World.block_lt_of_cell? w _ hw162_10)).trans hw162_10), ((HB.out.cell (World.block_lt_of_cell? w _ hw162_11)).trans hw162_11), ((HB.out.cell (World.block_lt_of_cell? w _ hw162_12)).trans hw162_12), ((HB.out.cell (World.block_lt_of_cell? w _ hw162_13)).trans hw162_13), ((HB.out.cell (World.block_lt_of_cell? w _ hw162_14)).trans hw162_14), ((HB.out.cell (World.block_lt_of_cell? w _ hw162_15)).trans hw162_15), ((HB.out.cell (World.block_lt_of_cell? w _ hw162_16)).trans hw162_16), ((HB.out.cell (World.block_lt_of_cell? w _ hw162_17)).trans hw162_17), ((HB.out.cell (World.block_lt_of_cell? w _ hw162_18)).trans hw162_18), ((HB.out.cell (World.block_lt_of_cell? w _ hw162_19)).trans hw162_19)⟩ (fun hHeld => ?_); refine with_tabW newsreelref43_Of.tab14 newsreelref43_Of.bits14 (fun HT_ HW_ => ?_)
      generalize wr.drew = w54 at BK153 BK154 BK158 HB hx160_0 hx160_1 hx160_10 hx160_11 hx160_12 hx160_13 hx160_14 hx160_15 hx160_16 hx160_17 hx160_18 hx160_19 hx160_2 hx160_3 hx160_4 hx160_5 hx160_6 hx160_7 hx160_8 hx160_9 hx162_0 hx162_1 hx162_10 hx162_11 hx162_12 hx162_13 hx162_14 hx162_15 hx162_16 hx162_17 hx162_18 hx162_19 hx162_2 hx162_3 hx162_4 hx162_5 hx162_6 hx162_7 hx162_8 hx162_9 hHeld ⊢
      refine pure_ (i := 0) (N := some 56) (v := ?_) (a' := ?_) #[true, false, false, false, false, false, false, false, false, false, false, false, false, false, false, false, false, false, false, false, false, false, false, false, false, false, false, false, false, false, false, false] rfl rfl (any_of HT_.out (by kernel_rfl)) (fun _ _ _ h => h) (Or.inl ⟨by rfl, ?_⟩) ?_ ?_
      rotate_left
      · intro w'
        go_simp
        with_reducible rfl
      rotate_left
      · simp only [Act.put, List.setIfInBounds_toArray, List.set_cons_zero, List.set_cons_succ, i64_w, i32_w]
        rfl
      refine pure_ (i := 1) (N := some 57) (v := ?_) (a' := ?_) #[true, true, false, false, false, false, false, false, false, false, false, false, false, false, false, false, false, false, false, false, false, false, false, false, false, false, false, false, false, false, false, false] rfl rfl (any_of HT_.out (by kernel_rfl)) (fun _ _ _ h => h) (Or.inl ⟨by rfl, ?_⟩) ?_ ?_
      rotate_left
      · intro w'
        go_simp
        with_reducible rfl
      rotate_left
      · simp only [Act.put, List.setIfInBounds_toArray, List.set_cons_zero, List.set_cons_succ, i64_w, i32_w]
        rfl
      refine pure_ (i := 2) (N := some 58) (v := ?_) (a' := ?_) #[true, true, true, false, false, false, false, false, false, false, false, false, false, false, false, false, false, false, false, false, false, false, false, false, false, false, false, false, false, false, false, false] rfl rfl (any_of HT_.out (by kernel_rfl)) (fun _ _ _ h => h) (Or.inl ⟨by rfl, ?_⟩) ?_ ?_
      rotate_left
      · intro w'
        go_simp
        with_reducible rfl
      rotate_left
      · simp only [Act.put, List.setIfInBounds_toArray, List.set_cons_zero, List.set_cons_succ, i64_w, i32_w]
        rfl
      refine pure_ (i := 4) (N := some 60) (v := ?_) (a' := ?_) #[true, true, true, false, true, false, false, false, false, false, false, false, false, false, false, false, false, false, false, false, false, false, false, false, false, false, false, false, false, false, false, false] rfl rfl (any_of HT_.out (by kernel_rfl)) (fun _ _ _ h => h) (Or.inl ⟨by rfl, ?_⟩) ?_ ?_
      rotate_left
      · intro w'
        go_simp
        with_reducible rfl
      rotate_left
      · simp only [Act.put, List.setIfInBounds_toArray, List.set_cons_zero, List.set_cons_succ, i64_w, i32_w]
        rfl
      refine take_ (i := 3) (N := some 59) (v := ?_) (a' := ?_) #[true, true, true, true, true, false, false, false, false, false, false, false, false, false, false, false, false, false, false, false, false, false, false, false, false, false, false, false, false, false, false, false] rfl rfl (take_ofW HT_.out HW_.out (by kernel_rfl)) (fun _ _ _ h => h) (Or.inl ⟨by rfl, ?_⟩) hHeld ?_ ?_
      rotate_left
      · rintro w' ⟨s0, s1, s2, s3, s4, s5, s6, s7, s8, s9, s10, s11, s12, s13, s14, s15, s16, s17, s18, s19, s20, s21, s22, s23, s24, s25, s26, s27, s28, s29, s30, s31, s32, s33, s34, s35, s36, s37, s38, s39, s40, s41, s42, s43, s44, s45⟩
        go_simp
        with_reducible rfl
      rotate_left
      · simp only [Act.put, List.setIfInBounds_toArray, List.set_cons_zero, List.set_cons_succ, i64_w, i32_w]
        rfl
      refine pure_ (i := 5) (N := some 61) (v := ?_) (a' := ?_) #[true, true, true, true, true, true, false, false, false, false, false, false, false, false, false, false, false, false, false, false, false, false, false, false, false, false, false, false, false, false, false, false] rfl rfl (any_of HT_.out (by kernel_rfl)) (fun _ _ _ h => h) (Or.inl ⟨by rfl, ?_⟩) ?_ ?_
      rotate_left
      · intro w'
        go_simp
        with_reducible rfl
      rotate_left
      · simp only [Act.put, List.setIfInBounds_toArray, List.set_cons_zero, List.set_cons_succ, i64_w, i32_w]
        rfl
      refine take_ (i := 6) (N := some 62) (v := ?_) (a' := ?_) #[true, true, true, true, true, true, true, false, false, false, false, false, false, false, false, false, false, false, false, false, false, false, false, false, false, false, false, false, false, false, false, false] rfl rfl (take_ofW HT_.out HW_.out (by kernel_rfl)) (fun _ _ _ h => h) (Or.inl ⟨by rfl, ?_⟩) hHeld ?_ ?_
      rotate_left
      · rintro w' ⟨s0, s1, s2, s3, s4, s5, s6, s7, s8, s9, s10, s11, s12, s13, s14, s15, s16, s17, s18, s19, s20, s21, s22, s23, s24, s25, s26, s27, s28, s29, s30, s31, s32, s33, s34, s35, s36, s37, s38, s39, s40, s41, s42, s43, s44, s45⟩
        first | (have hz_ := fun (a : Act) (o : Oper) (x : Operand) (ho : o.op = .load 68 x) (hx : a.eval x = _) => exec_load_at (P := Try.prog) (W := w') (cs := [_, _, _, _, _, _, _, _, _, _, _, _, _, _, _, _, _, _, _]) ho hx Try.underlying68 rfl (by kernel_rfl) s6 ⟨s7, s8, s9, s10, s11, s12, s13, s14, s15, s16, s17, s18, s19, s20, s21, s22, s23, s24, s25, trivial⟩; refine (hz_ _ _ (.tmp 61) ?_ ?_).trans ?_; (focus rfl); (focus (first | (with_reducible rfl) | (go_simp; done))); with_reducible rfl) | (have hz_ := fun (a : Act) (o : Oper) (x : Operand) (ho : o.op = .load 68 x) (hx : a.eval x = _) => exec_load_at (P := Try.prog) (W := w') (cs := [_, _, _, _, _, _, _, _, _, _, _, _, _, _, _, _, _, _, _]) ho hx Try.underlying68 rfl (by kernel_rfl) s26 ⟨s27, s28, s29, s30, s31, s32, s33, s34, s35, s36, s37, s38, s39, s40, s41, s42, s43, s44, s45, trivial⟩; refine (hz_ _ _ (.tmp 61) ?_ ?_).trans ?_; (focus rfl); (focus (first | (with_reducible rfl) | (go_simp; done))); with_reducible rfl) | (go_simp; with_reducible rfl)
      rotate_left
      · simp only [Act.put, List.setIfInBounds_toArray, List.set_cons_zero, List.set_cons_succ, i64_w, i32_w]
        rfl
      refine one_ (i := 7) (N := some 63) #[true, true, true, true, true, true, true, true, false, false, false, false, false, false, false, false, false, false, false, false, false, false, false, false, false, false, false, false, false, false, false, false] rfl rfl (one_of HT_.out (by kernel_rfl)) (by decide) (fun K hK => ?_)
      refine goes_ Try.func43 (by kernel_rfl) rfl #[.agg #[.int .i64 ((rd_T68 l0_5 x10_4).f0), .int .i64 ((rd_T68 l0_5 x10_4).f1), .string ((rd_T68 l0_5 x10_4).f2), .string ((rd_T68 l0_5 x10_4).f3), .string ((rd_T68 l0_5 x10_4).f4), .int .i64 ((rd_T68 l0_5 x10_4).f5), .int .i64 ((rd_T68 l0_5 x10_4).f6), .int .i64 ((rd_T68 l0_5 x10_4).f7), .int .i64 ((rd_T68 l0_5 x10_4).f8), .bool ((rd_T68 l0_5 x10_4).f9), .int .i64 ((rd_T68 l0_5 x10_4).f10), .int .i64 ((rd_T68 l0_5 x10_4).f11), .int .i64 ((rd_T68 l0_5 x10_4).f12), .string ((rd_T68 l0_5 x10_4).f13), .int .i64 ((rd_T68 l0_5 x10_4).f14), .int .i64 ((rd_T68 l0_5 x10_4).f15), .string ((rd_T68 l0_5 x10_4).f16), .int .i64 ((rd_T68 l0_5 x10_4).f17), .int .i64 ((rd_T68 l0_5 x10_4).f18), .string ((rd_T68 l0_5 x10_4).f19)]] (by rfl) rfl rfl (by (try simp only [List.map_toArray, List.map_cons, List.map_nil]); first | done | rfl | (simp only [List.length_drop, List.length_take]; rfl)) ?_
      with_reducible refine (newsreelref43_Waits.calls ((rd_T68 l0_5 x10_4).f0) ((rd_T68 l0_5 x10_4).f1) ((rd_T68 l0_5 x10_4).f2) ((rd_T68 l0_5 x10_4).f3) ((rd_T68 l0_5 x10_4).f4) ((rd_T68 l0_5 x10_4).f5) ((rd_T68 l0_5 x10_4).f6) ((rd_T68 l0_5 x10_4).f7) ((rd_T68 l0_5 x10_4).f8) ((rd_T68 l0_5 x10_4).f9) ((rd_T68 l0_5 x10_4).f10) ((rd_T68 l0_5 x10_4).f11) ((rd_T68 l0_5 x10_4).f12) ((rd_T68 l0_5 x10_4).f13) ((rd_T68 l0_5 x10_4).f14) ((rd_T68 l0_5 x10_4).f15) ((rd_T68 l0_5 x10_4).f16) ((rd_T68 l0_5 x10_4).f17) ((rd_T68 l0_5 x10_4).f18) ((rd_T68 l0_5 x10_4).f19) true _ A43.out).mono ?_
      rintro e w55 ⟨rfl, hb⟩
      have hbk_w55 := Aside0.mk hb
      refine ⟨_, rfl, ?_⟩
      have n0_ := Aside0.mk (blk_below (blk_y BK153.out) hb)
      have n1_ := Aside0.mk (blk_below (blk_y BK154.out) hb)
      have n2_ := Aside0.mk (blk_below (blk_y BK158.out) hb)
      have n3_ := Aside0.mk (below_step (below_y HB.out) hb)
      clear BK153
      clear BK154
      clear BK158
      clear HB
      have BK153 := n0_
      have BK154 := n1_
      have BK158 := n2_
      have HB := n3_
      clear n0_ n1_ n2_ n3_
      (try clear hb)
      (try clear hb2)
      (try clear hk)
      (try clear hi)
      refine hK.out _ _ ⟨(blk_cell BK153.out 0).trans rfl, (blk_cell BK153.out 1).trans rfl, (blk_cell BK153.out 2).trans rfl, (blk_cell BK153.out 3).trans rfl, (blk_cell BK153.out 4).trans rfl, (blk_cell BK153.out 5).trans rfl, ((HB.out.cell (World.block_lt_of_cell? w _ hw160_0)).trans hw160_0), ((HB.out.cell (World.block_lt_of_cell? w _ hw160_1)).trans hw160_1), ((HB.out.cell (World.block_lt_of_cell? w _ hw160_2)).trans hw160_2), ((HB.out.cell (World.block_lt_of_cell? w _ hw160_3)).trans hw160_3), ((HB.out.cell (World.block_lt_of_cell? w _ hw160_4)).trans hw160_4), ((HB.out.cell (World.block_lt_of_cell? w _ hw160_5)).trans hw160_5), ((HB.out.cell (World.block_lt_of_cell? w _ hw160_6)).trans hw160_6), ((HB.out.cell (World.block_lt_of_cell? w _ hw160_7)).trans hw160_7), ((HB.out.cell (World.block_lt_of_cell? w _ hw160_8)).trans hw160_8), ((HB.out.cell (World.block_lt_of_cell? w _ hw160_9)).trans hw160_9), ((HB.out.cell (World.block_lt_of_cell? w _ hw160_10)).trans hw160_10), ((HB.out.cell (World.block_lt_of_cell? w _ hw160_11)).trans hw160_11), ((HB.out.cell (World.block_lt_of_cell? w _ hw160_12)).trans hw160_12), ((HB.out.cell (World.block_lt_of_cell? w _ hw160_13)).trans hw160_13), ((HB.out.cell (World.block_lt_of_cell? w _ hw160_14)).trans hw160_14), ((HB.out.cell (World.block_lt_of_cell? w _ hw160_15)).trans hw160_15), ((HB.out.cell (World.block_lt_of_cell? w _ hw160_16)).trans hw160_16), ((HB.out.cell (World.block_lt_of_cell? w _ hw160_17)).trans hw160_17), ((HB.out.cell (World.block_lt_of_cell? w _ hw160_18)).trans hw160_18), ((HB.out.cell (World.block_lt_of_cell? w _ hw160_19)).trans hw160_19), ((HB.out.cell (World.block_lt_of_cell? w _ hw162_0)).trans hw162_0), ((HB.out.cell (World.block_lt_of_cell? w _ hw162_1)).trans hw162_1), ((HB.out.cell (World.block_lt_of_cell? w _ hw162_2)).trans hw162_2), ((HB.out.cell (World.block_lt_of_cell? w _ hw162_3)).trans hw162_3), ((HB.out.cell (World.block_lt_of_cell? w _ hw162_4)).trans hw162_4), ((HB.out.cell (World.block_lt_of_cell? w _ hw162_5)).trans hw162_5), ((HB.out.cell (World.block_lt_of_cell? w _ hw162_6)).trans hw162_6), ((HB.out.cell (World.block_lt_of_cell? w _ hw162_7)).trans hw162_7), ((HB.out.cell (World.block_lt_of_cell? w _ hw162_8)).trans hw162_8), ((HB.out.cell (World.block_lt_of_cell? w _ hw162_9)).trans hw162_9), ((HB.out.cell (World.block_lt_of_cell? w _ hw162_10)).trans hw162_10), ((HB.out.cell (World.block_lt_of_cell? w _ hw162_11)).trans hw162_11), ((HB.out.cell (World.block_lt_of_cell? w _ hw162_12)).trans hw162_12), ((HB.out.cell (World.block_lt_of_cell? w _ hw162_13)).trans hw162_13), ((HB.out.cell (World.block_lt_of_cell? w _ hw162_14)).trans hw162_14), ((HB.out.cell (World.block_lt_of_cell? w _ hw162_15)).trans hw162_15), ((HB.out.cell (World.block_lt_of_cell? w _ hw162_16)).trans hw162_16), ((HB.out.cell (World.block_lt_of_cell? w _ hw162_17)).trans hw162_17), ((HB.out.cell (World.block_lt_of_cell? w _ hw162_18)).trans hw162_18), ((HB.out.cell (World.block_lt_of_cell? w _ hw162_19)).trans hw162_19)⟩ (fun hHeld => ?_)
      clear hK K
      refine norm_ (a' := ?_) ?_ ?_
      rotate_left
      · show Act.put _ (some 63) _ = _
        simp only [Act.put, List.setIfInBounds_toArray, List.set_cons_zero, List.set_cons_succ, i64_w, i32_w]
        rfl
      refine pure_ (i := 8) (N := some 64) (v := ?_) (a' := ?_) #[true, true, true, true, true, true, true, true, true, false, false, false, false, false, false, false, false, false, false, false, false, false, false, false, false, false, false, false, false, false, false, false] rfl rfl (any_of HT_.out (by kernel_rfl)) (fun _ _ _ h => h) (Or.inl ⟨by rfl, ?_⟩) ?_ ?_
      rotate_left
      · intro w'
        go_simp
        with_reducible rfl
      rotate_left
      · simp only [Act.put, List.setIfInBounds_toArray, List.set_cons_zero, List.set_cons_succ, i64_w, i32_w]
        rfl
      refine pure_ (i := 9) (N := some 65) (v := ?_) (a' := ?_) #[true, true, true, true, true, true, true, true, true, true, false, false, false, false, false, false, false, false, false, false, false, false, false, false, false, false, false, false, false, false, false, false] rfl rfl (any_of HT_.out (by kernel_rfl)) (fun _ _ _ h => h) (Or.inl ⟨by rfl, ?_⟩) ?_ ?_
      rotate_left
      · intro w'
        go_simp
        with_reducible rfl
      rotate_left
      · simp only [Act.put, List.setIfInBounds_toArray, List.set_cons_zero, List.set_cons_succ, i64_w, i32_w]
        rfl
      refine pure_ (i := 11) (N := some 67) (v := ?_) (a' := ?_) #[true, true, true, true, true, true, true, true, true, true, false, true, false, false, false, false, false, false, false, false, false, false, false, false, false, false, false, false, false, false, false, false] rfl rfl (any_of HT_.out (by kernel_rfl)) (fun _ _ _ h => h) (Or.inl ⟨by rfl, ?_⟩) ?_ ?_
      rotate_left
      · intro w'
        go_simp
        with_reducible rfl
      rotate_left
      · simp only [Act.put, List.setIfInBounds_toArray, List.set_cons_zero, List.set_cons_succ, i64_w, i32_w]
        rfl
      refine pure_ (i := 15) (N := some 71) (v := ?_) (a' := ?_) #[true, true, true, true, true, true, true, true, true, true, false, true, false, false, false, true, false, false, false, false, false, false, false, false, false, false, false, false, false, false, false, false] rfl rfl (any_of HT_.out (by kernel_rfl)) (fun _ _ _ h => h) (Or.inl ⟨by rfl, ?_⟩) ?_ ?_
      rotate_left
      · intro w'
        go_simp
        with_reducible rfl
      rotate_left
      · simp only [Act.put, List.setIfInBounds_toArray, List.set_cons_zero, List.set_cons_succ, i64_w, i32_w]
        rfl
      refine take_ (i := 10) (N := some 66) (v := ?_) (a' := ?_) #[true, true, true, true, true, true, true, true, true, true, true, true, false, false, false, true, false, false, false, false, false, false, false, false, false, false, false, false, false, false, false, false] rfl rfl (take_ofW HT_.out HW_.out (by kernel_rfl)) (fun _ _ _ h => h) (Or.inl ⟨by rfl, ?_⟩) hHeld ?_ ?_
      rotate_left
      · rintro w' ⟨s0, s1, s2, s3, s4, s5, s6, s7, s8, s9, s10, s11, s12, s13, s14, s15, s16, s17, s18, s19, s20, s21, s22, s23, s24, s25, s26, s27, s28, s29, s30, s31, s32, s33, s34, s35, s36, s37, s38, s39, s40, s41, s42, s43, s44, s45⟩
        go_simp
        with_reducible rfl
      rotate_left
      · simp only [Act.put, List.setIfInBounds_toArray, List.set_cons_zero, List.set_cons_succ, i64_w, i32_w]
        rfl
      refine pure_ (i := 12) (N := some 68) (v := ?_) (a' := ?_) #[true, true, true, true, true, true, true, true, true, true, true, true, true, false, false, true, false, false, false, false, false, false, false, false, false, false, false, false, false, false, false, false] rfl rfl (any_of HT_.out (by kernel_rfl)) (fun _ _ _ h => h) (Or.inl ⟨by rfl, ?_⟩) ?_ ?_
      rotate_left
      · intro w'
        go_simp
        with_reducible rfl
      rotate_left
      · simp only [Act.put, List.setIfInBounds_toArray, List.set_cons_zero, List.set_cons_succ, i64_w, i32_w]
        rfl
      refine pure_ (i := 13) (N := some 69) (v := ?_) (a' := ?_) #[true, true, true, true, true, true, true, true, true, true, true, true, true, true, false, true, false, false, false, false, false, false, false, false, false, false, false, false, false, false, false, false] rfl rfl (any_of HT_.out (by kernel_rfl)) (fun _ _ _ h => h) (Or.inl ⟨by rfl, ?_⟩) ?_ ?_
      rotate_left
      · intro w'
        go_simp
        with_reducible rfl
      rotate_left
      · simp only [Act.put, List.setIfInBounds_toArray, List.set_cons_zero, List.set_cons_succ, i64_w, i32_w]
        rfl
      refine take_ (i := 14) (N := some 70) (v := ?_) (a' := ?_) #[true, true, true, true, true, true, true, true, true, true, true, true, true, true, true, true, false, false, false, false, false, false, false, false, false, false, false, false, false, false, false, false] rfl rfl (take_ofW HT_.out HW_.out (by kernel_rfl)) (fun _ _ _ h => h) (Or.inl ⟨by rfl, ?_⟩) hHeld ?_ ?_
      rotate_left
      · rintro w' ⟨s0, s1, s2, s3, s4, s5, s6, s7, s8, s9, s10, s11, s12, s13, s14, s15, s16, s17, s18, s19, s20, s21, s22, s23, s24, s25, s26, s27, s28, s29, s30, s31, s32, s33, s34, s35, s36, s37, s38, s39, s40, s41, s42, s43, s44, s45⟩
        go_simp
        with_reducible rfl
      rotate_left
      · simp only [Act.put, List.setIfInBounds_toArray, List.set_cons_zero, List.set_cons_succ, i64_w, i32_w]
        rfl
      refine pure_ (i := 16) (N := some 72) (v := ?_) (a' := ?_) #[true, true, true, true, true, true, true, true, true, true, true, true, true, true, true, true, true, false, false, false, false, false, false, false, false, false, false, false, false, false, false, false] rfl rfl (any_of HT_.out (by kernel_rfl)) (fun _ _ _ h => h) (Or.inl ⟨by rfl, ?_⟩) ?_ ?_
      rotate_left
      · intro w'
        go_simp
        with_reducible rfl
      rotate_left
      · simp only [Act.put, List.setIfInBounds_toArray, List.set_cons_zero, List.set_cons_succ, i64_w, i32_w]
        rfl
      refine pure_ (i := 17) (N := some 73) (v := ?_) (a' := ?_) #[true, true, true, true, true, true, true, true, true, true, true, true, true, true, true, true, true, true, false, false, false, false, false, false, false, false, false, false, false, false, false, false] rfl rfl (any_of HT_.out (by kernel_rfl)) (fun _ _ _ h => h) (Or.inl ⟨by rfl, ?_⟩) ?_ ?_
      rotate_left
      · intro w'
        go_simp
        with_reducible rfl
      rotate_left
      · simp only [Act.put, List.setIfInBounds_toArray, List.set_cons_zero, List.set_cons_succ, i64_w, i32_w]
        rfl
      refine pure_ (i := 18) (N := some 74) (v := ?_) (a' := ?_) #[true, true, true, true, true, true, true, true, true, true, true, true, true, true, true, true, true, true, true, false, false, false, false, false, false, false, false, false, false, false, false, false] rfl rfl (any_of HT_.out (by kernel_rfl)) (fun _ _ _ h => h) (Or.inl ⟨by rfl, ?_⟩) ?_ ?_
      rotate_left
      · intro w'
        go_simp
        with_reducible rfl
      rotate_left
      · simp only [Act.put, List.setIfInBounds_toArray, List.set_cons_zero, List.set_cons_succ, i64_w, i32_w]
        rfl
      refine pure_ (i := 19) (N := some 75) (v := undef) (a' := ?_) #[true, true, true, true, true, true, true, true, true, true, true, true, true, true, true, true, true, true, true, true, false, false, false, false, false, false, false, false, false, false, false, false] rfl rfl (any_of HT_.out (by kernel_rfl)) (fun _ _ _ h => h) (Or.inr ⟨by rfl, rfl⟩) ?_ ?_
      rotate_left
      · simp only [Act.put, List.setIfInBounds_toArray, List.set_cons_zero, List.set_cons_succ, i64_w, i32_w]
        rfl
      refine pure_ (i := 20) (N := some 76) (v := undef) (a' := ?_) #[true, true, true, true, true, true, true, true, true, true, true, true, true, true, true, true, true, true, true, true, true, false, false, false, false, false, false, false, false, false, false, false] rfl rfl (any_of HT_.out (by kernel_rfl)) (fun _ _ _ h => h) (Or.inr ⟨by rfl, rfl⟩) ?_ ?_
      rotate_left
      · simp only [Act.put, List.setIfInBounds_toArray, List.set_cons_zero, List.set_cons_succ, i64_w, i32_w]
        rfl
      refine pure_ (i := 21) (N := some 77) (v := undef) (a' := ?_) #[true, true, true, true, true, true, true, true, true, true, true, true, true, true, true, true, true, true, true, true, true, true, false, false, false, false, false, false, false, false, false, false] rfl rfl (any_of HT_.out (by kernel_rfl)) (fun _ _ _ h => h) (Or.inr ⟨by rfl, rfl⟩) ?_ ?_
      rotate_left
      · simp only [Act.put, List.setIfInBounds_toArray, List.set_cons_zero, List.set_cons_succ, i64_w, i32_w]
        rfl
      refine pure_ (i := 22) (N := some 78) (v := undef) (a' := ?_) #[true, true, true, true, true, true, true, true, true, true, true, true, true, true, true, true, true, true, true, true, true, true, true, false, false, false, false, false, false, false, false, false] rfl rfl (any_of HT_.out (by kernel_rfl)) (fun _ _ _ h => h) (Or.inr ⟨by rfl, rfl⟩) ?_ ?_
      rotate_left
      · simp only [Act.put, List.setIfInBounds_toArray, List.set_cons_zero, List.set_cons_succ, i64_w, i32_w]
        rfl
      refine pure_ (i := 23) (N := some 79) (v := undef) (a' := ?_) #[true, true, true, true, true, true, true, true, true, true, true, true, true, true, true, true, true, true, true, true, true, true, true, true, false, false, false, false, false, false, false, false] rfl rfl (any_of HT_.out (by kernel_rfl)) (fun _ _ _ h => h) (Or.inr ⟨by rfl, rfl⟩) ?_ ?_
      rotate_left
      · simp only [Act.put, List.setIfInBounds_toArray, List.set_cons_zero, List.set_cons_succ, i64_w, i32_w]
        rfl
      refine pure_ (i := 24) (N := some 80) (v := undef) (a' := ?_) #[true, true, true, true, true, true, true, true, true, true, true, true, true, true, true, true, true, true, true, true, true, true, true, true, true, false, false, false, false, false, false, false] rfl rfl (any_of HT_.out (by kernel_rfl)) (fun _ _ _ h => h) (Or.inr ⟨by rfl, rfl⟩) ?_ ?_
      rotate_left
      · simp only [Act.put, List.setIfInBounds_toArray, List.set_cons_zero, List.set_cons_succ, i64_w, i32_w]
        rfl
      refine pure_ (i := 25) (N := some 81) (v := undef) (a' := ?_) #[true, true, true, true, true, true, true, true, true, true, true, true, true, true, true, true, true, true, true, true, true, true, true, true, true, true, false, false, false, false, false, false] rfl rfl (any_of HT_.out (by kernel_rfl)) (fun _ _ _ h => h) (Or.inr ⟨by rfl, rfl⟩) ?_ ?_
      rotate_left
      · simp only [Act.put, List.setIfInBounds_toArray, List.set_cons_zero, List.set_cons_succ, i64_w, i32_w]
        rfl
      refine pure_ (i := 26) (N := some 82) (v := undef) (a' := ?_) #[true, true, true, true, true, true, true, true, true, true, true, true, true, true, true, true, true, true, true, true, true, true, true, true, true, true, true, false, false, false, false, false] rfl rfl (any_of HT_.out (by kernel_rfl)) (fun _ _ _ h => h) (Or.inr ⟨by rfl, rfl⟩) ?_ ?_
      rotate_left
      · simp only [Act.put, List.setIfInBounds_toArray, List.set_cons_zero, List.set_cons_succ, i64_w, i32_w]
        rfl
      refine pure_ (i := 27) (N := some 83) (v := undef) (a' := ?_) #[true, true, true, true, true, true, true, true, true, true, true, true, true, true, true, true, true, true, true, true, true, true, true, true, true, true, true, true, false, false, false, false] rfl rfl (any_of HT_.out (by kernel_rfl)) (fun _ _ _ h => h) (Or.inr ⟨by rfl, rfl⟩) ?_ ?_
      rotate_left
      · simp only [Act.put, List.setIfInBounds_toArray, List.set_cons_zero, List.set_cons_succ, i64_w, i32_w]
        rfl
      refine pure_ (i := 28) (N := some 84) (v := ?_) (a' := ?_) #[true, true, true, true, true, true, true, true, true, true, true, true, true, true, true, true, true, true, true, true, true, true, true, true, true, true, true, true, true, false, false, false] rfl rfl (any_of HT_.out (by kernel_rfl)) (fun _ _ _ h => h) (Or.inl ⟨by rfl, ?_⟩) ?_ ?_
      rotate_left
      · intro w'
        go_simp
        with_reducible rfl
      rotate_left
      · simp only [Act.put, List.setIfInBounds_toArray, List.set_cons_zero, List.set_cons_succ, i64_w, i32_w]
        rfl
      refine pure_ (i := 29) (N := some 85) (v := ?_) (a' := ?_) #[true, true, true, true, true, true, true, true, true, true, true, true, true, true, true, true, true, true, true, true, true, true, true, true, true, true, true, true, true, true, false, false] rfl rfl (any_of HT_.out (by kernel_rfl)) (fun _ _ _ h => h) (Or.inl ⟨by rfl, ?_⟩) ?_ ?_
      rotate_left
      · intro w'
        go_simp
        with_reducible rfl
      rotate_left
      · simp only [Act.put, List.setIfInBounds_toArray, List.set_cons_zero, List.set_cons_succ, i64_w, i32_w]
        rfl
      refine pure_ (i := 30) (N := some 86) (v := ?_) (a' := ?_) #[true, true, true, true, true, true, true, true, true, true, true, true, true, true, true, true, true, true, true, true, true, true, true, true, true, true, true, true, true, true, true, false] rfl rfl (any_of HT_.out (by kernel_rfl)) (fun _ _ _ h => h) (Or.inl ⟨by rfl, ?_⟩) ?_ ?_
      rotate_left
      · intro w'
        go_simp
        with_reducible rfl
      rotate_left
      · simp only [Act.put, List.setIfInBounds_toArray, List.set_cons_zero, List.set_cons_succ, i64_w, i32_w]
        rfl
      refine pure_ (i := 31) (N := some 9) (v := ?_) (a' := ?_) #[true, true, true, true, true, true, true, true, true, true, true, true, true, true, true, true, true, true, true, true, true, true, true, true, true, true, true, true, true, true, true, true] rfl rfl (any_of HT_.out (by kernel_rfl)) (fun _ _ _ h => h) (Or.inl ⟨by rfl, ?_⟩) ?_ ?_
      rotate_left
      · intro w'
        go_simp
        with_reducible rfl
      rotate_left
      · simp only [Act.put, List.setIfInBounds_toArray, List.set_cons_zero, List.set_cons_succ, i64_w, i32_w]
        rfl
      refine done_ (done_of HT_.out (by kernel_rfl)) ?_
      try go_wp2_with (first | ((with_reducible refine gate_load (t := 68) rfl ?_); refine load_at2 (t := 68) ?hg ?ho (c0 := _) (cs := [_, _, _, _, _, _, _, _, _, _, _, _, _, _, _, _, _, _, _]) Try.underlying68 rfl (by kernel_rfl) hx157_0 ⟨hx157_1, hx157_2, hx157_3, hx157_4, hx157_5, hx157_6, hx157_7, hx157_8, hx157_9, hx157_10, hx157_11, hx157_12, hx157_13, hx157_14, hx157_15, hx157_16, hx157_17, hx157_18, hx157_19, trivial⟩ ?_; (case hg => rfl); (case ho => refine ⟨_, rfl, ?_⟩; first | (with_reducible rfl) | (go_simp; done))) | ((with_reducible refine gate_load (t := 68) rfl ?_); refine load_at2 (t := 68) ?hg ?ho (c0 := _) (cs := [_, _, _, _, _, _, _, _, _, _, _, _, _, _, _, _, _, _, _]) Try.underlying68 rfl (by kernel_rfl) hx160_0 ⟨hx160_1, hx160_2, hx160_3, hx160_4, hx160_5, hx160_6, hx160_7, hx160_8, hx160_9, hx160_10, hx160_11, hx160_12, hx160_13, hx160_14, hx160_15, hx160_16, hx160_17, hx160_18, hx160_19, trivial⟩ ?_; (case hg => rfl); (case ho => refine ⟨_, rfl, ?_⟩; first | (with_reducible rfl) | (go_simp; done))) | ((with_reducible refine gate_load (t := 68) rfl ?_); refine load_at2 (t := 68) ?hg ?ho (c0 := _) (cs := [_, _, _, _, _, _, _, _, _, _, _, _, _, _, _, _, _, _, _]) Try.underlying68 rfl (by kernel_rfl) hx162_0 ⟨hx162_1, hx162_2, hx162_3, hx162_4, hx162_5, hx162_6, hx162_7, hx162_8, hx162_9, hx162_10, hx162_11, hx162_12, hx162_13, hx162_14, hx162_15, hx162_16, hx162_17, hx162_18, hx162_19, trivial⟩ ?_; (case hg => rfl); (case ho => refine ⟨_, rfl, ?_⟩; first | (with_reducible rfl) | (go_simp; done))) | ((with_reducible refine gate_load (t := 56) rfl ?_); refine load_row3 (t := 56) (g := gb153) ?hg BK153.out ?ho ?hb Try.underlying56 rfl ?hs ?_; (case hg => rfl); (case ho => refine ⟨_, rfl, ?_⟩; first | (with_reducible rfl) | (go_simp; done)); (case hb => (with_reducible repeat (first | refine blk_drewN ?_ _ | refine blk_drew ?_ | refine blk_alloc ?_ _)); with_reducible exact BK153.out); (case hs => kernel_rfl)) | ((with_reducible refine gate_load (t := 68) rfl ?_); refine load_row3 (t := 68) (g := gb158) ?hg BK158.out ?ho ?hb Try.underlying68 rfl ?hs ?_; (case hg => rfl); (case ho => refine ⟨_, rfl, ?_⟩; first | (with_reducible rfl) | (go_simp; done)); (case hb => (with_reducible repeat (first | refine blk_drewN ?_ _ | refine blk_drew ?_ | refine blk_alloc ?_ _)); with_reducible exact BK158.out); (case hs => kernel_rfl)))
      go_roundg k4
      case measure => have := HK1.out; have := HK2.out; have := HJ20.out; have := HK4.out; omega
      case rel => exact ⟨(!false), (wrap64 (x10_4 + 1)), (by first | rfl | (simp; done) | (simp [*]; done)), (by first | rfl | (simp; done) | (simp [*]; done)), H', ⟨by have := HK1.out; have := HK2.out; have := HJ20.out; have := HK4.out; omega⟩, ⟨by (with_reducible repeat (first | refine blk_drewN ?_ _ | refine blk_drew ?_ | refine blk_alloc ?_ _)); exact BK153.out⟩, ⟨by (with_reducible repeat (first | refine blk_drewN ?_ _ | refine blk_drew ?_ | refine blk_alloc ?_ _)); exact BK154.out⟩, ⟨by (with_reducible repeat (first | refine blk_drewN ?_ _ | refine blk_drew ?_ | refine blk_alloc ?_ _)); exact BK158.out⟩, ⟨by repeat (first | (with_reducible first | exact HB.out | apply below_alloc | apply pw_below_drewN | apply below_drew1 | refine below_set ?_ GE153.out | refine below_set ?_ GE154.out | refine below_set ?_ GE158.out) | exact HB.out)⟩⟩
  rw [if_pos c45] at H
  have c45b0 : decide (((rd_T68 l0_5 x10_4).f12) ≤ a1) = true := decide_eq_true c45
  clear c45
  as_aux_lemma =>
    have H' := Aside0.mk H
    clear H
    have hnb46 := NB153_154.out
    have hnc46 := NB154_153.out
    have hnb47 := NB153_158.out
    have hnc47 := NB158_153.out
    have hcz48_0 : wr.cell? ⟨gb153, 0, none⟩ = some (.int .i64 a0_0) := (blk_cell BK153.out 0).trans rfl
    have hcz48_1 : wr.cell? ⟨gb153, 1, none⟩ = some (.int .i64 a0_1) := (blk_cell BK153.out 1).trans rfl
    have hcz48_2 : wr.cell? ⟨gb153, 2, none⟩ = some (.int .i64 a0_2) := (blk_cell BK153.out 2).trans rfl
    have hcz48_3 : wr.cell? ⟨gb153, 3, none⟩ = some (.int .i64 a0_3) := (blk_cell BK153.out 3).trans rfl
    have hcz48_4 : wr.cell? ⟨gb153, 4, none⟩ = some (.slice A0_4 l0_4.length c0_4) := (blk_cell BK153.out 4).trans rfl
    have hcz48_5 : wr.cell? ⟨gb153, 5, none⟩ = some (.slice (some ad157) l0_5.length c0_5) := (blk_cell BK153.out 5).trans rfl
    have hfz48_0 := blk_frozen BK153.out 0
    have hfz48_1 := blk_frozen BK153.out 1
    have hfz48_2 := blk_frozen BK153.out 2
    have hfz48_3 := blk_frozen BK153.out 3
    have hfz48_4 := blk_frozen BK153.out 4
    have hfz48_5 := blk_frozen BK153.out 5
    try go_wp2_with (first | ((with_reducible refine gate_load (t := 68) rfl ?_); refine load_at2 (t := 68) ?hg ?ho (c0 := _) (cs := [_, _, _, _, _, _, _, _, _, _, _, _, _, _, _, _, _, _, _]) Try.underlying68 rfl (by kernel_rfl) hx157_0 ⟨hx157_1, hx157_2, hx157_3, hx157_4, hx157_5, hx157_6, hx157_7, hx157_8, hx157_9, hx157_10, hx157_11, hx157_12, hx157_13, hx157_14, hx157_15, hx157_16, hx157_17, hx157_18, hx157_19, trivial⟩ ?_; (case hg => rfl); (case ho => refine ⟨_, rfl, ?_⟩; first | (with_reducible rfl) | (go_simp; done))) | ((with_reducible refine gate_load (t := 56) rfl ?_); refine load_row3 (t := 56) (g := gb153) ?hg BK153.out ?ho ?hb Try.underlying56 rfl ?hs ?_; (case hg => rfl); (case ho => refine ⟨_, rfl, ?_⟩; first | (with_reducible rfl) | (go_simp; done)); (case hb => (with_reducible repeat (first | refine blk_drewN ?_ _ | refine blk_drew ?_ | refine blk_alloc ?_ _)); with_reducible exact BK153.out); (case hs => kernel_rfl)) | ((with_reducible refine gate_load (t := 68) rfl ?_); refine load_row3 (t := 68) (g := gb158) ?hg BK158.out ?ho ?hb Try.underlying68 rfl ?hs ?_; (case hg => rfl); (case ho => refine ⟨_, rfl, ?_⟩; first | (with_reducible rfl) | (go_simp; done)); (case hb => (with_reducible repeat (first | refine blk_drewN ?_ _ | refine blk_drew ?_ | refine blk_alloc ?_ _)); with_reducible exact BK158.out); (case hs => kernel_rfl)))
    have n0_ := Aside0.mk (blk_drew BK153.out)
    have n1_ := Aside0.mk (blk_drew BK154.out)
    have n2_ := Aside0.mk (blk_drew BK158.out)
    have n3_ := Aside0.mk (below_drew1 HB.out)
    clear BK153
    clear BK154
    clear BK158
    clear HB
    have BK153 := n0_
    have BK154 := n1_
    have BK158 := n2_
    have HB := n3_
    clear n0_ n1_ n2_ n3_
    have p160 : 0 ≤ (x10_4 : Int) := of_decide_eq_true (by first | (with_reducible assumption) | assumption)
    have q160 : x10_4 < (l0_5.length : Int) := of_decide_eq_true (by first | (with_reducible assumption) | assumption)
    obtain ⟨ad160, e160, hx160_0, hx160_1, hx160_2, hx160_3, hx160_4, hx160_5, hx160_6, hx160_7, hx160_8, hx160_9, hx160_10, hx160_11, hx160_12, hx160_13, hx160_14, hx160_15, hx160_16, hx160_17, hx160_18, hx160_19⟩ := at_T68 HR0_5.out x10_4 p160 q160
    have hw160_19 := hx160_19
    have hw160_18 := hx160_18
    have hw160_17 := hx160_17
    have hw160_16 := hx160_16
    have hw160_15 := hx160_15
    have hw160_14 := hx160_14
    have hw160_13 := hx160_13
    have hw160_12 := hx160_12
    have hw160_11 := hx160_11
    have hw160_10 := hx160_10
    have hw160_9 := hx160_9
    have hw160_8 := hx160_8
    have hw160_7 := hx160_7
    have hw160_6 := hx160_6
    have hw160_5 := hx160_5
    have hw160_4 := hx160_4
    have hw160_3 := hx160_3
    have hw160_2 := hx160_2
    have hw160_1 := hx160_1
    have hw160_0 := hx160_0
    obtain rfl : ad157 = ad160 := (by injection e160)
    replace hx160_0 := (HB.out.cell (World.block_lt_of_cell? w _ hx160_0)).trans hx160_0
    replace hx160_1 := (HB.out.cell (World.block_lt_of_cell? w _ hx160_1)).trans hx160_1
    replace hx160_2 := (HB.out.cell (World.block_lt_of_cell? w _ hx160_2)).trans hx160_2
    replace hx160_3 := (HB.out.cell (World.block_lt_of_cell? w _ hx160_3)).trans hx160_3
    replace hx160_4 := (HB.out.cell (World.block_lt_of_cell? w _ hx160_4)).trans hx160_4
    replace hx160_5 := (HB.out.cell (World.block_lt_of_cell? w _ hx160_5)).trans hx160_5
    replace hx160_6 := (HB.out.cell (World.block_lt_of_cell? w _ hx160_6)).trans hx160_6
    replace hx160_7 := (HB.out.cell (World.block_lt_of_cell? w _ hx160_7)).trans hx160_7
    replace hx160_8 := (HB.out.cell (World.block_lt_of_cell? w _ hx160_8)).trans hx160_8
    replace hx160_9 := (HB.out.cell (World.block_lt_of_cell? w _ hx160_9)).trans hx160_9
    replace hx160_10 := (HB.out.cell (World.block_lt_of_cell? w _ hx160_10)).trans hx160_10
    replace hx160_11 := (HB.out.cell (World.block_lt_of_cell? w _ hx160_11)).trans hx160_11
    replace hx160_12 := (HB.out.cell (World.block_lt_of_cell? w _ hx160_12)).trans hx160_12
    replace hx160_13 := (HB.out.cell (World.block_lt_of_cell? w _ hx160_13)).trans hx160_13
    replace hx160_14 := (HB.out.cell (World.block_lt_of_cell? w _ hx160_14)).trans hx160_14
    replace hx160_15 := (HB.out.cell (World.block_lt_of_cell? w _ hx160_15)).trans hx160_15
    replace hx160_16 := (HB.out.cell (World.block_lt_of_cell? w _ hx160_16)).trans hx160_16
    replace hx160_17 := (HB.out.cell (World.block_lt_of_cell? w _ hx160_17)).trans hx160_17
    replace hx160_18 := (HB.out.cell (World.block_lt_of_cell? w _ hx160_18)).trans hx160_18
    replace hx160_19 := (HB.out.cell (World.block_lt_of_cell? w _ hx160_19)).trans hx160_19
    replace p160 := eq_true p160
    replace q160 := eq_true q160
    have p162 : 0 ≤ (x10_4 : Int) := of_decide_eq_true (by first | (with_reducible assumption) | assumption)
    have q162 : x10_4 < (l0_5.length : Int) := of_decide_eq_true (by first | (with_reducible assumption) | assumption)
    obtain ⟨ad162, e162, hx162_0, hx162_1, hx162_2, hx162_3, hx162_4, hx162_5, hx162_6, hx162_7, hx162_8, hx162_9, hx162_10, hx162_11, hx162_12, hx162_13, hx162_14, hx162_15, hx162_16, hx162_17, hx162_18, hx162_19⟩ := at_T68 HR0_5.out x10_4 p162 q162
    have hw162_19 := hx162_19
    have hw162_18 := hx162_18
    have hw162_17 := hx162_17
    have hw162_16 := hx162_16
    have hw162_15 := hx162_15
    have hw162_14 := hx162_14
    have hw162_13 := hx162_13
    have hw162_12 := hx162_12
    have hw162_11 := hx162_11
    have hw162_10 := hx162_10
    have hw162_9 := hx162_9
    have hw162_8 := hx162_8
    have hw162_7 := hx162_7
    have hw162_6 := hx162_6
    have hw162_5 := hx162_5
    have hw162_4 := hx162_4
    have hw162_3 := hx162_3
    have hw162_2 := hx162_2
    have hw162_1 := hx162_1
    have hw162_0 := hx162_0
    obtain rfl : ad157 = ad162 := (by injection e162)
    replace hx162_0 := (HB.out.cell (World.block_lt_of_cell? w _ hx162_0)).trans hx162_0
    replace hx162_1 := (HB.out.cell (World.block_lt_of_cell? w _ hx162_1)).trans hx162_1
    replace hx162_2 := (HB.out.cell (World.block_lt_of_cell? w _ hx162_2)).trans hx162_2
    replace hx162_3 := (HB.out.cell (World.block_lt_of_cell? w _ hx162_3)).trans hx162_3
    replace hx162_4 := (HB.out.cell (World.block_lt_of_cell? w _ hx162_4)).trans hx162_4
    replace hx162_5 := (HB.out.cell (World.block_lt_of_cell? w _ hx162_5)).trans hx162_5
    replace hx162_6 := (HB.out.cell (World.block_lt_of_cell? w _ hx162_6)).trans hx162_6
    replace hx162_7 := (HB.out.cell (World.block_lt_of_cell? w _ hx162_7)).trans hx162_7
    replace hx162_8 := (HB.out.cell (World.block_lt_of_cell? w _ hx162_8)).trans hx162_8
    replace hx162_9 := (HB.out.cell (World.block_lt_of_cell? w _ hx162_9)).trans hx162_9
    replace hx162_10 := (HB.out.cell (World.block_lt_of_cell? w _ hx162_10)).trans hx162_10
    replace hx162_11 := (HB.out.cell (World.block_lt_of_cell? w _ hx162_11)).trans hx162_11
    replace hx162_12 := (HB.out.cell (World.block_lt_of_cell? w _ hx162_12)).trans hx162_12
    replace hx162_13 := (HB.out.cell (World.block_lt_of_cell? w _ hx162_13)).trans hx162_13
    replace hx162_14 := (HB.out.cell (World.block_lt_of_cell? w _ hx162_14)).trans hx162_14
    replace hx162_15 := (HB.out.cell (World.block_lt_of_cell? w _ hx162_15)).trans hx162_15
    replace hx162_16 := (HB.out.cell (World.block_lt_of_cell? w _ hx162_16)).trans hx162_16
    replace hx162_17 := (HB.out.cell (World.block_lt_of_cell? w _ hx162_17)).trans hx162_17
    replace hx162_18 := (HB.out.cell (World.block_lt_of_cell? w _ hx162_18)).trans hx162_18
    replace hx162_19 := (HB.out.cell (World.block_lt_of_cell? w _ hx162_19)).trans hx162_19
    replace p162 := eq_true p162
    replace q162 := eq_true q162
    have p163 : 0 ≤ (x10_4 : Int) := of_decide_eq_true (by first | (with_reducible assumption) | assumption)
    have q163 : x10_4 < (l0_5.length : Int) := of_decide_eq_true (by first | (with_reducible assumption) | assumption)
    obtain ⟨ad163, e163, hx163_0, hx163_1, hx163_2, hx163_3, hx163_4, hx163_5, hx163_6, hx163_7, hx163_8, hx163_9, hx163_10, hx163_11, hx163_12, hx163_13, hx163_14, hx163_15, hx163_16, hx163_17, hx163_18, hx163_19⟩ := at_T68 HR0_5.out x10_4 p163 q163
    have hw163_19 := hx163_19
    have hw163_18 := hx163_18
    have hw163_17 := hx163_17
    have hw163_16 := hx163_16
    have hw163_15 := hx163_15
    have hw163_14 := hx163_14
    have hw163_13 := hx163_13
    have hw163_12 := hx163_12
    have hw163_11 := hx163_11
    have hw163_10 := hx163_10
    have hw163_9 := hx163_9
    have hw163_8 := hx163_8
    have hw163_7 := hx163_7
    have hw163_6 := hx163_6
    have hw163_5 := hx163_5
    have hw163_4 := hx163_4
    have hw163_3 := hx163_3
    have hw163_2 := hx163_2
    have hw163_1 := hx163_1
    have hw163_0 := hx163_0
    obtain rfl : ad157 = ad163 := (by injection e163)
    replace hx163_0 := (HB.out.cell (World.block_lt_of_cell? w _ hx163_0)).trans hx163_0
    replace hx163_1 := (HB.out.cell (World.block_lt_of_cell? w _ hx163_1)).trans hx163_1
    replace hx163_2 := (HB.out.cell (World.block_lt_of_cell? w _ hx163_2)).trans hx163_2
    replace hx163_3 := (HB.out.cell (World.block_lt_of_cell? w _ hx163_3)).trans hx163_3
    replace hx163_4 := (HB.out.cell (World.block_lt_of_cell? w _ hx163_4)).trans hx163_4
    replace hx163_5 := (HB.out.cell (World.block_lt_of_cell? w _ hx163_5)).trans hx163_5
    replace hx163_6 := (HB.out.cell (World.block_lt_of_cell? w _ hx163_6)).trans hx163_6
    replace hx163_7 := (HB.out.cell (World.block_lt_of_cell? w _ hx163_7)).trans hx163_7
    replace hx163_8 := (HB.out.cell (World.block_lt_of_cell? w _ hx163_8)).trans hx163_8
    replace hx163_9 := (HB.out.cell (World.block_lt_of_cell? w _ hx163_9)).trans hx163_9
    replace hx163_10 := (HB.out.cell (World.block_lt_of_cell? w _ hx163_10)).trans hx163_10
    replace hx163_11 := (HB.out.cell (World.block_lt_of_cell? w _ hx163_11)).trans hx163_11
    replace hx163_12 := (HB.out.cell (World.block_lt_of_cell? w _ hx163_12)).trans hx163_12
    replace hx163_13 := (HB.out.cell (World.block_lt_of_cell? w _ hx163_13)).trans hx163_13
    replace hx163_14 := (HB.out.cell (World.block_lt_of_cell? w _ hx163_14)).trans hx163_14
    replace hx163_15 := (HB.out.cell (World.block_lt_of_cell? w _ hx163_15)).trans hx163_15
    replace hx163_16 := (HB.out.cell (World.block_lt_of_cell? w _ hx163_16)).trans hx163_16
    replace hx163_17 := (HB.out.cell (World.block_lt_of_cell? w _ hx163_17)).trans hx163_17
    replace hx163_18 := (HB.out.cell (World.block_lt_of_cell? w _ hx163_18)).trans hx163_18
    replace hx163_19 := (HB.out.cell (World.block_lt_of_cell? w _ hx163_19)).trans hx163_19
    replace p163 := eq_true p163
    replace q163 := eq_true q163
    refine start_ (n := 32) (S := fun w' => w'.cell? ⟨gb153, 0, none⟩ = some (.int .i64 a0_0) ∧ w'.cell? ⟨gb153, 1, none⟩ = some (.int .i64 a0_1) ∧ w'.cell? ⟨gb153, 2, none⟩ = some (.int .i64 a0_2) ∧ w'.cell? ⟨gb153, 3, none⟩ = some (.int .i64 a0_3) ∧ w'.cell? ⟨gb153, 4, none⟩ = some (.slice A0_4 l0_4.length c0_4) ∧ w'.cell? ⟨gb153, 5, none⟩ = some (.slice (some ad157) l0_5.length c0_5) ∧ w'.cell? ⟨gb158, 0, none⟩ = some (.int .i64 ((rd_T68 l0_5 x7_2).f0)) ∧ w'.cell? ⟨gb158, 1, none⟩ = some (.int .i64 ((rd_T68 l0_5 x7_2).f1)) ∧ w'.cell? ⟨gb158, 2, none⟩ = some (.string ((rd_T68 l0_5 x7_2).f2)) ∧ w'.cell? ⟨gb158, 3, none⟩ = some (.string ((rd_T68 l0_5 x7_2).f3)) ∧ w'.cell? ⟨gb158, 4, none⟩ = some (.string ((rd_T68 l0_5 x7_2).f4)) ∧ w'.cell? ⟨gb158, 5, none⟩ = some (.int .i64 ((rd_T68 l0_5 x7_2).f5)) ∧ w'.cell? ⟨gb158, 6, none⟩ = some (.int .i64 ((rd_T68 l0_5 x7_2).f6)) ∧ w'.cell? ⟨gb158, 7, none⟩ = some (.int .i64 ((rd_T68 l0_5 x7_2).f7)) ∧ w'.cell? ⟨gb158, 8, none⟩ = some (.int .i64 ((rd_T68 l0_5 x7_2).f8)) ∧ w'.cell? ⟨gb158, 9, none⟩ = some (.bool ((rd_T68 l0_5 x7_2).f9)) ∧ w'.cell? ⟨gb158, 10, none⟩ = some (.int .i64 ((rd_T68 l0_5 x7_2).f10)) ∧ w'.cell? ⟨gb158, 11, none⟩ = some (.int .i64 ((rd_T68 l0_5 x7_2).f11)) ∧ w'.cell? ⟨gb158, 12, none⟩ = some (.int .i64 ((rd_T68 l0_5 x7_2).f12)) ∧ w'.cell? ⟨gb158, 13, none⟩ = some (.string ((rd_T68 l0_5 x7_2).f13)) ∧ w'.cell? ⟨gb158, 14, none⟩ = some (.int .i64 ((rd_T68 l0_5 x7_2).f14)) ∧ w'.cell? ⟨gb158, 15, none⟩ = some (.int .i64 ((rd_T68 l0_5 x7_2).f15)) ∧ w'.cell? ⟨gb158, 16, none⟩ = some (.string ((rd_T68 l0_5 x7_2).f16)) ∧ w'.cell? ⟨gb158, 17, none⟩ = some (.int .i64 ((rd_T68 l0_5 x7_2).f17)) ∧ w'.cell? ⟨gb158, 18, none⟩ = some (.int .i64 ((rd_T68 l0_5 x7_2).f18)) ∧ w'.cell? ⟨gb158, 19, none⟩ = some (.string ((rd_T68 l0_5 x7_2).f19)) ∧ w'.cell? (ad157.add ((x10_4).toNat * 20)) = some (.int .i64 ((rd_T68 l0_5 x10_4).f0)) ∧ w'.cell? ⟨(ad157.add ((x10_4).toNat * 20)).block, (ad157.add ((x10_4).toNat * 20)).off + 1, none⟩ = some (.int .i64 ((rd_T68 l0_5 x10_4).f1)) ∧ w'.cell? ⟨(ad157.add ((x10_4).toNat * 20)).block, (ad157.add ((x10_4).toNat * 20)).off + 2, none⟩ = some (.string ((rd_T68 l0_5 x10_4).f2)) ∧ w'.cell? ⟨(ad157.add ((x10_4).toNat * 20)).block, (ad157.add ((x10_4).toNat * 20)).off + 3, none⟩ = some (.string ((rd_T68 l0_5 x10_4).f3)) ∧ w'.cell? ⟨(ad157.add ((x10_4).toNat * 20)).block, (ad157.add ((x10_4).toNat * 20)).off + 4, none⟩ = some (.string ((rd_T68 l0_5 x10_4).f4)) ∧ w'.cell? ⟨(ad157.add ((x10_4).toNat * 20)).block, (ad157.add ((x10_4).toNat * 20)).off + 5, none⟩ = some (.int .i64 ((rd_T68 l0_5 x10_4).f5)) ∧ w'.cell? ⟨(ad157.add ((x10_4).toNat * 20)).block, (ad157.add ((x10_4).toNat * 20)).off + 6, none⟩ = some (.int .i64 ((rd_T68 l0_5 x10_4).f6)) ∧ w'.cell? ⟨(ad157.add ((x10_4).toNat * 20)).block, (ad157.add ((x10_4).toNat * 20)).off + 7, none⟩ = some (.int .i64 ((rd_T68 l0_5 x10_4).f7)) ∧ w'.cell? ⟨(ad157.add ((x10_4).toNat * 20)).block, (ad157.add ((x10_4).toNat * 20)).off + 8, none⟩ = some (.int .i64 ((rd_T68 l0_5 x10_4).f8)) ∧ w'.cell? ⟨(ad157.add ((x10_4).toNat * 20)).block, (ad157.add ((x10_4).toNat * 20)).off + 9, none⟩ = some (.bool ((rd_T68 l0_5 x10_4).f9)) ∧ w'.cell? ⟨(ad157.add ((x10_4).toNat * 20)).block, (ad157.add ((x10_4).toNat * 20)).off + 10, none⟩ = some (.int .i64 ((rd_T68 l0_5 x10_4).f10)) ∧ w'.cell? ⟨(ad157.add ((x10_4).toNat * 20)).block, (ad157.add ((x10_4).toNat * 20)).off + 11, none⟩ = some (.int .i64 ((rd_T68 l0_5 x10_4).f11)) ∧ w'.cell? ⟨(ad157.add ((x10_4).toNat * 20)).block, (ad157.add ((x10_4).toNat * 20)).off + 12, none⟩ = some (.int .i64 ((rd_T68 l0_5 x10_4).f12)) ∧ w'.cell? ⟨(ad157.add ((x10_4).toNat * 20)).block, (ad157.add ((x10_4).toNat * 20)).off + 13, none⟩ = some (.string ((rd_T68 l0_5 x10_4).f13)) ∧ w'.cell? ⟨(ad157.add ((x10_4).toNat * 20)).block, (ad157.add ((x10_4).toNat * 20)).off + 14, none⟩ = some (.int .i64 ((rd_T68 l0_5 x10_4).f14)) ∧ w'.cell? ⟨(ad157.add ((x10_4).toNat * 20)).block, (ad157.add ((x10_4).toNat * 20)).off + 15, none⟩ = some (.int .i64 ((rd_T68 l0_5 x10_4).f15)) ∧ w'.cell? ⟨(ad157.add ((x10_4).toNat * 20)).block, (ad157.add ((x10_4).toNat * 20)).off + 16, none⟩ = some (.string ((rd_T68 l0_5 x10_4).f16)) ∧ w'.cell? ⟨(ad157.add ((x10_4).toNat * 20)).block, (ad157.add ((x10_4).toNat * 20)).off + 17, none⟩ = some (.int .i64 ((rd_T68 l0_5 x10_4).f17)) ∧ w'.cell? ⟨(ad157.add ((x10_4).toNat * 20)).block, (ad157.add ((x10_4).toNat * 20)).off + 18, none⟩ = some (.int .i64 ((rd_T68 l0_5 x10_4).f18)) ∧ w'.cell? ⟨(ad157.add ((x10_4).toNat * 20)).block, (ad157.add ((x10_4).toNat * 20)).off + 19, none⟩ = some (.string ((rd_T68 l0_5 x10_4).f19)) ∧ w'.cell? (ad157.add ((x10_4).toNat * 20)) = some (.int .i64 ((rd_T68 l0_5 x10_4).f0)) ∧ w'.cell? ⟨(ad157.add ((x10_4).toNat * 20)).block, (ad157.add ((x10_4).toNat * 20)).off + 1, none⟩ = some (.int .i64 ((rd_T68 l0_5 x10_4).f1)) ∧ w'.cell? ⟨(ad157.add ((x10_4).toNat * 20)).block, (ad157.add ((x10_4).toNat * 20)).off + 2, none⟩ = some (.string ((rd_T68 l0_5 x10_4).f2)) ∧ w'.cell? ⟨(ad157.add ((x10_4).toNat * 20)).block, (ad157.add ((x10_4).toNat * 20)).off + 3, none⟩ = some (.string ((rd_T68 l0_5 x10_4).f3)) ∧ w'.cell? ⟨(ad157.add ((x10_4).toNat * 20)).block, (ad157.add ((x10_4).toNat * 20)).off + 4, none⟩ = some (.string ((rd_T68 l0_5 x10_4).f4)) ∧ w'.cell? ⟨(ad157.add ((x10_4).toNat * 20)).block, (ad157.add ((x10_4).toNat * 20)).off + 5, none⟩ = some (.int .i64 ((rd_T68 l0_5 x10_4).f5)) ∧ w'.cell? ⟨(ad157.add ((x10_4).toNat * 20)).block, (ad157.add ((x10_4).toNat * 20)).off + 6, none⟩ = some (.int .i64 ((rd_T68 l0_5 x10_4).f6)) ∧ w'.cell? ⟨(ad157.add ((x10_4).toNat * 20)).block, (ad157.add ((x10_4).toNat * 20)).off + 7, none⟩ = some (.int .i64 ((rd_T68 l0_5 x10_4).f7)) ∧ w'.cell? ⟨(ad157.add ((x10_4).toNat * 20)).block, (ad157.add ((x10_4).toNat * 20)).off + 8, none⟩ = some (.int .i64 ((rd_T68 l0_5 x10_4).f8)) ∧ w'.cell? ⟨(ad157.add ((x10_4).toNat * 20)).block, (ad157.add ((x10_4).toNat * 20)).off + 9, none⟩ = some (.bool ((rd_T68 l0_5 x10_4).f9)) ∧ w'.cell? ⟨(ad157.add ((x10_4).toNat * 20)).block, (ad157.add ((x10_4).toNat * 20)).off + 10, none⟩ = some (.int .i64 ((rd_T68 l0_5 x10_4).f10)) ∧ w'.cell? ⟨(ad157.add ((x10_4).toNat * 20)).block, (ad157.add ((x10_4).toNat * 20)).off + 11, none⟩ = some (.int .i64 ((rd_T68 l0_5 x10_4).f11)) ∧ w'.cell? ⟨(ad157.add ((x10_4).toNat * 20)).block, (ad157.add ((x10_4).toNat * 20)).off + 12, none⟩ = some (.int .i64 ((rd_T68 l0_5 x10_4).f12)) ∧ w'.cell? ⟨(ad157.add ((x10_4).toNat * 20)).block, (ad157.add ((x10_4).toNat * 20)).off + 13, none⟩ = some (.string ((rd_T68 l0_5 x10_4).f13)) ∧ w'.cell? ⟨(ad157.add ((x10_4).toNat * 20)).block, (ad157.add ((x10_4).toNat * 20)).off + 14, none⟩ = some (.int .i64 ((rd_T68 l0_5 x10_4).f14)) ∧ w'.cell? ⟨(ad157.add ((x10_4).toNat * 20)).block, (ad157.add ((x10_4).toNat * 20)).off + 15, none⟩ = some (.int .i64 ((rd_T68 l0_5 x10_4).f15)) ∧ w'.cell? ⟨(ad157.add ((x10_4).toNat * 20)).block, (ad157.add ((x10_4).toNat * 20)).off + 16, none⟩ = some (.string ((rd_T68 l0_5 x10_4).f16)) ∧ w'.cell? ⟨(ad157.add ((x10_4).toNat * 20)).block, (ad157.add ((x10_4).toNat * 20)).off + 17, none⟩ = some (.int .i64 ((rd_T68 l0_5 x10_4).f17)) ∧ w'.cell? ⟨(ad157.add ((x10_4).toNat * 20)).block, (ad157.add ((x10_4).toNat * 20)).off + 18, none⟩ = some (.int .i64 ((rd_T68 l0_5 x10_4).f18)) ∧ w'.cell? ⟨(ad157.add ((x10_4).toNat * 20)).block, (ad157.add ((x10_4).toNat * 20)).off + 19, none⟩ = some (.string ((rd_T68 l0_5 x10_4).f19)) ∧ w'.cell? (ad157.add ((x10_4).toNat * 20)) = some (.int .i64 ((rd_T68 l0_5 x10_4).f0)) ∧ w'.cell? ⟨(ad157.add ((x10_4).toNat * 20)).block, (ad157.add ((x10_4).toNat * 20)).off + 1, none⟩ = some (.int .i64 ((rd_T68 l0_5 x10_4).f1)) ∧ w'.cell? ⟨(ad157.add ((x10_4).toNat * 20)).block, (ad157.add ((x10_4).toNat * 20)).off + 2, none⟩ = some (.string ((rd_T68 l0_5 x10_4).f2)) ∧ w'.cell? ⟨(ad157.add ((x10_4).toNat * 20)).block, (ad157.add ((x10_4).toNat * 20)).off + 3, none⟩ = some (.string ((rd_T68 l0_5 x10_4).f3)) ∧ w'.cell? ⟨(ad157.add ((x10_4).toNat * 20)).block, (ad157.add ((x10_4).toNat * 20)).off + 4, none⟩ = some (.string ((rd_T68 l0_5 x10_4).f4)) ∧ w'.cell? ⟨(ad157.add ((x10_4).toNat * 20)).block, (ad157.add ((x10_4).toNat * 20)).off + 5, none⟩ = some (.int .i64 ((rd_T68 l0_5 x10_4).f5)) ∧ w'.cell? ⟨(ad157.add ((x10_4).toNat * 20)).block, (ad157.add ((x10_4).toNat * 20)).off + 6, none⟩ = some (.int .i64 ((rd_T68 l0_5 x10_4).f6)) ∧ w'.cell? ⟨(ad157.add ((x10_4).toNat * 20)).block, (ad157.add ((x10_4).toNat * 20)).off + 7, none⟩ = some (.int .i64 ((rd_T68 l0_5 x10_4).f7)) ∧ w'.cell? ⟨(ad157.add ((x10_4).toNat * 20)).block, (ad157.add ((x10_4).toNat * 20)).off + 8, none⟩ = some (.int .i64 ((rd_T68 l0_5 x10_4).f8)) ∧ w'.cell? ⟨(ad157.add ((x10_4).toNat * 20)).block, (ad157.add ((x10_4).toNat * 20)).off + 9, none⟩ = some (.bool ((rd_T68 l0_5 x10_4).f9)) ∧ w'.cell? ⟨(ad157.add ((x10_4).toNat * 20)).block, (ad157.add ((x10_4).toNat * 20)).off + 10, none⟩ = some (.int .i64 ((rd_T68 l0_5 x10_4).f10)) ∧ w'.cell? ⟨(ad157.add ((x10_4).toNat * 20)).block, (ad157.add ((x10_4).toNat * 20)).off + 11, none⟩ = some (.int .i64 ((rd_T68 l0_5 x10_4).f11)) ∧ w'.cell? ⟨(ad157.add ((x10_4).toNat * 20)).block, (ad157.add ((x10_4).toNat * 20)).off + 12, none⟩ = some (.int .i64 ((rd_T68 l0_5 x10_4).f12)) ∧ w'.cell? ⟨(ad157.add ((x10_4).toNat * 20)).block, (ad157.add ((x10_4).toNat * 20)).off + 13, none⟩ = some (.string ((rd_T68 l0_5 x10_4).f13)) ∧ w'.cell? ⟨(ad157.add ((x10_4).toNat * 20)).block, (ad157.add ((x10_4).toNat * 20)).off + 14, none⟩ = some (.int .i64 ((rd_T68 l0_5 x10_4).f14)) ∧ w'.cell? ⟨(ad157.add ((x10_4).toNat * 20)).block, (ad157.add ((x10_4).toNat * 20)).off + 15, none⟩ = some (.int .i64 ((rd_T68 l0_5 x10_4).f15)) ∧ w'.cell? ⟨(ad157.add ((x10_4).toNat * 20)).block, (ad157.add ((x10_4).toNat * 20)).off + 16, none⟩ = some (.string ((rd_T68 l0_5 x10_4).f16)) ∧ w'.cell? ⟨(ad157.add ((x10_4).toNat * 20)).block, (ad157.add ((x10_4).toNat * 20)).off + 17, none⟩ = some (.int .i64 ((rd_T68 l0_5 x10_4).f17)) ∧ w'.cell? ⟨(ad157.add ((x10_4).toNat * 20)).block, (ad157.add ((x10_4).toNat * 20)).off + 18, none⟩ = some (.int .i64 ((rd_T68 l0_5 x10_4).f18)) ∧ w'.cell? ⟨(ad157.add ((x10_4).toNat * 20)).block, (ad157.add ((x10_4).toNat * 20)).off + 19, none⟩ = some (.string ((rd_T68 l0_5 x10_4).f19))) (ds := []) #[false, false, false, false, false, false, false, false, false, false, false, false, false, false, false, false, false, false, false, false, false, false, false, false, false, false, false, false, false, false, false, false] (by kernel_rfl) rfl rfl ⟨(blk_cell BK153.out 0).trans rfl, (blk_cell BK153.out 1).trans rfl, (blk_cell BK153.out 2).trans rfl, (blk_cell BK153.out 3).trans rfl, (blk_cell BK153.out 4).trans rfl, (blk_cell BK153.out 5).trans rfl, (blk_cell BK158.out 0).trans rfl, (blk_cell BK158.out 1).trans rfl, (blk_cell BK158.out 2).trans rfl, (blk_cell BK158.out 3).trans rfl, (blk_cell BK158.out 4).trans rfl, (blk_cell BK158.out 5).trans rfl, (blk_cell BK158.out 6).trans rfl, (blk_cell BK158.out 7).trans rfl, (blk_cell BK158.out 8).trans rfl, (blk_cell BK158.out 9).trans rfl, (blk_cell BK158.out 10).trans rfl, (blk_cell BK158.out 11).trans rfl, (blk_cell BK158.out 12).trans rfl, (blk_cell BK158.out 13).trans rfl, (blk_cell BK158.out 14).trans rfl, (blk_cell BK158.out 15).trans rfl, (blk_cell BK158.out 16).trans rfl, (blk_cell BK158.out 17).trans rfl, (blk_cell BK158.out 18).trans rfl, (blk_cell BK158.out 19).trans rfl, ((HB.out.cell (World.block_lt_of_cell? w _ hw160_0)).trans hw160_0), ((HB.out.cell (World.block_lt_of_cell? w _ hw160_1)).trans hw160_1), ((HB.out.cell (World.block_lt_of_cell? w _ hw160_2)).trans hw160_2), ((HB.out.cell (World.block_lt_of_cell? w _ hw160_3)).trans hw160_3), ((HB.out.cell (World.block_lt_of_cell? w _ hw160_4)).trans hw160_4), ((HB.out.cell (World.block_lt_of_cell? w _ hw160_5)).trans hw160_5), ((HB.out.cell (World.block_lt_of_cell? w _ hw160_6)).trans hw160_6), ((HB.out.cell (World.block_lt_of_cell? w _ hw160_7)).trans hw160_7), ((HB.out.cell (World.block_lt_of_cell? w _ hw160_8)).trans hw160_8), ((HB.out.cell (World.block_lt_of_cell? w _ hw160_9)).trans hw160_9), ((HB.out.cell (World.block_lt_of_cell? w _ hw160_10)).trans hw160_10), ((HB.out.cell (World.block_lt_of_cell? w _ hw160_11)).trans hw160_11), ((HB.out.cell (World.block_lt_of_cell? w _ hw160_12)).trans hw160_12), ((HB.out.cell (World.block_lt_of_cell? w _ hw160_13)).trans hw160_13), ((HB.out.cell (World.block_lt_of_cell? w _ hw160_14)).trans hw160_14), ((HB.out.cell (World.block_lt_of_cell? w _ hw160_15)).trans hw160_15), ((HB.out.cell (World.block_lt_of_cell? w _ hw160_16)).trans hw160_16), ((HB.out.cell (World.block_lt_of_cell? w _ hw160_17)).trans hw160_17), ((HB.out.cell (World.block_lt_of_cell? w _ hw160_18)).trans hw160_18), ((HB.out.cell (World.block_lt_of_cell? w _ hw160_19)).trans hw160_19), ((HB.out.cell (World.block_lt_of_cell? w _ hw162_0)).trans hw162_0), ((HB.out.cell (World.block_lt_of_cell? w _ hw162_1)).trans hw162_1), ((HB.out.cell (World.block_lt_of_cell? w _ hw162_2)).trans hw162_2), ((HB.out.cell (World.block_lt_of_cell? w _ hw162_3)).trans hw162_3), ((HB.out.cell (World.block_lt_of_cell? w _ hw162_4)).trans hw162_4), ((HB.out.cell (World.block_lt_of_cell? w _ hw162_5)).trans hw162_5), ((HB.out.cell (World.block_lt_of_cell? w _ hw162_6)).trans hw162_6), ((HB.out.cell (World.block_lt_of_cell? w _ hw162_7)).trans hw162_7), ((HB.out.cell (World.block_lt_of_cell? w _ hw162_8)).trans hw162_8), ((HB.out.cell (World.block_lt_of_cell? w _ hw162_9)).trans hw162_9), ((HB.out.cell (World.block_lt_of_cell? w _ hw162_10)).trans hw162_10), ((HB.out.cell (World.block_lt_of_cell? w _ hw162_11)).trans hw162_11), ((HB.out.cell (World.block_lt_of_cell? w _ hw162_12)).trans hw162_12), ((HB.out.cell (World.block_lt_of_cell? w _ hw162_13)).trans hw162_13), ((HB.out.cell (World.block_lt_of_cell? w _ hw162_14)).trans hw162_14), ((HB.out.cell (World.block_lt_of_cell? w _ hw162_15)).trans hw162_15), ((HB.out.cell (World.block_lt_of_cell? w _ hw162_16)).trans hw162_16), ((HB.out.cell (World.block_lt_of_cell? w _ hw162_17)).trans hw162_17), ((HB.out.cell (World.block_lt_of_cell? w _ hw162_18)).trans hw162_18), ((HB.out.cell (World.block_lt_of_cell? w _ hw162_19)).trans hw162_19), ((HB.out.cell (World.block_lt_of_cell? w _ hw163_0)).trans hw163_0), ((HB.out.cell (World.block_lt_of_cell? w _ hw163_1)).trans hw163_1), ((HB.out.cell (World.block_lt_of_cell? w _ hw163_2)).trans hw163_2), ((HB.out.cell (World.block_lt_of_cell? w _ hw163_3)).trans hw163_3), ((HB.out.cell (World.block_lt_of_cell? w _ hw163_4)).trans hw163_4), ((HB.out.cell (World.block_lt_of_cell? w _ hw163_5)).trans hw163_5), ((HB.out.cell (World.block_lt_of_cell? w _ hw163_6)).trans hw163_6), ((HB.out.cell (World.block_lt_of_cell? w _ hw163_7)).trans hw163_7), ((HB.out.cell (World.block_lt_of_cell? w _ hw163_8)).trans hw163_8), ((HB.out.cell (World.block_lt_of_cell? w _ hw163_9)).trans hw163_9), ((HB.out.cell (World.block_lt_of_cell? w _ hw163_10)).trans hw163_10), ((HB.out.cell (World.block_lt_of_cell? w _ hw163_11)).trans hw163_11), ((HB.out.cell (World.block_lt_of_cell? w _ hw163_12)).trans hw163_12), ((HB.out.cell (World.block_lt_of_cell? w _ hw163_13)).trans hw163_13), ((HB.out.cell (World.block_lt_of_cell? w _ hw163_14)).trans hw163_14), ((HB.out.cell (World.block_lt_of_cell? w _ hw163_15)).trans hw163_15), ((HB.out.cell (World.block_lt_of_cell? w _ hw163_16)).trans hw163_16), ((HB.out.cell (World.block_lt_of_cell? w _ hw163_17)).trans hw163_17), ((HB.out.cell (World.block_lt_of_cell? w _ hw163_18)).trans hw163_18), ((HB.out.cell (World.block_lt_of_cell? w _ hw163_19)).trans hw163_19)⟩ (fun hHeld => ?_); refine with_tabW newsreelref43_Of.tab14 newsreelref43_Of.bits14 (fun HT_ HW_ => ?_)
    generalize wr.drew = w49 at BK153 BK154 BK158 HB hx160_0 hx160_1 hx160_10 hx160_11 hx160_12 hx160_13 hx160_14 hx160_15 hx160_16 hx160_17 hx160_18 hx160_19 hx160_2 hx160_3 hx160_4 hx160_5 hx160_6 hx160_7 hx160_8 hx160_9 hx162_0 hx162_1 hx162_10 hx162_11 hx162_12 hx162_13 hx162_14 hx162_15 hx162_16 hx162_17 hx162_18 hx162_19 hx162_2 hx162_3 hx162_4 hx162_5 hx162_6 hx162_7 hx162_8 hx162_9 hx163_0 hx163_1 hx163_10 hx163_11 hx163_12 hx163_13 hx163_14 hx163_15 hx163_16 hx163_17 hx163_18 hx163_19 hx163_2 hx163_3 hx163_4 hx163_5 hx163_6 hx163_7 hx163_8 hx163_9 hHeld ⊢
    refine pure_ (i := 0) (N := some 56) (v := ?_) (a' := ?_) #[true, false, false, false, false, false, false, false, false, false, false, false, false, false, false, false, false, false, false, false, false, false, false, false, false, false, false, false, false, false, false, false] rfl rfl (any_of HT_.out (by kernel_rfl)) (fun _ _ _ h => h) (Or.inl ⟨by rfl, ?_⟩) ?_ ?_
    rotate_left
    · intro w'
      go_simp
      with_reducible rfl
    rotate_left
    · simp only [Act.put, List.setIfInBounds_toArray, List.set_cons_zero, List.set_cons_succ, i64_w, i32_w]
      rfl
    refine pure_ (i := 1) (N := some 57) (v := ?_) (a' := ?_) #[true, true, false, false, false, false, false, false, false, false, false, false, false, false, false, false, false, false, false, false, false, false, false, false, false, false, false, false, false, false, false, false] rfl rfl (any_of HT_.out (by kernel_rfl)) (fun _ _ _ h => h) (Or.inl ⟨by rfl, ?_⟩) ?_ ?_
    rotate_left
    · intro w'
      go_simp
      with_reducible rfl
    rotate_left
    · simp only [Act.put, List.setIfInBounds_toArray, List.set_cons_zero, List.set_cons_succ, i64_w, i32_w]
      rfl
    refine pure_ (i := 2) (N := some 58) (v := ?_) (a' := ?_) #[true, true, true, false, false, false, false, false, false, false, false, false, false, false, false, false, false, false, false, false, false, false, false, false, false, false, false, false, false, false, false, false] rfl rfl (any_of HT_.out (by kernel_rfl)) (fun _ _ _ h => h) (Or.inl ⟨by rfl, ?_⟩) ?_ ?_
    rotate_left
    · intro w'
      go_simp
      with_reducible rfl
    rotate_left
    · simp only [Act.put, List.setIfInBounds_toArray, List.set_cons_zero, List.set_cons_succ, i64_w, i32_w]
      rfl
    refine pure_ (i := 4) (N := some 60) (v := ?_) (a' := ?_) #[true, true, true, false, true, false, false, false, false, false, false, false, false, false, false, false, false, false, false, false, false, false, false, false, false, false, false, false, false, false, false, false] rfl rfl (any_of HT_.out (by kernel_rfl)) (fun _ _ _ h => h) (Or.inl ⟨by rfl, ?_⟩) ?_ ?_
    rotate_left
    · intro w'
      go_simp
      with_reducible rfl
    rotate_left
    · simp only [Act.put, List.setIfInBounds_toArray, List.set_cons_zero, List.set_cons_succ, i64_w, i32_w]
      rfl
    refine take_ (i := 3) (N := some 59) (v := ?_) (a' := ?_) #[true, true, true, true, true, false, false, false, false, false, false, false, false, false, false, false, false, false, false, false, false, false, false, false, false, false, false, false, false, false, false, false] rfl rfl (take_ofW HT_.out HW_.out (by kernel_rfl)) (fun _ _ _ h => h) (Or.inl ⟨by rfl, ?_⟩) hHeld ?_ ?_
    rotate_left
    · rintro w' ⟨s0, s1, s2, s3, s4, s5, s6, s7, s8, s9, s10, s11, s12, s13, s14, s15, s16, s17, s18, s19, s20, s21, s22, s23, s24, s25, s26, s27, s28, s29, s30, s31, s32, s33, s34, s35, s36, s37, s38, s39, s40, s41, s42, s43, s44, s45, s46, s47, s48, s49, s50, s51, s52, s53, s54, s55, s56, s57, s58, s59, s60, s61, s62, s63, s64, s65, s66, s67, s68, s69, s70, s71, s72, s73, s74, s75, s76, s77, s78, s79, s80, s81, s82, s83, s84, s85⟩
      go_simp
      with_reducible rfl
    rotate_left
    · simp only [Act.put, List.setIfInBounds_toArray, List.set_cons_zero, List.set_cons_succ, i64_w, i32_w]
      rfl
    refine pure_ (i := 5) (N := some 61) (v := ?_) (a' := ?_) #[true, true, true, true, true, true, false, false, false, false, false, false, false, false, false, false, false, false, false, false, false, false, false, false, false, false, false, false, false, false, false, false] rfl rfl (any_of HT_.out (by kernel_rfl)) (fun _ _ _ h => h) (Or.inl ⟨by rfl, ?_⟩) ?_ ?_
    rotate_left
    · intro w'
      go_simp
      with_reducible rfl
    rotate_left
    · simp only [Act.put, List.setIfInBounds_toArray, List.set_cons_zero, List.set_cons_succ, i64_w, i32_w]
      rfl
    refine take_ (i := 6) (N := some 62) (v := ?_) (a' := ?_) #[true, true, true, true, true, true, true, false, false, false, false, false, false, false, false, false, false, false, false, false, false, false, false, false, false, false, false, false, false, false, false, false] rfl rfl (take_ofW HT_.out HW_.out (by kernel_rfl)) (fun _ _ _ h => h) (Or.inl ⟨by rfl, ?_⟩) hHeld ?_ ?_
    rotate_left
    · rintro w' ⟨s0, s1, s2, s3, s4, s5, s6, s7, s8, s9, s10, s11, s12, s13, s14, s15, s16, s17, s18, s19, s20, s21, s22, s23, s24, s25, s26, s27, s28, s29, s30, s31, s32, s33, s34, s35, s36, s37, s38, s39, s40, s41, s42, s43, s44, s45, s46, s47, s48, s49, s50, s51, s52, s53, s54, s55, s56, s57, s58, s59, s60, s61, s62, s63, s64, s65, s66, s67, s68, s69, s70, s71, s72, s73, s74, s75, s76, s77, s78, s79, s80, s81, s82, s83, s84, s85⟩
      first | (have hz_ := fun (a : Act) (o : Oper) (x : Operand) (ho : o.op = .load 68 x) (hx : a.eval x = _) => exec_load_at (P := Try.prog) (W := w') (cs := [_, _, _, _, _, _, _, _, _, _, _, _, _, _, _, _, _, _, _]) ho hx Try.underlying68 rfl (by kernel_rfl) s6 ⟨s7, s8, s9, s10, s11, s12, s13, s14, s15, s16, s17, s18, s19, s20, s21, s22, s23, s24, s25, trivial⟩; refine (hz_ _ _ (.tmp 61) ?_ ?_).trans ?_; (focus rfl); (focus (first | (with_reducible rfl) | (go_simp; done))); with_reducible rfl) | (have hz_ := fun (a : Act) (o : Oper) (x : Operand) (ho : o.op = .load 68 x) (hx : a.eval x = _) => exec_load_at (P := Try.prog) (W := w') (cs := [_, _, _, _, _, _, _, _, _, _, _, _, _, _, _, _, _, _, _]) ho hx Try.underlying68 rfl (by kernel_rfl) s26 ⟨s27, s28, s29, s30, s31, s32, s33, s34, s35, s36, s37, s38, s39, s40, s41, s42, s43, s44, s45, trivial⟩; refine (hz_ _ _ (.tmp 61) ?_ ?_).trans ?_; (focus rfl); (focus (first | (with_reducible rfl) | (go_simp; done))); with_reducible rfl) | (have hz_ := fun (a : Act) (o : Oper) (x : Operand) (ho : o.op = .load 68 x) (hx : a.eval x = _) => exec_load_at (P := Try.prog) (W := w') (cs := [_, _, _, _, _, _, _, _, _, _, _, _, _, _, _, _, _, _, _]) ho hx Try.underlying68 rfl (by kernel_rfl) s46 ⟨s47, s48, s49, s50, s51, s52, s53, s54, s55, s56, s57, s58, s59, s60, s61, s62, s63, s64, s65, trivial⟩; refine (hz_ _ _ (.tmp 61) ?_ ?_).trans ?_; (focus rfl); (focus (first | (with_reducible rfl) | (go_simp; done))); with_reducible rfl) | (have hz_ := fun (a : Act) (o : Oper) (x : Operand) (ho : o.op = .load 68 x) (hx : a.eval x = _) => exec_load_at (P := Try.prog) (W := w') (cs := [_, _, _, _, _, _, _, _, _, _, _, _, _, _, _, _, _, _, _]) ho hx Try.underlying68 rfl (by kernel_rfl) s66 ⟨s67, s68, s69, s70, s71, s72, s73, s74, s75, s76, s77, s78, s79, s80, s81, s82, s83, s84, s85, trivial⟩; refine (hz_ _ _ (.tmp 61) ?_ ?_).trans ?_; (focus rfl); (focus (first | (with_reducible rfl) | (go_simp; done))); with_reducible rfl) | (go_simp; with_reducible rfl)
    rotate_left
    · simp only [Act.put, List.setIfInBounds_toArray, List.set_cons_zero, List.set_cons_succ, i64_w, i32_w]
      rfl
    refine one_ (i := 7) (N := some 63) #[true, true, true, true, true, true, true, true, false, false, false, false, false, false, false, false, false, false, false, false, false, false, false, false, false, false, false, false, false, false, false, false] rfl rfl (one_of HT_.out (by kernel_rfl)) (by decide) (fun K hK => ?_)
    refine goes_ Try.func43 (by kernel_rfl) rfl #[.agg #[.int .i64 ((rd_T68 l0_5 x10_4).f0), .int .i64 ((rd_T68 l0_5 x10_4).f1), .string ((rd_T68 l0_5 x10_4).f2), .string ((rd_T68 l0_5 x10_4).f3), .string ((rd_T68 l0_5 x10_4).f4), .int .i64 ((rd_T68 l0_5 x10_4).f5), .int .i64 ((rd_T68 l0_5 x10_4).f6), .int .i64 ((rd_T68 l0_5 x10_4).f7), .int .i64 ((rd_T68 l0_5 x10_4).f8), .bool ((rd_T68 l0_5 x10_4).f9), .int .i64 ((rd_T68 l0_5 x10_4).f10), .int .i64 ((rd_T68 l0_5 x10_4).f11), .int .i64 ((rd_T68 l0_5 x10_4).f12), .string ((rd_T68 l0_5 x10_4).f13), .int .i64 ((rd_T68 l0_5 x10_4).f14), .int .i64 ((rd_T68 l0_5 x10_4).f15), .string ((rd_T68 l0_5 x10_4).f16), .int .i64 ((rd_T68 l0_5 x10_4).f17), .int .i64 ((rd_T68 l0_5 x10_4).f18), .string ((rd_T68 l0_5 x10_4).f19)]] (by rfl) rfl rfl (by (try simp only [List.map_toArray, List.map_cons, List.map_nil]); first | done | rfl | (simp only [List.length_drop, List.length_take]; rfl)) ?_
    with_reducible refine (newsreelref43_Waits.calls ((rd_T68 l0_5 x10_4).f0) ((rd_T68 l0_5 x10_4).f1) ((rd_T68 l0_5 x10_4).f2) ((rd_T68 l0_5 x10_4).f3) ((rd_T68 l0_5 x10_4).f4) ((rd_T68 l0_5 x10_4).f5) ((rd_T68 l0_5 x10_4).f6) ((rd_T68 l0_5 x10_4).f7) ((rd_T68 l0_5 x10_4).f8) ((rd_T68 l0_5 x10_4).f9) ((rd_T68 l0_5 x10_4).f10) ((rd_T68 l0_5 x10_4).f11) ((rd_T68 l0_5 x10_4).f12) ((rd_T68 l0_5 x10_4).f13) ((rd_T68 l0_5 x10_4).f14) ((rd_T68 l0_5 x10_4).f15) ((rd_T68 l0_5 x10_4).f16) ((rd_T68 l0_5 x10_4).f17) ((rd_T68 l0_5 x10_4).f18) ((rd_T68 l0_5 x10_4).f19) true _ A43.out).mono ?_
    rintro e w50 ⟨rfl, hb⟩
    have hbk_w50 := Aside0.mk hb
    refine ⟨_, rfl, ?_⟩
    have n0_ := Aside0.mk (blk_below (blk_y BK153.out) hb)
    have n1_ := Aside0.mk (blk_below (blk_y BK154.out) hb)
    have n2_ := Aside0.mk (blk_below (blk_y BK158.out) hb)
    have n3_ := Aside0.mk (below_step (below_y HB.out) hb)
    clear BK153
    clear BK154
    clear BK158
    clear HB
    have BK153 := n0_
    have BK154 := n1_
    have BK158 := n2_
    have HB := n3_
    clear n0_ n1_ n2_ n3_
    (try clear hb)
    (try clear hb2)
    (try clear hk)
    (try clear hi)
    refine hK.out _ _ ⟨(blk_cell BK153.out 0).trans rfl, (blk_cell BK153.out 1).trans rfl, (blk_cell BK153.out 2).trans rfl, (blk_cell BK153.out 3).trans rfl, (blk_cell BK153.out 4).trans rfl, (blk_cell BK153.out 5).trans rfl, (blk_cell BK158.out 0).trans rfl, (blk_cell BK158.out 1).trans rfl, (blk_cell BK158.out 2).trans rfl, (blk_cell BK158.out 3).trans rfl, (blk_cell BK158.out 4).trans rfl, (blk_cell BK158.out 5).trans rfl, (blk_cell BK158.out 6).trans rfl, (blk_cell BK158.out 7).trans rfl, (blk_cell BK158.out 8).trans rfl, (blk_cell BK158.out 9).trans rfl, (blk_cell BK158.out 10).trans rfl, (blk_cell BK158.out 11).trans rfl, (blk_cell BK158.out 12).trans rfl, (blk_cell BK158.out 13).trans rfl, (blk_cell BK158.out 14).trans rfl, (blk_cell BK158.out 15).trans rfl, (blk_cell BK158.out 16).trans rfl, (blk_cell BK158.out 17).trans rfl, (blk_cell BK158.out 18).trans rfl, (blk_cell BK158.out 19).trans rfl, ((HB.out.cell (World.block_lt_of_cell? w _ hw160_0)).trans hw160_0), ((HB.out.cell (World.block_lt_of_cell? w _ hw160_1)).trans hw160_1), ((HB.out.cell (World.block_lt_of_cell? w _ hw160_2)).trans hw160_2), ((HB.out.cell (World.block_lt_of_cell? w _ hw160_3)).trans hw160_3), ((HB.out.cell (World.block_lt_of_cell? w _ hw160_4)).trans hw160_4), ((HB.out.cell (World.block_lt_of_cell? w _ hw160_5)).trans hw160_5), ((HB.out.cell (World.block_lt_of_cell? w _ hw160_6)).trans hw160_6), ((HB.out.cell (World.block_lt_of_cell? w _ hw160_7)).trans hw160_7), ((HB.out.cell (World.block_lt_of_cell? w _ hw160_8)).trans hw160_8), ((HB.out.cell (World.block_lt_of_cell? w _ hw160_9)).trans hw160_9), ((HB.out.cell (World.block_lt_of_cell? w _ hw160_10)).trans hw160_10), ((HB.out.cell (World.block_lt_of_cell? w _ hw160_11)).trans hw160_11), ((HB.out.cell (World.block_lt_of_cell? w _ hw160_12)).trans hw160_12), ((HB.out.cell (World.block_lt_of_cell? w _ hw160_13)).trans hw160_13), ((HB.out.cell (World.block_lt_of_cell? w _ hw160_14)).trans hw160_14), ((HB.out.cell (World.block_lt_of_cell? w _ hw160_15)).trans hw160_15), ((HB.out.cell (World.block_lt_of_cell? w _ hw160_16)).trans hw160_16), ((HB.out.cell (World.block_lt_of_cell? w _ hw160_17)).trans hw160_17), ((HB.out.cell (World.block_lt_of_cell? w _ hw160_18)).trans hw160_18), ((HB.out.cell (World.block_lt_of_cell? w _ hw160_19)).trans hw160_19), ((HB.out.cell (World.block_lt_of_cell? w _ hw162_0)).trans hw162_0), ((HB.out.cell (World.block_lt_of_cell? w _ hw162_1)).trans hw162_1), ((HB.out.cell (World.block_lt_of_cell? w _ hw162_2)).trans hw162_2), ((HB.out.cell (World.block_lt_of_cell? w _ hw162_3)).trans hw162_3), ((HB.out.cell (World.block_lt_of_cell? w _ hw162_4)).trans hw162_4), ((HB.out.cell (World.block_lt_of_cell? w _ hw162_5)).trans hw162_5), ((HB.out.cell (World.block_lt_of_cell? w _ hw162_6)).trans hw162_6), ((HB.out.cell (World.block_lt_of_cell? w _ hw162_7)).trans hw162_7), ((HB.out.cell (World.block_lt_of_cell? w _ hw162_8)).trans hw162_8), ((HB.out.cell (World.block_lt_of_cell? w _ hw162_9)).trans hw162_9), ((HB.out.cell (World.block_lt_of_cell? w _ hw162_10)).trans hw162_10), ((HB.out.cell (World.block_lt_of_cell? w _ hw162_11)).trans hw162_11), ((HB.out.cell (World.block_lt_of_cell? w _ hw162_12)).trans hw162_12), ((HB.out.cell (World.block_lt_of_cell? w _ hw162_13)).trans hw162_13), ((HB.out.cell (World.block_lt_of_cell? w _ hw162_14)).trans hw162_14), ((HB.out.cell (World.block_lt_of_cell? w _ hw162_15)).trans hw162_15), ((HB.out.cell (World.block_lt_of_cell? w _ hw162_16)).trans hw162_16), ((HB.out.cell (World.block_lt_of_cell? w _ hw162_17)).trans hw162_17), ((HB.out.cell (World.block_lt_of_cell? w _ hw162_18)).trans hw162_18), ((HB.out.cell (World.block_lt_of_cell? w _ hw162_19)).trans hw162_19), ((HB.out.cell (World.block_lt_of_cell? w _ hw163_0)).trans hw163_0), ((HB.out.cell (World.block_lt_of_cell? w _ hw163_1)).trans hw163_1), ((HB.out.cell (World.block_lt_of_cell? w _ hw163_2)).trans hw163_2), ((HB.out.cell (World.block_lt_of_cell? w _ hw163_3)).trans hw163_3), ((HB.out.cell (World.block_lt_of_cell? w _ hw163_4)).trans hw163_4), ((HB.out.cell (World.block_lt_of_cell? w _ hw163_5)).trans hw163_5), ((HB.out.cell (World.block_lt_of_cell? w _ hw163_6)).trans hw163_6), ((HB.out.cell (World.block_lt_of_cell? w _ hw163_7)).trans hw163_7), ((HB.out.cell (World.block_lt_of_cell? w _ hw163_8)).trans hw163_8), ((HB.out.cell (World.block_lt_of_cell? w _ hw163_9)).trans hw163_9), ((HB.out.cell (World.block_lt_of_cell? w _ hw163_10)).trans hw163_10), ((HB.out.cell (World.block_lt_of_cell? w _ hw163_11)).trans hw163_11), ((HB.out.cell (World.block_lt_of_cell? w _ hw163_12)).trans hw163_12), ((HB.out.cell (World.block_lt_of_cell? w _ hw163_13)).trans hw163_13), ((HB.out.cell (World.block_lt_of_cell? w _ hw163_14)).trans hw163_14), ((HB.out.cell (World.block_lt_of_cell? w _ hw163_15)).trans hw163_15), ((HB.out.cell (World.block_lt_of_cell? w _ hw163_16)).trans hw163_16), ((HB.out.cell (World.block_lt_of_cell? w _ hw163_17)).trans hw163_17), ((HB.out.cell (World.block_lt_of_cell? w _ hw163_18)).trans hw163_18), ((HB.out.cell (World.block_lt_of_cell? w _ hw163_19)).trans hw163_19)⟩ (fun hHeld => ?_)
    clear hK K
    refine norm_ (a' := ?_) ?_ ?_
    rotate_left
    · show Act.put _ (some 63) _ = _
      simp only [Act.put, List.setIfInBounds_toArray, List.set_cons_zero, List.set_cons_succ, i64_w, i32_w]
      rfl
    refine pure_ (i := 8) (N := some 64) (v := ?_) (a' := ?_) #[true, true, true, true, true, true, true, true, true, false, false, false, false, false, false, false, false, false, false, false, false, false, false, false, false, false, false, false, false, false, false, false] rfl rfl (any_of HT_.out (by kernel_rfl)) (fun _ _ _ h => h) (Or.inl ⟨by rfl, ?_⟩) ?_ ?_
    rotate_left
    · intro w'
      go_simp
      with_reducible rfl
    rotate_left
    · simp only [Act.put, List.setIfInBounds_toArray, List.set_cons_zero, List.set_cons_succ, i64_w, i32_w]
      rfl
    refine pure_ (i := 9) (N := some 65) (v := ?_) (a' := ?_) #[true, true, true, true, true, true, true, true, true, true, false, false, false, false, false, false, false, false, false, false, false, false, false, false, false, false, false, false, false, false, false, false] rfl rfl (any_of HT_.out (by kernel_rfl)) (fun _ _ _ h => h) (Or.inl ⟨by rfl, ?_⟩) ?_ ?_
    rotate_left
    · intro w'
      go_simp
      with_reducible rfl
    rotate_left
    · simp only [Act.put, List.setIfInBounds_toArray, List.set_cons_zero, List.set_cons_succ, i64_w, i32_w]
      rfl
    refine pure_ (i := 11) (N := some 67) (v := ?_) (a' := ?_) #[true, true, true, true, true, true, true, true, true, true, false, true, false, false, false, false, false, false, false, false, false, false, false, false, false, false, false, false, false, false, false, false] rfl rfl (any_of HT_.out (by kernel_rfl)) (fun _ _ _ h => h) (Or.inl ⟨by rfl, ?_⟩) ?_ ?_
    rotate_left
    · intro w'
      go_simp
      with_reducible rfl
    rotate_left
    · simp only [Act.put, List.setIfInBounds_toArray, List.set_cons_zero, List.set_cons_succ, i64_w, i32_w]
      rfl
    refine pure_ (i := 15) (N := some 71) (v := ?_) (a' := ?_) #[true, true, true, true, true, true, true, true, true, true, false, true, false, false, false, true, false, false, false, false, false, false, false, false, false, false, false, false, false, false, false, false] rfl rfl (any_of HT_.out (by kernel_rfl)) (fun _ _ _ h => h) (Or.inl ⟨by rfl, ?_⟩) ?_ ?_
    rotate_left
    · intro w'
      go_simp
      with_reducible rfl
    rotate_left
    · simp only [Act.put, List.setIfInBounds_toArray, List.set_cons_zero, List.set_cons_succ, i64_w, i32_w]
      rfl
    refine take_ (i := 10) (N := some 66) (v := ?_) (a' := ?_) #[true, true, true, true, true, true, true, true, true, true, true, true, false, false, false, true, false, false, false, false, false, false, false, false, false, false, false, false, false, false, false, false] rfl rfl (take_ofW HT_.out HW_.out (by kernel_rfl)) (fun _ _ _ h => h) (Or.inl ⟨by rfl, ?_⟩) hHeld ?_ ?_
    rotate_left
    · rintro w' ⟨s0, s1, s2, s3, s4, s5, s6, s7, s8, s9, s10, s11, s12, s13, s14, s15, s16, s17, s18, s19, s20, s21, s22, s23, s24, s25, s26, s27, s28, s29, s30, s31, s32, s33, s34, s35, s36, s37, s38, s39, s40, s41, s42, s43, s44, s45, s46, s47, s48, s49, s50, s51, s52, s53, s54, s55, s56, s57, s58, s59, s60, s61, s62, s63, s64, s65, s66, s67, s68, s69, s70, s71, s72, s73, s74, s75, s76, s77, s78, s79, s80, s81, s82, s83, s84, s85⟩
      go_simp
      with_reducible rfl
    rotate_left
    · simp only [Act.put, List.setIfInBounds_toArray, List.set_cons_zero, List.set_cons_succ, i64_w, i32_w]
      rfl
    refine pure_ (i := 12) (N := some 68) (v := ?_) (a' := ?_) #[true, true, true, true, true, true, true, true, true, true, true, true, true, false, false, true, false, false, false, false, false, false, false, false, false, false, false, false, false, false, false, false] rfl rfl (any_of HT_.out (by kernel_rfl)) (fun _ _ _ h => h) (Or.inl ⟨by rfl, ?_⟩) ?_ ?_
    rotate_left
    · intro w'
      go_simp
      with_reducible rfl
    rotate_left
    · simp only [Act.put, List.setIfInBounds_toArray, List.set_cons_zero, List.set_cons_succ, i64_w, i32_w]
      rfl
    refine pure_ (i := 13) (N := some 69) (v := ?_) (a' := ?_) #[true, true, true, true, true, true, true, true, true, true, true, true, true, true, false, true, false, false, false, false, false, false, false, false, false, false, false, false, false, false, false, false] rfl rfl (any_of HT_.out (by kernel_rfl)) (fun _ _ _ h => h) (Or.inl ⟨by rfl, ?_⟩) ?_ ?_
    rotate_left
    · intro w'
      go_simp
      with_reducible rfl
    rotate_left
    · simp only [Act.put, List.setIfInBounds_toArray, List.set_cons_zero, List.set_cons_succ, i64_w, i32_w]
      rfl
    refine take_ (i := 14) (N := some 70) (v := ?_) (a' := ?_) #[true, true, true, true, true, true, true, true, true, true, true, true, true, true, true, true, false, false, false, false, false, false, false, false, false, false, false, false, false, false, false, false] rfl rfl (take_ofW HT_.out HW_.out (by kernel_rfl)) (fun _ _ _ h => h) (Or.inl ⟨by rfl, ?_⟩) hHeld ?_ ?_
    rotate_left
    · rintro w' ⟨s0, s1, s2, s3, s4, s5, s6, s7, s8, s9, s10, s11, s12, s13, s14, s15, s16, s17, s18, s19, s20, s21, s22, s23, s24, s25, s26, s27, s28, s29, s30, s31, s32, s33, s34, s35, s36, s37, s38, s39, s40, s41, s42, s43, s44, s45, s46, s47, s48, s49, s50, s51, s52, s53, s54, s55, s56, s57, s58, s59, s60, s61, s62, s63, s64, s65, s66, s67, s68, s69, s70, s71, s72, s73, s74, s75, s76, s77, s78, s79, s80, s81, s82, s83, s84, s85⟩
      go_simp
      with_reducible rfl
    rotate_left
    · simp only [Act.put, List.setIfInBounds_toArray, List.set_cons_zero, List.set_cons_succ, i64_w, i32_w]
      rfl
    refine pure_ (i := 16) (N := some 72) (v := ?_) (a' := ?_) #[true, true, true, true, true, true, true, true, true, true, true, true, true, true, true, true, true, false, false, false, false, false, false, false, false, false, false, false, false, false, false, false] rfl rfl (any_of HT_.out (by kernel_rfl)) (fun _ _ _ h => h) (Or.inl ⟨by rfl, ?_⟩) ?_ ?_
    rotate_left
    · intro w'
      go_simp
      with_reducible rfl
    rotate_left
    · simp only [Act.put, List.setIfInBounds_toArray, List.set_cons_zero, List.set_cons_succ, i64_w, i32_w]
      rfl
    refine pure_ (i := 17) (N := some 73) (v := ?_) (a' := ?_) #[true, true, true, true, true, true, true, true, true, true, true, true, true, true, true, true, true, true, false, false, false, false, false, false, false, false, false, false, false, false, false, false] rfl rfl (any_of HT_.out (by kernel_rfl)) (fun _ _ _ h => h) (Or.inl ⟨by rfl, ?_⟩) ?_ ?_
    rotate_left
    · intro w'
      go_simp
      with_reducible rfl
    rotate_left
    · simp only [Act.put, List.setIfInBounds_toArray, List.set_cons_zero, List.set_cons_succ, i64_w, i32_w]
      rfl
    refine pure_ (i := 18) (N := some 74) (v := ?_) (a' := ?_) #[true, true, true, true, true, true, true, true, true, true, true, true, true, true, true, true, true, true, true, false, false, false, false, false, false, false, false, false, false, false, false, false] rfl rfl (any_of HT_.out (by kernel_rfl)) (fun _ _ _ h => h) (Or.inl ⟨by rfl, ?_⟩) ?_ ?_
    rotate_left
    · intro w'
      go_simp
      with_reducible rfl
    rotate_left
    · simp only [Act.put, List.setIfInBounds_toArray, List.set_cons_zero, List.set_cons_succ, i64_w, i32_w]
      rfl
    refine pure_ (i := 19) (N := some 75) (v := ?_) (a' := ?_) #[true, true, true, true, true, true, true, true, true, true, true, true, true, true, true, true, true, true, true, true, false, false, false, false, false, false, false, false, false, false, false, false] rfl rfl (any_of HT_.out (by kernel_rfl)) (fun _ _ _ h => h) (Or.inl ⟨by rfl, ?_⟩) ?_ ?_
    rotate_left
    · intro w'
      go_simp
      with_reducible rfl
    rotate_left
    · simp only [Act.put, List.setIfInBounds_toArray, List.set_cons_zero, List.set_cons_succ, i64_w, i32_w]
      rfl
    refine pure_ (i := 21) (N := some 77) (v := ?_) (a' := ?_) #[true, true, true, true, true, true, true, true, true, true, true, true, true, true, true, true, true, true, true, true, false, true, false, false, false, false, false, false, false, false, false, false] rfl rfl (any_of HT_.out (by kernel_rfl)) (fun _ _ _ h => h) (Or.inl ⟨by rfl, ?_⟩) ?_ ?_
    rotate_left
    · intro w'
      go_simp
      with_reducible rfl
    rotate_left
    · simp only [Act.put, List.setIfInBounds_toArray, List.set_cons_zero, List.set_cons_succ, i64_w, i32_w]
      rfl
    refine pure_ (i := 25) (N := some 81) (v := ?_) (a' := ?_) #[true, true, true, true, true, true, true, true, true, true, true, true, true, true, true, true, true, true, true, true, false, true, false, false, false, true, false, false, false, false, false, false] rfl rfl (any_of HT_.out (by kernel_rfl)) (fun _ _ _ h => h) (Or.inl ⟨by rfl, ?_⟩) ?_ ?_
    rotate_left
    · intro w'
      go_simp
      with_reducible rfl
    rotate_left
    · simp only [Act.put, List.setIfInBounds_toArray, List.set_cons_zero, List.set_cons_succ, i64_w, i32_w]
      rfl
    refine take_ (i := 20) (N := some 76) (v := ?_) (a' := ?_) #[true, true, true, true, true, true, true, true, true, true, true, true, true, true, true, true, true, true, true, true, true, true, false, false, false, true, false, false, false, false, false, false] rfl rfl (take_ofW HT_.out HW_.out (by kernel_rfl)) (fun _ _ _ h => h) (Or.inl ⟨by rfl, ?_⟩) hHeld ?_ ?_
    rotate_left
    · rintro w' ⟨s0, s1, s2, s3, s4, s5, s6, s7, s8, s9, s10, s11, s12, s13, s14, s15, s16, s17, s18, s19, s20, s21, s22, s23, s24, s25, s26, s27, s28, s29, s30, s31, s32, s33, s34, s35, s36, s37, s38, s39, s40, s41, s42, s43, s44, s45, s46, s47, s48, s49, s50, s51, s52, s53, s54, s55, s56, s57, s58, s59, s60, s61, s62, s63, s64, s65, s66, s67, s68, s69, s70, s71, s72, s73, s74, s75, s76, s77, s78, s79, s80, s81, s82, s83, s84, s85⟩
      go_simp
      with_reducible rfl
    rotate_left
    · simp only [Act.put, List.setIfInBounds_toArray, List.set_cons_zero, List.set_cons_succ, i64_w, i32_w]
      rfl
    refine pure_ (i := 22) (N := some 78) (v := ?_) (a' := ?_) #[true, true, true, true, true, true, true, true, true, true, true, true, true, true, true, true, true, true, true, true, true, true, true, false, false, true, false, false, false, false, false, false] rfl rfl (any_of HT_.out (by kernel_rfl)) (fun _ _ _ h => h) (Or.inl ⟨by rfl, ?_⟩) ?_ ?_
    rotate_left
    · intro w'
      go_simp
      with_reducible rfl
    rotate_left
    · simp only [Act.put, List.setIfInBounds_toArray, List.set_cons_zero, List.set_cons_succ, i64_w, i32_w]
      rfl
    refine pure_ (i := 23) (N := some 79) (v := ?_) (a' := ?_) #[true, true, true, true, true, true, true, true, true, true, true, true, true, true, true, true, true, true, true, true, true, true, true, true, false, true, false, false, false, false, false, false] rfl rfl (any_of HT_.out (by kernel_rfl)) (fun _ _ _ h => h) (Or.inl ⟨by rfl, ?_⟩) ?_ ?_
    rotate_left
    · intro w'
      go_simp
      with_reducible rfl
    rotate_left
    · simp only [Act.put, List.setIfInBounds_toArray, List.set_cons_zero, List.set_cons_succ, i64_w, i32_w]
      rfl
    refine take_ (i := 24) (N := some 80) (v := ?_) (a' := ?_) #[true, true, true, true, true, true, true, true, true, true, true, true, true, true, true, true, true, true, true, true, true, true, true, true, true, true, false, false, false, false, false, false] rfl rfl (take_ofW HT_.out HW_.out (by kernel_rfl)) (fun _ _ _ h => h) (Or.inl ⟨by rfl, ?_⟩) hHeld ?_ ?_
    rotate_left
    · rintro w' ⟨s0, s1, s2, s3, s4, s5, s6, s7, s8, s9, s10, s11, s12, s13, s14, s15, s16, s17, s18, s19, s20, s21, s22, s23, s24, s25, s26, s27, s28, s29, s30, s31, s32, s33, s34, s35, s36, s37, s38, s39, s40, s41, s42, s43, s44, s45, s46, s47, s48, s49, s50, s51, s52, s53, s54, s55, s56, s57, s58, s59, s60, s61, s62, s63, s64, s65, s66, s67, s68, s69, s70, s71, s72, s73, s74, s75, s76, s77, s78, s79, s80, s81, s82, s83, s84, s85⟩
      go_simp
      with_reducible rfl
    rotate_left
    · simp only [Act.put, List.setIfInBounds_toArray, List.set_cons_zero, List.set_cons_succ, i64_w, i32_w]
      rfl
    refine take_ (i := 26) (N := some 82) (v := ?_) (a' := ?_) #[true, true, true, true, true, true, true, true, true, true, true, true, true, true, true, true, true, true, true, true, true, true, true, true, true, true, true, false, false, false, false, false] rfl rfl (take_ofW HT_.out HW_.out (by kernel_rfl)) (fun _ _ _ h => h) (Or.inl ⟨by rfl, ?_⟩) hHeld ?_ ?_
    rotate_left
    · rintro w' ⟨s0, s1, s2, s3, s4, s5, s6, s7, s8, s9, s10, s11, s12, s13, s14, s15, s16, s17, s18, s19, s20, s21, s22, s23, s24, s25, s26, s27, s28, s29, s30, s31, s32, s33, s34, s35, s36, s37, s38, s39, s40, s41, s42, s43, s44, s45, s46, s47, s48, s49, s50, s51, s52, s53, s54, s55, s56, s57, s58, s59, s60, s61, s62, s63, s64, s65, s66, s67, s68, s69, s70, s71, s72, s73, s74, s75, s76, s77, s78, s79, s80, s81, s82, s83, s84, s85⟩
      go_simp
      with_reducible rfl
    rotate_left
    · simp only [Act.put, List.setIfInBounds_toArray, List.set_cons_zero, List.set_cons_succ, i64_w, i32_w]
      rfl
    refine pure_ (i := 27) (N := some 83) (v := ?_) (a' := ?_) #[true, true, true, true, true, true, true, true, true, true, true, true, true, true, true, true, true, true, true, true, true, true, true, true, true, true, true, true, false, false, false, false] rfl rfl (any_of HT_.out (by kernel_rfl)) (fun _ _ _ h => h) (Or.inl ⟨by rfl, ?_⟩) ?_ ?_
    rotate_left
    · intro w'
      go_simp
      with_reducible rfl
    rotate_left
    · simp only [Act.put, List.setIfInBounds_toArray, List.set_cons_zero, List.set_cons_succ, i64_w, i32_w]
      rfl
    refine pure_ (i := 28) (N := some 84) (v := ?_) (a' := ?_) #[true, true, true, true, true, true, true, true, true, true, true, true, true, true, true, true, true, true, true, true, true, true, true, true, true, true, true, true, true, false, false, false] rfl rfl (any_of HT_.out (by kernel_rfl)) (fun _ _ _ h => h) (Or.inl ⟨by rfl, ?_⟩) ?_ ?_
    rotate_left
    · intro w'
      go_simp
      with_reducible rfl
    rotate_left
    · simp only [Act.put, List.setIfInBounds_toArray, List.set_cons_zero, List.set_cons_succ, i64_w, i32_w]
      rfl
    refine pure_ (i := 29) (N := some 85) (v := ?_) (a' := ?_) #[true, true, true, true, true, true, true, true, true, true, true, true, true, true, true, true, true, true, true, true, true, true, true, true, true, true, true, true, true, true, false, false] rfl rfl (any_of HT_.out (by kernel_rfl)) (fun _ _ _ h => h) (Or.inl ⟨by rfl, ?_⟩) ?_ ?_
    rotate_left
    · intro w'
      go_simp
      with_reducible rfl
    rotate_left
    · simp only [Act.put, List.setIfInBounds_toArray, List.set_cons_zero, List.set_cons_succ, i64_w, i32_w]
      rfl
    refine pure_ (i := 30) (N := some 86) (v := ?_) (a' := ?_) #[true, true, true, true, true, true, true, true, true, true, true, true, true, true, true, true, true, true, true, true, true, true, true, true, true, true, true, true, true, true, true, false] rfl rfl (any_of HT_.out (by kernel_rfl)) (fun _ _ _ h => h) (Or.inl ⟨by rfl, ?_⟩) ?_ ?_
    rotate_left
    · intro w'
      go_simp
      with_reducible rfl
    rotate_left
    · simp only [Act.put, List.setIfInBounds_toArray, List.set_cons_zero, List.set_cons_succ, i64_w, i32_w]
      rfl
    refine pure_ (i := 31) (N := some 9) (v := ?_) (a' := ?_) #[true, true, true, true, true, true, true, true, true, true, true, true, true, true, true, true, true, true, true, true, true, true, true, true, true, true, true, true, true, true, true, true] rfl rfl (any_of HT_.out (by kernel_rfl)) (fun _ _ _ h => h) (Or.inl ⟨by rfl, ?_⟩) ?_ ?_
    rotate_left
    · intro w'
      go_simp
      with_reducible rfl
    rotate_left
    · simp only [Act.put, List.setIfInBounds_toArray, List.set_cons_zero, List.set_cons_succ, i64_w, i32_w]
      rfl
    refine done_ (done_of HT_.out (by kernel_rfl)) ?_
    try go_wp2_with (first | ((with_reducible refine gate_load (t := 68) rfl ?_); refine load_at2 (t := 68) ?hg ?ho (c0 := _) (cs := [_, _, _, _, _, _, _, _, _, _, _, _, _, _, _, _, _, _, _]) Try.underlying68 rfl (by kernel_rfl) hx157_0 ⟨hx157_1, hx157_2, hx157_3, hx157_4, hx157_5, hx157_6, hx157_7, hx157_8, hx157_9, hx157_10, hx157_11, hx157_12, hx157_13, hx157_14, hx157_15, hx157_16, hx157_17, hx157_18, hx157_19, trivial⟩ ?_; (case hg => rfl); (case ho => refine ⟨_, rfl, ?_⟩; first | (with_reducible rfl) | (go_simp; done))) | ((with_reducible refine gate_load (t := 68) rfl ?_); refine load_at2 (t := 68) ?hg ?ho (c0 := _) (cs := [_, _, _, _, _, _, _, _, _, _, _, _, _, _, _, _, _, _, _]) Try.underlying68 rfl (by kernel_rfl) hx160_0 ⟨hx160_1, hx160_2, hx160_3, hx160_4, hx160_5, hx160_6, hx160_7, hx160_8, hx160_9, hx160_10, hx160_11, hx160_12, hx160_13, hx160_14, hx160_15, hx160_16, hx160_17, hx160_18, hx160_19, trivial⟩ ?_; (case hg => rfl); (case ho => refine ⟨_, rfl, ?_⟩; first | (with_reducible rfl) | (go_simp; done))) | ((with_reducible refine gate_load (t := 68) rfl ?_); refine load_at2 (t := 68) ?hg ?ho (c0 := _) (cs := [_, _, _, _, _, _, _, _, _, _, _, _, _, _, _, _, _, _, _]) Try.underlying68 rfl (by kernel_rfl) hx162_0 ⟨hx162_1, hx162_2, hx162_3, hx162_4, hx162_5, hx162_6, hx162_7, hx162_8, hx162_9, hx162_10, hx162_11, hx162_12, hx162_13, hx162_14, hx162_15, hx162_16, hx162_17, hx162_18, hx162_19, trivial⟩ ?_; (case hg => rfl); (case ho => refine ⟨_, rfl, ?_⟩; first | (with_reducible rfl) | (go_simp; done))) | ((with_reducible refine gate_load (t := 68) rfl ?_); refine load_at2 (t := 68) ?hg ?ho (c0 := _) (cs := [_, _, _, _, _, _, _, _, _, _, _, _, _, _, _, _, _, _, _]) Try.underlying68 rfl (by kernel_rfl) hx163_0 ⟨hx163_1, hx163_2, hx163_3, hx163_4, hx163_5, hx163_6, hx163_7, hx163_8, hx163_9, hx163_10, hx163_11, hx163_12, hx163_13, hx163_14, hx163_15, hx163_16, hx163_17, hx163_18, hx163_19, trivial⟩ ?_; (case hg => rfl); (case ho => refine ⟨_, rfl, ?_⟩; first | (with_reducible rfl) | (go_simp; done))) | ((with_reducible refine gate_load (t := 56) rfl ?_); refine load_row3 (t := 56) (g := gb153) ?hg BK153.out ?ho ?hb Try.underlying56 rfl ?hs ?_; (case hg => rfl); (case ho => refine ⟨_, rfl, ?_⟩; first | (with_reducible rfl) | (go_simp; done)); (case hb => (with_reducible repeat (first | refine blk_drewN ?_ _ | refine blk_drew ?_ | refine blk_alloc ?_ _)); with_reducible exact BK153.out); (case hs => kernel_rfl)) | ((with_reducible refine gate_load (t := 68) rfl ?_); refine load_row3 (t := 68) (g := gb158) ?hg BK158.out ?ho ?hb Try.underlying68 rfl ?hs ?_; (case hg => rfl); (case ho => refine ⟨_, rfl, ?_⟩; first | (with_reducible rfl) | (go_simp; done)); (case hb => (with_reducible repeat (first | refine blk_drewN ?_ _ | refine blk_drew ?_ | refine blk_alloc ?_ _)); with_reducible exact BK158.out); (case hs => kernel_rfl)))
    go_roundg k4
    case measure => have := HK1.out; have := HK2.out; have := HJ20.out; have := HK4.out; omega
    case rel => exact ⟨(!(decide (((rd_T68 l0_5 x10_4).f0) < ((rd_T68 l0_5 x7_2).f0)))), (wrap64 (x10_4 + 1)), (by first | rfl | (simp; done) | (simp [*]; done)), (by first | rfl | (simp; done) | (simp [*]; done)), H', ⟨by have := HK1.out; have := HK2.out; have := HJ20.out; have := HK4.out; omega⟩, ⟨by (with_reducible repeat (first | refine blk_drewN ?_ _ | refine blk_drew ?_ | refine blk_alloc ?_ _)); exact BK153.out⟩, ⟨by (with_reducible repeat (first | refine blk_drewN ?_ _ | refine blk_drew ?_ | refine blk_alloc ?_ _)); exact BK154.out⟩, ⟨by (with_reducible repeat (first | refine blk_drewN ?_ _ | refine blk_drew ?_ | refine blk_alloc ?_ _)); exact BK158.out⟩, ⟨by repeat (first | (with_reducible first | exact HB.out | apply below_alloc | apply pw_below_drewN | apply below_drew1 | refine below_set ?_ GE153.out | refine below_set ?_ GE154.out | refine below_set ?_ GE158.out) | exact HB.out)⟩⟩

end Go.Proofs.Ytkkikdjfigffhaa.XPit
