import Derived.Test.YtghdkpcpgpfgcaaDoorXStbM0a
import Derived.Test.YtghdkpcpgpfgcaaDoorXStbM0b
import Derived.Test.YtghdkpcpgpfgcaaDoorXStbx44
namespace Go.Proofs.YtghdkpcpgpfgcaaDoor.XStb
open Go.RowKit Go.Proofs.YtghdkpcpgpfgcaaDoorW.PrintWords Go.Proofs.YtghdkpcpgpfgcaaDoorW.PrintLast Go.Proofs.YtghdkpcpgpfgcaaDoorW.PrintMore
attribute [local go_sem] max2_int min2_int max_two min_two max_three min_three max_four min_four   -- for this text's walks alone
set_option linter.unusedVariables false
set_option linter.unusedSimpArgs false

/-! ### newsreelref17_parse: function 19 -/
mutual
def newsreelref17_parse.j1 : Nat → List ByteArray → Option (Int × Int × Int × Int × Int × Int × Int × Bool × Bool)
 | 0, _ => none
 | k + 1, x4 => if (x4.length : Int) = 5 then (if 4 < (x4.length : Int) then ((newsreelref17_zone.f k (rdOf ByteArray.empty x4 4)).bind fun bt302 => (if 0 < (x4.length : Int) then ((newsreelref17_Number.f k (rdOf ByteArray.empty x4 0) 2).bind fun t306 => (if ((rdOf ByteArray.empty x4 0).size : Int) = 1 then ((newsreelref17_Number.f k (rdOf ByteArray.empty x4 0) 1).bind fun t309 => (newsreelref17_parse.j2 k x4 bt302.1 bt302.2.1 bt302.2.2 t309)) else (newsreelref17_parse.j2 k x4 bt302.1 bt302.2.1 bt302.2.2 t306))) else (none))) else (none)) else (some (0, 0, 0, 0, 0, 0, 0, false, false))
def newsreelref17_parse.j2 : Nat → List ByteArray → Int → Bool → Bool → Int → Option (Int × Int × Int × Int × Int × Int × Int × Bool × Bool)
 | 0, _, _, _, _, _ => none
 | k + 1, x4, x6, x7, x8, x9 => if 3 < (x4.length : Int) then ((newsreelref02_Split.f k (rdOf ByteArray.empty x4 3) 58).bind fun t311 => (if (t311.length : Int) = 2 then (newsreelref17_parse.j3 k x4 x6 x7 x8 x9 t311 false) else (newsreelref17_parse.j3 k x4 x6 x7 x8 x9 t311 ((t311.length : Int) != 3)))) else (none)
def newsreelref17_parse.j3 : Nat → List ByteArray → Int → Bool → Bool → Int → List ByteArray → Bool → Option (Int × Int × Int × Int × Int × Int × Int × Bool × Bool)
 | 0, _, _, _, _, _, _, _ => none
 | k + 1, x4, x6, x7, x8, x9, x10, x77 => if x77 = true then (some (0, 0, 0, 0, 0, 0, 0, false, false)) else (if 2 < (x4.length : Int) then ((newsreelref17_year.f k (rdOf ByteArray.empty x4 2)).bind fun t315 => (if 1 < (x4.length : Int) then ((newsreelref17_place.f k false (rdOf ByteArray.empty x4 1)).bind fun t317 => (if 0 < (x10.length : Int) then ((newsreelref17_Number.f k (rdOf ByteArray.empty x10 0) 2).bind fun t319 => (if 1 < (x10.length : Int) then ((newsreelref17_Number.f k (rdOf ByteArray.empty x10 1) 2).bind fun t321 => (if (x10.length : Int) = 3 then (if 2 < (x10.length : Int) then ((newsreelref17_Number.f k (rdOf ByteArray.empty x10 2) 2).bind fun t324 => (newsreelref17_parse.j4 k x8 t315 (wrap64 (t317 + 1)) x9 t319 t321 t324 x6 x7)) else (none)) else (newsreelref17_parse.j4 k x8 t315 (wrap64 (t317 + 1)) x9 t319 t321 0 x6 x7))) else (none))) else (none))) else (none))) else (none))
def newsreelref17_parse.j4 : Nat → Bool → Int → Int → Int → Int → Int → Int → Int → Bool → Option (Int × Int × Int × Int × Int × Int × Int × Bool × Bool)
 | 0, _, _, _, _, _, _, _, _, _ => none
 | k + 1, x8, x323000, x323001, x323002, x323003, x323004, x323005, x323006, x323007 => newsreelref17_parse.l0 k x8 0 x323000 x323001 x323002 x323003 x323004 x323005 x323006 x323007
def newsreelref17_parse.l0 : Nat → Bool → Int → Int → Int → Int → Int → Int → Int → Int → Bool → Option (Int × Int × Int × Int × Int × Int × Int × Bool × Bool)
 | 0, _, _, _, _, _, _, _, _, _, _ => none
 | k + 1, x8, x12, x323000, x323001, x323002, x323003, x323004, x323005, x323006, x323007 => if x12 < 6 then (if x8 = true then (if x12 = 0 then (newsreelref17_parse.l0 k (decide (x323000 ≥ 0)) (wrap64 (0 + 1)) x323000 x323001 x323002 x323003 x323004 x323005 x323006 x323007) else (if x12 = 1 then (newsreelref17_parse.l0 k (decide (x323001 ≥ 0)) (wrap64 (1 + 1)) x323000 x323001 x323002 x323003 x323004 x323005 x323006 x323007) else (if x12 = 2 then (newsreelref17_parse.l0 k (decide (x323002 ≥ 0)) (wrap64 (2 + 1)) x323000 x323001 x323002 x323003 x323004 x323005 x323006 x323007) else (if x12 = 3 then (newsreelref17_parse.l0 k (decide (x323003 ≥ 0)) (wrap64 (3 + 1)) x323000 x323001 x323002 x323003 x323004 x323005 x323006 x323007) else (if x12 = 4 then (newsreelref17_parse.l0 k (decide (x323004 ≥ 0)) (wrap64 (4 + 1)) x323000 x323001 x323002 x323003 x323004 x323005 x323006 x323007) else (if x12 = 5 then (newsreelref17_parse.l0 k (decide (x323005 ≥ 0)) (wrap64 (5 + 1)) x323000 x323001 x323002 x323003 x323004 x323005 x323006 x323007) else (none))))))) else (newsreelref17_parse.l0 k false (wrap64 (x12 + 1)) x323000 x323001 x323002 x323003 x323004 x323005 x323006 x323007)) else (if x8 = true then (some (x323000, x323001, x323002, x323003, x323004, x323005, x323006, x323007, decide (x323001 > 0))) else (some (x323000, x323001, x323002, x323003, x323004, x323005, x323006, x323007, false)))
def newsreelref17_parse.j0 : Nat → List ByteArray → Bool → Option (Int × Int × Int × Int × Int × Int × Int × Bool × Bool)
 | 0, _, _ => none
 | k + 1, x4, x37 => if x37 = true then (some (0, 0, 0, 0, 0, 0, 0, false, false)) else (if 1 ≤ (x4.length : Int) then (newsreelref17_parse.j1 k (x4.drop (1 : Int).toNat)) else (none))
end
def newsreelref17_parse.f (k : Nat) (a0 : ByteArray) : Option (Int × Int × Int × Int × Int × Int × Int × Bool × Bool) := (newsreelref17_Fields.f k a0).bind fun t291 => (if (t291.length : Int) = 6 then (if 0 < (t291.length : Int) then (if 0 ≤ (wrap64 (((rdOf ByteArray.empty t291 0).size : Int) - 1)) then (if (wrap64 (((rdOf ByteArray.empty t291 0).size : Int) - 1)) < ((rdOf ByteArray.empty t291 0).size : Int) then (if (bt (rdOf ByteArray.empty t291 0) (wrap64 (((rdOf ByteArray.empty t291 0).size : Int) - 1))) = 44 then (if (wrap64 (((rdOf ByteArray.empty t291 0).size : Int) - 1)) ≤ ((rdOf ByteArray.empty t291 0).size : Int) then ((newsreelref17_place.f k true ((rdOf ByteArray.empty t291 0).extract 0 ((wrap64 (((rdOf ByteArray.empty t291 0).size : Int) - 1)) : Int).toNat)).bind fun t297 => (newsreelref17_parse.j0 k t291 (decide (t297 < 0)))) else (none)) else (newsreelref17_parse.j0 k t291 true)) else (none)) else (none)) else (none)) else (newsreelref17_parse.j1 k t291))
theorem newsreelref17_parse.mono_l : ∀ k, (∀ y0, LeO (newsreelref17_parse.j1 k y0) (newsreelref17_parse.j1 (k + 1) y0)) ∧ (∀ y0 y1 y2 y3 y4, LeO (newsreelref17_parse.j2 k y0 y1 y2 y3 y4) (newsreelref17_parse.j2 (k + 1) y0 y1 y2 y3 y4)) ∧ (∀ y0 y1 y2 y3 y4 y5 y6, LeO (newsreelref17_parse.j3 k y0 y1 y2 y3 y4 y5 y6) (newsreelref17_parse.j3 (k + 1) y0 y1 y2 y3 y4 y5 y6)) ∧ (∀ y0 y1 y2 y3 y4 y5 y6 y7 y8, LeO (newsreelref17_parse.j4 k y0 y1 y2 y3 y4 y5 y6 y7 y8) (newsreelref17_parse.j4 (k + 1) y0 y1 y2 y3 y4 y5 y6 y7 y8)) ∧ (∀ y0 y1 y2 y3 y4 y5 y6 y7 y8 y9, LeO (newsreelref17_parse.l0 k y0 y1 y2 y3 y4 y5 y6 y7 y8 y9) (newsreelref17_parse.l0 (k + 1) y0 y1 y2 y3 y4 y5 y6 y7 y8 y9)) ∧ (∀ y0 y1, LeO (newsreelref17_parse.j0 k y0 y1) (newsreelref17_parse.j0 (k + 1) y0 y1))
 | 0 => ⟨fun _ r h => by simp [newsreelref17_parse.j1] at h, fun _ _ _ _ _ r h => by simp [newsreelref17_parse.j2] at h, fun _ _ _ _ _ _ _ r h => by simp [newsreelref17_parse.j3] at h, fun _ _ _ _ _ _ _ _ _ r h => by simp [newsreelref17_parse.j4] at h, fun _ _ _ _ _ _ _ _ _ _ r h => by simp [newsreelref17_parse.l0] at h, fun _ _ r h => by simp [newsreelref17_parse.j0] at h⟩
 | k + 1 => by
  obtain ⟨ih0, ih1, ih2, ih3, ih4, ih5⟩ := newsreelref17_parse.mono_l k
  refine ⟨?_, ?_, ?_, ?_, ?_, ?_⟩
  ·intro y0
   unfold newsreelref17_parse.j1
   repeat' first
   | (with_reducible exact ih0 _)
   | (with_reducible exact ih1 _ _ _ _ _)
   | (with_reducible exact ih2 _ _ _ _ _ _ _)
   | (with_reducible exact ih3 _ _ _ _ _ _ _ _ _)
   | (with_reducible exact ih4 _ _ _ _ _ _ _ _ _ _)
   | (with_reducible exact ih5 _ _)
   | (with_reducible exact newsreelref02_Split.mono _ _ _)
   | (with_reducible exact newsreelref17_Fields.mono _ _)
   | (with_reducible exact newsreelref17_Number.mono _ _ _)
   | (with_reducible exact newsreelref17_place.mono _ _ _)
   | (with_reducible exact newsreelref17_year.mono _ _)
   | (with_reducible exact newsreelref17_zone.mono _ _)
   | (with_reducible exact LeO.refl _)
   | (with_reducible exact LeO.none _)
   | (with_reducible refine LeO.ite ?_ ?_)
   | (with_reducible refine LeO.bind ?_ (fun _ => ?_))
   | exact ih0 _
   | exact ih1 _ _ _ _ _
   | exact ih2 _ _ _ _ _ _ _
   | exact ih3 _ _ _ _ _ _ _ _ _
   | exact ih4 _ _ _ _ _ _ _ _ _ _
   | exact ih5 _ _
   | exact newsreelref02_Split.mono _ _ _
   | exact newsreelref17_Fields.mono _ _
   | exact newsreelref17_Number.mono _ _ _
   | exact newsreelref17_place.mono _ _ _
   | exact newsreelref17_year.mono _ _
   | exact newsreelref17_zone.mono _ _
   | exact LeO.none _
   | refine LeO.ite ?_ ?_
   | refine LeO.bind ?_ (fun _ => ?_)
  ·intro y0 y1 y2 y3 y4
   unfold newsreelref17_parse.j2
   repeat' first
   | (with_reducible exact ih0 _)
   | (with_reducible exact ih1 _ _ _ _ _)
   | (with_reducible exact ih2 _ _ _ _ _ _ _)
   | (with_reducible exact ih3 _ _ _ _ _ _ _ _ _)
   | (with_reducible exact ih4 _ _ _ _ _ _ _ _ _ _)
   | (with_reducible exact ih5 _ _)
   | (with_reducible exact newsreelref02_Split.mono _ _ _)
   | (with_reducible exact newsreelref17_Fields.mono _ _)
   | (with_reducible exact newsreelref17_Number.mono _ _ _)
   | (with_reducible exact newsreelref17_place.mono _ _ _)
   | (with_reducible exact newsreelref17_year.mono _ _)
   | (with_reducible exact newsreelref17_zone.mono _ _)
   | (with_reducible exact LeO.refl _)
   | (with_reducible exact LeO.none _)
   | (with_reducible refine LeO.ite ?_ ?_)
   | (with_reducible refine LeO.bind ?_ (fun _ => ?_))
   | exact ih0 _
   | exact ih1 _ _ _ _ _
   | exact ih2 _ _ _ _ _ _ _
   | exact ih3 _ _ _ _ _ _ _ _ _
   | exact ih4 _ _ _ _ _ _ _ _ _ _
   | exact ih5 _ _
   | exact newsreelref02_Split.mono _ _ _
   | exact newsreelref17_Fields.mono _ _
   | exact newsreelref17_Number.mono _ _ _
   | exact newsreelref17_place.mono _ _ _
   | exact newsreelref17_year.mono _ _
   | exact newsreelref17_zone.mono _ _
   | exact LeO.none _
   | refine LeO.ite ?_ ?_
   | refine LeO.bind ?_ (fun _ => ?_)
  ·intro y0 y1 y2 y3 y4 y5 y6
   unfold newsreelref17_parse.j3
   repeat' first
   | (with_reducible exact ih0 _)
   | (with_reducible exact ih1 _ _ _ _ _)
   | (with_reducible exact ih2 _ _ _ _ _ _ _)
   | (with_reducible exact ih3 _ _ _ _ _ _ _ _ _)
   | (with_reducible exact ih4 _ _ _ _ _ _ _ _ _ _)
   | (with_reducible exact ih5 _ _)
   | (with_reducible exact newsreelref02_Split.mono _ _ _)
   | (with_reducible exact newsreelref17_Fields.mono _ _)
   | (with_reducible exact newsreelref17_Number.mono _ _ _)
   | (with_reducible exact newsreelref17_place.mono _ _ _)
   | (with_reducible exact newsreelref17_year.mono _ _)
   | (with_reducible exact newsreelref17_zone.mono _ _)
   | (with_reducible exact LeO.refl _)
   | (with_reducible exact LeO.none _)
   | (with_reducible refine LeO.ite ?_ ?_)
   | (with_reducible refine LeO.bind ?_ (fun _ => ?_))
   | exact ih0 _
   | exact ih1 _ _ _ _ _
   | exact ih2 _ _ _ _ _ _ _
   | exact ih3 _ _ _ _ _ _ _ _ _
   | exact ih4 _ _ _ _ _ _ _ _ _ _
   | exact ih5 _ _
   | exact newsreelref02_Split.mono _ _ _
   | exact newsreelref17_Fields.mono _ _
   | exact newsreelref17_Number.mono _ _ _
   | exact newsreelref17_place.mono _ _ _
   | exact newsreelref17_year.mono _ _
   | exact newsreelref17_zone.mono _ _
   | exact LeO.none _
   | refine LeO.ite ?_ ?_
   | refine LeO.bind ?_ (fun _ => ?_)
  ·intro y0 y1 y2 y3 y4 y5 y6 y7 y8
   unfold newsreelref17_parse.j4
   repeat' first
   | (with_reducible exact ih0 _)
   | (with_reducible exact ih1 _ _ _ _ _)
   | (with_reducible exact ih2 _ _ _ _ _ _ _)
   | (with_reducible exact ih3 _ _ _ _ _ _ _ _ _)
   | (with_reducible exact ih4 _ _ _ _ _ _ _ _ _ _)
   | (with_reducible exact ih5 _ _)
   | (with_reducible exact newsreelref02_Split.mono _ _ _)
   | (with_reducible exact newsreelref17_Fields.mono _ _)
   | (with_reducible exact newsreelref17_Number.mono _ _ _)
   | (with_reducible exact newsreelref17_place.mono _ _ _)
   | (with_reducible exact newsreelref17_year.mono _ _)
   | (with_reducible exact newsreelref17_zone.mono _ _)
   | (with_reducible exact LeO.refl _)
   | (with_reducible exact LeO.none _)
   | (with_reducible refine LeO.ite ?_ ?_)
   | (with_reducible refine LeO.bind ?_ (fun _ => ?_))
   | exact ih0 _
   | exact ih1 _ _ _ _ _
   | exact ih2 _ _ _ _ _ _ _
   | exact ih3 _ _ _ _ _ _ _ _ _
   | exact ih4 _ _ _ _ _ _ _ _ _ _
   | exact ih5 _ _
   | exact newsreelref02_Split.mono _ _ _
   | exact newsreelref17_Fields.mono _ _
   | exact newsreelref17_Number.mono _ _ _
   | exact newsreelref17_place.mono _ _ _
   | exact newsreelref17_year.mono _ _
   | exact newsreelref17_zone.mono _ _
   | exact LeO.none _
   | refine LeO.ite ?_ ?_
   | refine LeO.bind ?_ (fun _ => ?_)
  ·intro y0 y1 y2 y3 y4 y5 y6 y7 y8 y9
   unfold newsreelref17_parse.l0
   repeat' first
   | (with_reducible exact ih0 _)
   | (with_reducible exact ih1 _ _ _ _ _)
   | (with_reducible exact ih2 _ _ _ _ _ _ _)
   | (with_reducible exact ih3 _ _ _ _ _ _ _ _ _)
   | (with_reducible exact ih4 _ _ _ _ _ _ _ _ _ _)
   | (with_reducible exact ih5 _ _)
   | (with_reducible exact newsreelref02_Split.mono _ _ _)
   | (with_reducible exact newsreelref17_Fields.mono _ _)
   | (with_reducible exact newsreelref17_Number.mono _ _ _)
   | (with_reducible exact newsreelref17_place.mono _ _ _)
   | (with_reducible exact newsreelref17_year.mono _ _)
   | (with_reducible exact newsreelref17_zone.mono _ _)
   | (with_reducible exact LeO.refl _)
   | (with_reducible exact LeO.none _)
   | (with_reducible refine LeO.ite ?_ ?_)
   | (with_reducible refine LeO.bind ?_ (fun _ => ?_))
   | exact ih0 _
   | exact ih1 _ _ _ _ _
   | exact ih2 _ _ _ _ _ _ _
   | exact ih3 _ _ _ _ _ _ _ _ _
   | exact ih4 _ _ _ _ _ _ _ _ _ _
   | exact ih5 _ _
   | exact newsreelref02_Split.mono _ _ _
   | exact newsreelref17_Fields.mono _ _
   | exact newsreelref17_Number.mono _ _ _
   | exact newsreelref17_place.mono _ _ _
   | exact newsreelref17_year.mono _ _
   | exact newsreelref17_zone.mono _ _
   | exact LeO.none _
   | refine LeO.ite ?_ ?_
   | refine LeO.bind ?_ (fun _ => ?_)
  ·intro y0 y1
   unfold newsreelref17_parse.j0
   repeat' first
   | (with_reducible exact ih0 _)
   | (with_reducible exact ih1 _ _ _ _ _)
   | (with_reducible exact ih2 _ _ _ _ _ _ _)
   | (with_reducible exact ih3 _ _ _ _ _ _ _ _ _)
   | (with_reducible exact ih4 _ _ _ _ _ _ _ _ _ _)
   | (with_reducible exact ih5 _ _)
   | (with_reducible exact newsreelref02_Split.mono _ _ _)
   | (with_reducible exact newsreelref17_Fields.mono _ _)
   | (with_reducible exact newsreelref17_Number.mono _ _ _)
   | (with_reducible exact newsreelref17_place.mono _ _ _)
   | (with_reducible exact newsreelref17_year.mono _ _)
   | (with_reducible exact newsreelref17_zone.mono _ _)
   | (with_reducible exact LeO.refl _)
   | (with_reducible exact LeO.none _)
   | (with_reducible refine LeO.ite ?_ ?_)
   | (with_reducible refine LeO.bind ?_ (fun _ => ?_))
   | exact ih0 _
   | exact ih1 _ _ _ _ _
   | exact ih2 _ _ _ _ _ _ _
   | exact ih3 _ _ _ _ _ _ _ _ _
   | exact ih4 _ _ _ _ _ _ _ _ _ _
   | exact ih5 _ _
   | exact newsreelref02_Split.mono _ _ _
   | exact newsreelref17_Fields.mono _ _
   | exact newsreelref17_Number.mono _ _ _
   | exact newsreelref17_place.mono _ _ _
   | exact newsreelref17_year.mono _ _
   | exact newsreelref17_zone.mono _ _
   | exact LeO.none _
   | refine LeO.ite ?_ ?_
   | refine LeO.bind ?_ (fun _ => ?_)
theorem newsreelref17_parse.mono : ∀ a0 k, LeO (newsreelref17_parse.f k a0) (newsreelref17_parse.f (k + 1) a0) := by
 intro a0 k
 obtain ⟨ih0, ih1, ih2, ih3, ih4, ih5⟩ := newsreelref17_parse.mono_l k
 unfold newsreelref17_parse.f
 repeat' first
   | (with_reducible exact ih0 _)
   | (with_reducible exact ih1 _ _ _ _ _)
   | (with_reducible exact ih2 _ _ _ _ _ _ _)
   | (with_reducible exact ih3 _ _ _ _ _ _ _ _ _)
   | (with_reducible exact ih4 _ _ _ _ _ _ _ _ _ _)
   | (with_reducible exact ih5 _ _)
   | (with_reducible exact newsreelref02_Split.mono _ _ _)
   | (with_reducible exact newsreelref17_Fields.mono _ _)
   | (with_reducible exact newsreelref17_Number.mono _ _ _)
   | (with_reducible exact newsreelref17_place.mono _ _ _)
   | (with_reducible exact newsreelref17_year.mono _ _)
   | (with_reducible exact newsreelref17_zone.mono _ _)
   | (with_reducible exact LeO.refl _)
   | (with_reducible exact LeO.none _)
   | (with_reducible refine LeO.ite ?_ ?_)
   | (with_reducible refine LeO.bind ?_ (fun _ => ?_))
   | exact ih0 _
   | exact ih1 _ _ _ _ _
   | exact ih2 _ _ _ _ _ _ _
   | exact ih3 _ _ _ _ _ _ _ _ _
   | exact ih4 _ _ _ _ _ _ _ _ _ _
   | exact ih5 _ _
   | exact newsreelref02_Split.mono _ _ _
   | exact newsreelref17_Fields.mono _ _
   | exact newsreelref17_Number.mono _ _ _
   | exact newsreelref17_place.mono _ _ _
   | exact newsreelref17_year.mono _ _
   | exact newsreelref17_zone.mono _ _
   | exact LeO.none _
   | refine LeO.ite ?_ ?_
   | refine LeO.bind ?_ (fun _ => ?_)
def newsreelref17_parse.T16 : Bool × List (List Nat × List Nat) := (true, [([], []), ([0], [0]), ([1], [1]), ([2], [2]), ([], []), ([4], [4]), ([5], [5]), ([6, 3], [6]), ([7], [7]), ([], []), ([], []), ([10], [10]), ([11], [11]), ([12, 7], [12]), ([], []), ([14], [14]), ([15], [15]), ([16, 13], [16]), ([3, 8, 9, 13, 17], [3, 8, 9, 13, 17]), ([], []), ([], []), ([18, 19, 20], [18, 19, 20]), ([], []), ([22, 21, 17, 0, 1, 2, 3, 4, 5, 6, 7, 8, 9, 10, 11, 12, 13, 14, 15, 16, 17, 18, 19, 20, 21, 22], [21, 22])])
def newsreelref17_parse.B16 : List Nat := [0, 1, 3, 7, 0, 16, 48, 127, 255, 0, 0, 1024, 3072, 7423, 0, 16384, 49152, 130303, 262143, 0, 0, 2097151, 0, 8388607]
theorem newsreelref17_parse.tab16 : rtab .any (opsOf Tryd.f19 16) = newsreelref17_parse.T16 := by kernel_rfl
theorem newsreelref17_parse.bits16 : waitsOk newsreelref17_parse.T16.2 newsreelref17_parse.B16 = true := by kernel_rfl
def newsreelref17_parse.T23 : Bool × List (List Nat × List Nat) := (true, [([], []), ([], []), ([1], [1]), ([2], [2]), ([3, 2], [2, 3]), ([4, 2], [2, 4]), ([5, 2], [2, 5]), ([2, 6], [2, 6]), ([0, 2, 0], [0]), ([7, 8, 0, 1, 2, 3, 4, 5, 6, 7, 8], [7])])
def newsreelref17_parse.B23 : List Nat := [0, 0, 2, 6, 14, 30, 62, 126, 7, 511]
theorem newsreelref17_parse.tab23 : rtab .any (opsOf Tryd.f19 23) = newsreelref17_parse.T23 := by kernel_rfl
theorem newsreelref17_parse.bits23 : waitsOk newsreelref17_parse.T23.2 newsreelref17_parse.B23 = true := by kernel_rfl
set_option maxHeartbeats 8000000 in
set_option maxRecDepth 100000 in
theorem newsreelref17_parse.calls (k : Nat) (a0 : ByteArray) (r1 : Int) (r2 : Int) (r3 : Int) (r4 : Int) (r5 : Int) (r6 : Int) (r7 : Int) (r8 : Bool) (r9 : Bool) (w : World) (h : newsreelref17_parse.f k a0 = some (r1, r2, r3, r4, r5, r6, r7, r8, r9)) :
  Calls Tryd.prog 19 #[.string a0] w fun e w' => e = .returned (.tuple #[.agg #[.int .i64 r1, .int .i64 r2, .int .i64 r3, .int .i64 r4, .int .i64 r5, .int .i64 r6, .int .i64 r7, .bool r8], .bool r9]) ∧ Below w.heap.size w w' := by
 have hu52 := Tryd.underlying52
 have hu50 := Tryd.underlying50
 have HB := mkA (Below.refl w.heap.size w)
 have H : ((newsreelref17_Fields.f k a0).bind fun t291 => (if (t291.length : Int) = 6 then (if 0 < (t291.length : Int) then (if 0 ≤ (wrap64 (((rdOf ByteArray.empty t291 0).size : Int) - 1)) then (if (wrap64 (((rdOf ByteArray.empty t291 0).size : Int) - 1)) < ((rdOf ByteArray.empty t291 0).size : Int) then (if (bt (rdOf ByteArray.empty t291 0) (wrap64 (((rdOf ByteArray.empty t291 0).size : Int) - 1))) = 44 then (if (wrap64 (((rdOf ByteArray.empty t291 0).size : Int) - 1)) ≤ ((rdOf ByteArray.empty t291 0).size : Int) then ((newsreelref17_place.f k true ((rdOf ByteArray.empty t291 0).extract 0 ((wrap64 (((rdOf ByteArray.empty t291 0).size : Int) - 1)) : Int).toNat)).bind fun t297 => (newsreelref17_parse.j0 k t291 (decide (t297 < 0)))) else (none)) else (newsreelref17_parse.j0 k t291 true)) else (none)) else (none)) else (none)) else (newsreelref17_parse.j1 k t291))) = some (r1, r2, r3, r4, r5, r6, r7, r8, r9) := h
 clear h
 replace H := Option.bind_eq_some_iff.mp H
 obtain ⟨t291, A20, H⟩ := H
 replace H : (if (t291.length : Int) = 6 then (if 0 < (t291.length : Int) then (if 0 ≤ (wrap64 (((rdOf ByteArray.empty t291 0).size : Int) - 1)) then (if (wrap64 (((rdOf ByteArray.empty t291 0).size : Int) - 1)) < ((rdOf ByteArray.empty t291 0).size : Int) then (if (bt (rdOf ByteArray.empty t291 0) (wrap64 (((rdOf ByteArray.empty t291 0).size : Int) - 1))) = 44 then (if (wrap64 (((rdOf ByteArray.empty t291 0).size : Int) - 1)) ≤ ((rdOf ByteArray.empty t291 0).size : Int) then ((newsreelref17_place.f k true ((rdOf ByteArray.empty t291 0).extract 0 ((wrap64 (((rdOf ByteArray.empty t291 0).size : Int) - 1)) : Int).toNat)).bind fun t297 => (newsreelref17_parse.j0 k t291 (decide (t297 < 0)))) else (none)) else (newsreelref17_parse.j0 k t291 true)) else (none)) else (none)) else (none)) else (newsreelref17_parse.j1 k t291)) = some (r1, r2, r3, r4, r5, r6, r7, r8, r9) := H
 have A2 := mkA A20
 clear A20
 have HC3 := mkA H
 clear H
 go_enter Tryd.func19, Tryd.ntmps19
 go_upto_if 17 with (first | ((with_reducible refine gate_load (t := 52) rfl ?_); refine load_row3 (t := 52) (g := gb290) ?hg BK290.out ?ho ?hb Tryd.underlying52 rfl ?hs ?_; (case hg => rfl); (case ho => refine ⟨_, rfl, ?_⟩; first | (with_reducible rfl) | (go_simp; done)); (case hb => (with_reducible repeat (first | refine blk_drewN ?_ _ | refine blk_drew ?_ | refine blk_alloc ?_ _)); with_reducible exact BK290.out); (case hs => kernel_rfl)) | ((with_reducible refine gate_dst (N := 2) rfl ?_); (try (refine gate_guard (by rfl) ?_; dsimp only)); refine box_event ?hg (N := 2) ?hd (cs := #[.int .i64 0, .int .i64 0, .int .i64 0, .int .i64 0, .int .i64 0, .int .i64 0, .int .i64 0, .bool false]) (t := 52) ?hr ?_; (case hd => rfl); (case hg => rfl); (case hr => first | (go_simp; done) | (go_simp; rfl)); intro gb290 hg w4 hbox hb; have n0_ := mkA (below_step (below_y HB.out) hb); have n1_ := mkA (hbox); have n2_ := mkA ((gz hg HB.out : w.heap.size ≤ gb290)); have n3_ := mkA ((gz hg HB.out : w.heap.size ≤ gb290)); clear HB; have HB := n0_; have BK290 := n1_; have GW290 := n2_; have GE290 := n3_; clear n0_ n1_ n2_ n3_; clear hb hbox hg) | ((with_reducible refine gate_callee (f := 38) rfl ?_); refine goesL_ (some 14) rfl rfl Tryd.func38 (by kernel_rfl) rfl #[.string a0] rfl ca ?_; (with_reducible refine (newsreelref17_Fields.calls k a0 t291 _ A2.out).mono ?_); rintro e w5 ⟨v292, rfl, ho0, hb⟩; refine ⟨_, rfl, ?_⟩; have n0_ := mkA (Kd.R_lower ho0 (below_size (below_y HB.out))); have n1_ := mkA (blk_below (blk_y BK290.out) hb); have n2_ := mkA (below_step (below_y HB.out) hb); clear BK290; clear HB; have HO293 := n0_; have BK290 := n1_; have HB := n2_; clear n0_ n1_ n2_; (try clear hb); (try clear hb2); (try clear hk); (try clear hi); (try clear ho0); obtain ⟨Ao6, co6, eo6⟩ := Kd.R_slice HO293.out; subst eo6))
 (try simp only [Act.put, sA, s0, sS])
 go_cut [4] (fun v4 wc => ∃ (kq : Nat) (x4_2 : List ByteArray) (x291000_2 : Int) (x291001_2 : Int) (x291002_2 : Int) (x291003_2 : Int) (x291004_2 : Int) (x291005_2 : Int) (x291006_2 : Int) (x291007_2 : Bool), Aside0 (newsreelref17_parse.j1 kq x4_2 = some (r1, r2, r3, r4, r5, r6, r7, r8, r9)) ∧ Aside0 (kq ≤ k) ∧ Aside0 (Kd.Q Kd.string 9 wc w.heap.size (fun _ => True) v4 x4_2) ∧ Aside0 (wc.heap[gb290]? = some (.cells #[.int .i64 x291000_2, .int .i64 x291001_2, .int .i64 x291002_2, .int .i64 x291003_2, .int .i64 x291004_2, .int .i64 x291005_2, .int .i64 x291006_2, .bool x291007_2] 52 (0, 0))) ∧ Aside0 (Below w.heap.size w wc))
 case first =>
  have H := HC3.out
  clear HC3
  by_cases c7 : (t291.length : Int) = 6
  ·rw [if_pos c7] at H
   have c7b0 : ((t291.length : Int) == 6) = true := beq_iff_eq.mpr c7
   have c7b1 : ((t291.length : Int) != 6) = false := bne_eq_false_iff_eq.mpr c7
   clear c7
   (first | rw [c7b0] | (simp only [i64_w, i32_w]; rw [c7b0]) | skip)
   by_cases c8 : 0 < (t291.length : Int)
   ·rw [if_pos c8] at H
    have c8b0 : decide (0 < (t291.length : Int)) = true := decide_eq_true c8
    have c8b1 : decide (0 < t291.length) = true := decide_eq_true (by omega)
    clear c8
    have HC9 := mkA H
    clear H
    have p294 : 0 ≤ (0 : Int) := (by omega)
    have q294 : 0 < (t291.length : Int) := odt
    obtain ⟨ad294, e294, hx294_0⟩ := Kd.at_string (Kd.R_reads' HO293.out).2.2 0 p294 q294
    cases e294
    have qi294 : (0 < t291.length) = True := eq_true (by omega)
    (try rw [show ((0 : Int)).toNat = 0 from rfl] at hx294_0)
    (try rw [Addr.add_zero'] at hx294_0)
    replace p294 := eq_true p294
    replace q294 := eq_true q294
    go_upto_region 4 with (first | ((with_reducible refine gate_load (t := 52) rfl ?_); refine load_row3 (t := 52) (g := gb290) ?hg BK290.out ?ho ?hb Tryd.underlying52 rfl ?hs ?_; (case hg => rfl); (case ho => refine ⟨_, rfl, ?_⟩; first | (with_reducible rfl) | (go_simp; done)); (case hb => (with_reducible repeat (first | refine blk_drewN ?_ _ | refine blk_drew ?_ | refine blk_alloc ?_ _)); with_reducible exact BK290.out); (case hs => kernel_rfl)))
    go_cut [37] (fun v37 wc => ∃ (kq : Nat) (x37_8 : Bool), v37 = .bool x37_8 ∧ Aside0 (newsreelref17_parse.j0 kq t291 x37_8 = some (r1, r2, r3, r4, r5, r6, r7, r8, r9)) ∧ Aside0 (kq ≤ k) ∧ Aside0 (Kd.Q Kd.string 9 wc w.heap.size (fun _ => True) (.slice (some ad294) t291.length co6) t291) ∧ Aside0 (wc.heap[gb290]? = some (.cells #[.int .i64 0, .int .i64 0, .int .i64 0, .int .i64 0, .int .i64 0, .int .i64 0, .int .i64 0, .bool false] 52 (0, 0))) ∧ Aside0 (Below w.heap.size w wc))
    case first =>
     have H := HC9.out
     clear HC9
     obtain ⟨ji10, hji10⟩ : ∃ j_ : Int, (wrap64 (((rdOf ByteArray.empty t291 0).size : Int) - 1)) = j_ := ⟨_, rfl⟩
     replace H : (if 0 ≤ (ji10) then (if (ji10) < ((rdOf ByteArray.empty t291 0).size : Int) then (if (bt (rdOf ByteArray.empty t291 0) (ji10)) = 44 then (if (ji10) ≤ ((rdOf ByteArray.empty t291 0).size : Int) then ((newsreelref17_place.f k true ((rdOf ByteArray.empty t291 0).extract 0 ((ji10) : Int).toNat)).bind fun t297 => (newsreelref17_parse.j0 k t291 (decide (t297 < 0)))) else (none)) else (newsreelref17_parse.j0 k t291 true)) else (none)) else (none)) = some (r1, r2, r3, r4, r5, r6, r7, r8, r9) := by first | (rw [hji10] at H; exact H) | (simp only [hji10] at H ⊢; exact H)
     have hji10w : (IntKind.i64.wrap (((rdOf ByteArray.empty t291 0).size : Int) - 1)) = ji10 := (i64_w _).trans hji10
     by_cases c11 : 0 ≤ (ji10)
     ·rw [if_pos c11] at H
      have c11b0 : decide (0 ≤ (ji10)) = true := decide_eq_true c11
      clear c11
      (first | rw [c11b0] | (simp only [i64_w, i32_w]; rw [c11b0]) | skip)
      by_cases c12 : (ji10) < ((rdOf ByteArray.empty t291 0).size : Int)
      ·rw [if_pos c12] at H
       have c12b0 : decide ((ji10) < ((rdOf ByteArray.empty t291 0).size : Int)) = true := decide_eq_true c12
       clear c12
       by_cases c14 : (bt (rdOf ByteArray.empty t291 0) (ji10)) = 44
       ·rw [if_pos c14] at H
        have c14b0 : ((bt (rdOf ByteArray.empty t291 0) (ji10)) == 44) = true := beq_iff_eq.mpr c14
        have c14b1 : ((bt (rdOf ByteArray.empty t291 0) (ji10)) != 44) = false := bne_eq_false_iff_eq.mpr c14
        clear c14
        have c15b0 := eq_true (odt : 0 ≤ (ji10))
        by_cases c16 : (ji10) ≤ ((rdOf ByteArray.empty t291 0).size : Int)
        ·rw [if_pos c16] at H
         have c16b0 := eq_true c16
         have c16b1 : decide ((ji10) ≤ ((rdOf ByteArray.empty t291 0).size : Int)) = true := decide_eq_true c16
         clear c16
         replace H := Option.bind_eq_some_iff.mp H
         obtain ⟨t297, A170, H⟩ := H
         replace H : (newsreelref17_parse.j0 k t291 (decide (t297 < 0))) = some (r1, r2, r3, r4, r5, r6, r7, r8, r9) := H
         have A17 := mkA A170
         clear A170
         as_aux_lemma =>
          have H' := mkA H
          clear H
          have p295 : 0 ≤ (0 : Int) := (by omega)
          have q295 : 0 < (t291.length : Int) := odt
          obtain ⟨ad295, e295, hx295_0⟩ := Kd.at_string (Kd.R_reads' HO293.out).2.2 0 p295 q295
          obtain rfl : ad294 = ad295 := (by injection e295)
          have qi295 : (0 < t291.length) = True := eq_true (by omega)
          (try rw [show ((0 : Int)).toNat = 0 from rfl] at hx295_0)
          (try rw [Addr.add_zero'] at hx295_0)
          replace p295 := eq_true p295
          replace q295 := eq_true q295
          have p13 : 0 ≤ ((ji10) : Int) := odt
          have q13 : (ji10) < ((rdOf ByteArray.empty t291 0).size : Int) := odt
          have hx13 := bt_at (rdOf ByteArray.empty t291 0) (ji10)
          replace p13 := eq_true p13
          replace q13 := eq_true q13
          have p296 : 0 ≤ (0 : Int) := (by omega)
          have q296 : 0 < (t291.length : Int) := odt
          obtain ⟨ad296, e296, hx296_0⟩ := Kd.at_string (Kd.R_reads' HO293.out).2.2 0 p296 q296
          obtain rfl : ad294 = ad296 := (by injection e296)
          have qi296 : (0 < t291.length) = True := eq_true (by omega)
          (try rw [show ((0 : Int)).toNat = 0 from rfl] at hx296_0)
          (try rw [Addr.add_zero'] at hx296_0)
          replace p296 := eq_true p296
          replace q296 := eq_true q296
          go_wp2_with (first | ((with_reducible refine gate_load (t := 52) rfl ?_); refine load_row3 (t := 52) (g := gb290) ?hg BK290.out ?ho ?hb Tryd.underlying52 rfl ?hs ?_; (case hg => rfl); (case ho => refine ⟨_, rfl, ?_⟩; first | (with_reducible rfl) | (go_simp; done)); (case hb => (with_reducible repeat (first | refine blk_drewN ?_ _ | refine blk_drew ?_ | refine blk_alloc ?_ _)); with_reducible exact BK290.out); (case hs => kernel_rfl)) | (go_at_call 39; (with_reducible refine (newsreelref17_place.calls k true ((rdOf ByteArray.empty t291 0).extract 0 ((ji10) : Int).toNat) t297 _ A17.out).mono ?_); rintro e w18 ⟨rfl, hb⟩; have n0_ := mkA (Kd.R_below (Kd.R_y HO293.out) hb); have n1_ := mkA (blk_below (blk_y BK290.out) hb); have n2_ := mkA (below_step (below_y HB.out) hb); clear HO293; clear BK290; clear HB; have HO293 := n0_; have BK290 := n1_; have HB := n2_; clear n0_ n1_ n2_; (try clear hb); (try clear hb2); (try clear hk); (try clear hi)))
          try subst hji10
          go_meet
          case rel => exact ⟨_, (decide (t297 < 0)), (by first | rfl | (simp; done) | (simp [*]; done)), H', ⟨by first | omega | exact Nat.le_refl _⟩, ⟨Kd.Q_of_R (Kd.R_y HO293.out)⟩, ⟨by (with_reducible repeat (first | refine blk_drewN ?_ _ | refine blk_drew ?_ | refine blk_alloc ?_ _)); exact BK290.out⟩, ⟨by repeat (first | (with_reducible first | exact HB.out | apply below_alloc | apply pw_below_drewN | apply below_drew1 | refine below_set ?_ GE290.out) | exact HB.out)⟩⟩
        ·rw [if_neg c16] at H
         exact absurd H (by simp)
       ·rw [if_neg c14] at H
        have c14b0 : ((bt (rdOf ByteArray.empty t291 0) (ji10)) == 44) = false := beq_eq_false_iff_ne.mpr c14
        have c14b1 : ((bt (rdOf ByteArray.empty t291 0) (ji10)) != 44) = true := bne_iff_ne.mpr c14
        as_aux_lemma =>
         have H' := mkA H
         clear H
         have p295 : 0 ≤ (0 : Int) := (by omega)
         have q295 : 0 < (t291.length : Int) := odt
         obtain ⟨ad295, e295, hx295_0⟩ := Kd.at_string (Kd.R_reads' HO293.out).2.2 0 p295 q295
         obtain rfl : ad294 = ad295 := (by injection e295)
         have qi295 : (0 < t291.length) = True := eq_true (by omega)
         (try rw [show ((0 : Int)).toNat = 0 from rfl] at hx295_0)
         (try rw [Addr.add_zero'] at hx295_0)
         replace p295 := eq_true p295
         replace q295 := eq_true q295
         have p13 : 0 ≤ ((ji10) : Int) := odt
         have q13 : (ji10) < ((rdOf ByteArray.empty t291 0).size : Int) := odt
         have hx13 := bt_at (rdOf ByteArray.empty t291 0) (ji10)
         replace p13 := eq_true p13
         replace q13 := eq_true q13
         go_wp2_with (first | ((with_reducible refine gate_load (t := 52) rfl ?_); refine load_row3 (t := 52) (g := gb290) ?hg BK290.out ?ho ?hb Tryd.underlying52 rfl ?hs ?_; (case hg => rfl); (case ho => refine ⟨_, rfl, ?_⟩; first | (with_reducible rfl) | (go_simp; done)); (case hb => (with_reducible repeat (first | refine blk_drewN ?_ _ | refine blk_drew ?_ | refine blk_alloc ?_ _)); with_reducible exact BK290.out); (case hs => kernel_rfl)))
         try subst hji10
         go_meet
         case rel => exact ⟨_, (true), (by first | rfl | (simp; done) | (simp [*]; done)), H', ⟨by first | omega | exact Nat.le_refl _⟩, ⟨Kd.Q_of_R (Kd.R_y HO293.out)⟩, ⟨by (with_reducible repeat (first | refine blk_drewN ?_ _ | refine blk_drew ?_ | refine blk_alloc ?_ _)); exact BK290.out⟩, ⟨by repeat (first | (with_reducible first | exact HB.out | apply below_alloc | apply pw_below_drewN | apply below_drew1 | refine below_set ?_ GE290.out) | exact HB.out)⟩⟩
      ·rw [if_neg c12] at H
       exact absurd H (by simp)
     ·rw [if_neg c11] at H
      exact absurd H (by simp)
    case rest =>
     clear HC9
     try clear c1
     try clear p1
     try clear q1
     try clear hx1
     try clear p2
     try clear q2
     try clear hx2
     try clear qi2
     try clear c3
     try clear p6
     try clear c7
     try clear c7b0
     try clear c7b1
     try clear c8
     try clear c8b0
     try clear c8b1
     try clear c11
     try clear c11b0
     try clear c12
     try clear c12b0
     try clear p13
     try clear q13
     try clear hx13
     try clear c14
     try clear c14b0
     try clear c14b1
     try clear c15
     try clear c15b0
     try clear c16
     try clear c16b0
     try clear c16b1
     try clear hx294_0
     try clear hx295_0
     try clear hx296_0
     try clear p13
     try clear p294
     try clear p295
     try clear p296
     try clear q13
     try clear q294
     try clear q295
     try clear q296
     obtain ⟨kq, x37_8, rfl, HA, HJ8, HO_4, BK290, HB⟩ := hcut
     cases kq with
     | zero => exact absurd HA.out (by simp [newsreelref17_parse.j0])
     | succ kj8 =>
      have H := HA.out
      clear HA
      simp only [newsreelref17_parse.j0] at H
      by_cases c19 : x37_8 = true
      ·subst c19
       have H1 : (some (0, 0, 0, 0, 0, 0, 0, false, false)) = some (r1, r2, r3, r4, r5, r6, r7, r8, r9) := by rw [if_pos rfl] at H; exact H
       clear H
       have H := H1
       clear H1
       as_aux_lemma =>
        simp only [Option.some.injEq, Prod.mk.injEq] at H
        obtain ⟨rfl, rfl, rfl, rfl, rfl, rfl, rfl, rfl, rfl⟩ := H
        have hcz20_0 := bc BK290.out 0 (.int .i64 0) rfl
        have hcz20_1 := bc BK290.out 1 (.int .i64 0) rfl
        have hcz20_2 := bc BK290.out 2 (.int .i64 0) rfl
        have hcz20_3 := bc BK290.out 3 (.int .i64 0) rfl
        have hcz20_4 := bc BK290.out 4 (.int .i64 0) rfl
        have hcz20_5 := bc BK290.out 5 (.int .i64 0) rfl
        have hcz20_6 := bc BK290.out 6 (.int .i64 0) rfl
        have hcz20_7 := bc BK290.out 7 (.bool false) rfl
        have hfz20_0 := blk_frozen BK290.out 0
        have hfz20_1 := blk_frozen BK290.out 1
        have hfz20_2 := blk_frozen BK290.out 2
        have hfz20_3 := blk_frozen BK290.out 3
        have hfz20_4 := blk_frozen BK290.out 4
        have hfz20_5 := blk_frozen BK290.out 5
        have hfz20_6 := blk_frozen BK290.out 6
        have hfz20_7 := blk_frozen BK290.out 7
        go_wp2_with (first | ((with_reducible refine gate_load (t := 52) rfl ?_); refine load_row3 (t := 52) (g := gb290) ?hg BK290.out ?ho ?hb Tryd.underlying52 rfl ?hs ?_; (case hg => rfl); (case ho => refine ⟨_, rfl, ?_⟩; first | (with_reducible rfl) | (go_simp; done)); (case hb => (with_reducible repeat (first | refine blk_drewN ?_ _ | refine blk_drew ?_ | refine blk_alloc ?_ _)); with_reducible exact BK290.out); (case hs => kernel_rfl)) | ((with_reducible refine gate_store (t := 52) (p := 2) rfl ?_); refine store_whole2 (t := 52) (g := gb290) ?hg ?hn (cells := #[.int .i64 0, .int .i64 0, .int .i64 0, .int .i64 0, .int .i64 0, .int .i64 0, .int .i64 0, .bool false]) ?ho (blk_y BK290.out) (by kernel_rfl) rfl ?h1 ?_; (case hg => rfl); (case hn => rfl); (case ho => refine ⟨_, _, rfl, ?_, ?_⟩; all_goals (first | (with_reducible rfl) | (go_simp; done) | rfl | (go_simp; rfl))); (case h1 => first | rfl | simp [Value.oneCell']); intro w21 hw; have hg : wc.grownBy w21 (some gb290) := (by rw [hw]; exact grown_setRow _ _ _); have n0_ := mkA ((by have h0_ : Kd.Q Kd.string 9 wc w.heap.size (fun _ => True) (.slice (some ad294) t291.length co6) t291 := (Kd.Q_y HO_4.out); exact Kd.Q_mono (Kd.Q_grown (Kd.Q_types h0_ (blk_y BK290.out) (by decide)) hg (fun k_ hk_ e_ => hk_.2 (Option.some.inj e_))) (fun _ h_ => h_.1) : Kd.Q Kd.string 9 w21 w.heap.size (fun _ => True) (.slice (some ad294) t291.length co6) t291)); have n1_ := mkA ((by rw [hw]; exact setRow_heap _ _ _ _ _ _ (blk_y BK290.out) : w21.heap[gb290]? = some (.cells #[.int .i64 0, .int .i64 0, .int .i64 0, .int .i64 0, .int .i64 0, .int .i64 0, .int .i64 0, .bool false] 52 (0, 0)))); have n2_ := mkA ((by rw [hw]; exact below_setRow (below_y HB.out) GE290.out _ : Below w.heap.size w w21)); clear HO_4; clear BK290; clear HB; have HO_4 := n0_; have BK290 := n1_; have HB := n2_; clear n0_ n1_ n2_; clear hg hw))
        refine bodyPost_ret (results_ct rfl _ _ gb290 52 #[.int .i64 0, .int .i64 0, .int .i64 0, .int .i64 0, .int .i64 0, .int .i64 0, .int .i64 0, .bool false] (0, 0) _ rfl (blk_y BK290.out) Tryd.underlying52 rfl (by kernel_rfl)) rfl ?_
        exact ⟨by first | rfl | (simp [errW_none, errW_some] <;> rfl) | (simp [*, errW_none, errW_some] <;> rfl), by repeat (first | (with_reducible first | exact HB.out | apply below_alloc | apply pw_below_drewN | apply below_drew1 | refine below_set ?_ GE290.out) | exact HB.out)⟩
      ·replace c19 := Bool.eq_false_iff.mpr c19
       subst c19
       have H1 : (if 1 ≤ (t291.length : Int) then (newsreelref17_parse.j1 kj8 (t291.drop (1 : Int).toNat)) else (none)) = some (r1, r2, r3, r4, r5, r6, r7, r8, r9) := by rw [if_neg (show ¬ (false = true) by decide)] at H; exact H
       clear H
       have H := H1
       clear H1
       by_cases c22 : 1 ≤ (t291.length : Int)
       ·rw [if_pos c22] at H
        have c22b0 := eq_true c22
        have c22b1 : decide (1 ≤ (t291.length : Int)) = true := decide_eq_true c22
        clear c22
        obtain ⟨y298, hy298⟩ : ∃ y_ : List ByteArray, y_ = (t291.drop (1 : Int).toNat) := ⟨_, rfl⟩
        replace H : (newsreelref17_parse.j1 kj8 y298) = some (r1, r2, r3, r4, r5, r6, r7, r8, r9) := by first | (rw [hy298]; with_reducible exact H) | (have H2_ := (Option.bind_some _ _).symm.trans H; rw [hy298]; with_reducible exact H2_) | (have H2_ := (Option.bind_some _ _).symm.trans H; with_reducible exact H2_) | with_reducible exact H | (rw [hy298]; exact H) | exact H
        have Ny298 := mkA hy298
        clear hy298
        as_aux_lemma =>
         have H' := mkA H
         clear H
         have q23 : (1 : Int) ≤ ((t291.length : Int) : Int) := odt
         obtain ⟨i023, hi023, _, hsz23, _⟩ := info_parts info9
         have hcut23 := cut_from (P := Tryd.prog) 35 9 .i64 Tryd.underlying35 hi023 1 hsz23 (some ad294) t291.length co6 1 (by omega) q23
         have hr23 := Kd.Q_drop (k := (1 : Int).toNat) HO_4.out (by omega)
         obtain ⟨A23, hA23⟩ : ∃ Az_, Az_ = (if co6 = (1 : Int).toNat then (some ad294) else ((some ad294) : Option Addr).map (·.add ((1 : Int).toNat * 1))) := ⟨_, rfl⟩
         obtain ⟨c23, hc23⟩ : ∃ cz_, cz_ = co6 - (1 : Int).toNat := ⟨_, rfl⟩
         have hy23 : y298.length = t291.length - (1 : Int).toNat := (by rw [Ny298.out, List.length_drop])
         rw [← Ny298.out] at hr23
         rw [← hy23, ← hA23, ← hc23] at hcut23
         replace hr23 : Kd.Q Kd.string 9 wc w.heap.size (fun _ => True) (.slice A23 y298.length c23) y298 := (by rw [hA23, hc23, hy23]; exact hr23)
         have HE23 : Aside0 ((Value.slice A23 y298.length c23).ownBlock = (.slice (some ad294) t291.length co6 : Value).ownBlock) := ⟨by rw [hA23]; split <;> (cases ((some ad294) : Option Addr) <;> rfl)⟩
         clear hy23 hi023 hsz23 HO_4 hA23 hc23
         have HO300 := mkA hr23
         clear hr23
         replace q23 := eq_true q23
         go_wp2_with (first | ((with_reducible refine gate_load (t := 52) rfl ?_); refine load_row3 (t := 52) (g := gb290) ?hg BK290.out ?ho ?hb Tryd.underlying52 rfl ?hs ?_; (case hg => rfl); (case ho => refine ⟨_, rfl, ?_⟩; first | (with_reducible rfl) | (go_simp; done)); (case hb => (with_reducible repeat (first | refine blk_drewN ?_ _ | refine blk_drew ?_ | refine blk_alloc ?_ _)); with_reducible exact BK290.out); (case hs => kernel_rfl)))
         go_meet
         case rel => exact ⟨_, (y298), (0), (0), (0), (0), (0), (0), (0), (false), H', ⟨by have := HJ8.out; first | omega | exact Nat.le_refl _⟩, ⟨by (with_reducible repeat (first | apply Kd.Q_alloc | apply Kd.Q_drewN | apply Kd.Q_drew)); exact HO300.out⟩, ⟨by (with_reducible repeat (first | refine blk_drewN ?_ _ | refine blk_drew ?_ | refine blk_alloc ?_ _)); exact BK290.out⟩, ⟨by repeat (first | (with_reducible first | exact HB.out | apply below_alloc | apply pw_below_drewN | apply below_drew1 | refine below_set ?_ GE290.out) | exact HB.out)⟩⟩
       ·rw [if_neg c22] at H
        exact absurd H (by simp)
   ·rw [if_neg c8] at H
    exact absurd H (by simp)
  ·rw [if_neg c7] at H
   have c7b0 : ((t291.length : Int) == 6) = false := beq_eq_false_iff_ne.mpr c7
   have c7b1 : ((t291.length : Int) != 6) = true := bne_iff_ne.mpr c7
   (first | rw [c7b0] | (simp only [i64_w, i32_w]; rw [c7b0]) | skip)
   as_aux_lemma =>
    have H' := mkA H
    clear H
    go_wp2_with (first | ((with_reducible refine gate_load (t := 52) rfl ?_); refine load_row3 (t := 52) (g := gb290) ?hg BK290.out ?ho ?hb Tryd.underlying52 rfl ?hs ?_; (case hg => rfl); (case ho => refine ⟨_, rfl, ?_⟩; first | (with_reducible rfl) | (go_simp; done)); (case hb => (with_reducible repeat (first | refine blk_drewN ?_ _ | refine blk_drew ?_ | refine blk_alloc ?_ _)); with_reducible exact BK290.out); (case hs => kernel_rfl)))
    go_meet
    case rel => exact ⟨_, (t291), (0), (0), (0), (0), (0), (0), (0), (false), H', ⟨by first | omega | exact Nat.le_refl _⟩, ⟨Kd.Q_of_R (Kd.R_y HO293.out)⟩, ⟨by (with_reducible repeat (first | refine blk_drewN ?_ _ | refine blk_drew ?_ | refine blk_alloc ?_ _)); exact BK290.out⟩, ⟨by repeat (first | (with_reducible first | exact HB.out | apply below_alloc | apply pw_below_drewN | apply below_drew1 | refine below_set ?_ GE290.out) | exact HB.out)⟩⟩
 clear HC3
 try clear c1
 try clear p1
 try clear q1
 try clear hx1
 try clear c2
 try clear p2
 try clear q2
 try clear hx2
 try clear qi2
 try clear c3
 try clear p6
 try clear c7
 try clear c7b0
 try clear c7b1
 try clear c8
 try clear c8b0
 try clear c8b1
 try clear c11
 try clear c11b0
 try clear c12
 try clear c12b0
 try clear p13
 try clear q13
 try clear hx13
 try clear c14
 try clear c14b0
 try clear c14b1
 try clear c15
 try clear c15b0
 try clear c16
 try clear c16b0
 try clear c16b1
 try clear c19
 try clear c22
 try clear c22b0
 try clear c22b1
 try clear c23
 try clear q23
 try clear hcz20_0
 try clear hcz20_1
 try clear hcz20_2
 try clear hcz20_3
 try clear hcz20_4
 try clear hcz20_5
 try clear hcz20_6
 try clear hcz20_7
 try clear hfz20_0
 try clear hfz20_1
 try clear hfz20_2
 try clear hfz20_3
 try clear hfz20_4
 try clear hfz20_5
 try clear hfz20_6
 try clear hfz20_7
 try clear hx294_0
 try clear hx295_0
 try clear hx296_0
 try clear p1
 try clear p13
 try clear p2
 try clear p294
 try clear p295
 try clear p296
 try clear p6
 try clear q1
 try clear q13
 try clear q2
 try clear q23
 try clear q294
 try clear q295
 try clear q296
 obtain ⟨kq, x4_2, x291000_2, x291001_2, x291002_2, x291003_2, x291004_2, x291005_2, x291006_2, x291007_2, HA, HJ2, HO_4, BK290, HB⟩ := hcut
 rcases kq with _ | kj2
 ·exact absurd HA.out (by simp [newsreelref17_parse.j1])
 have H := HA.out
 clear HA
 simp only [newsreelref17_parse.j1] at H
 by_cases c24 : (x4_2.length : Int) = 5
 rotate_left
 ·rw [if_neg c24] at H
  have c24b0 : ((x4_2.length : Int) == 5) = false := beq_eq_false_iff_ne.mpr c24
  have c24b1 : ((x4_2.length : Int) != 5) = true := bne_iff_ne.mpr c24
  simp only [Option.some.injEq, Prod.mk.injEq] at H
  obtain ⟨rfl, rfl, rfl, rfl, rfl, rfl, rfl, rfl, rfl⟩ := H
  as_aux_lemma =>
   obtain ⟨Ao94, co94, eo94, _⟩ := Kd.Q_slice HO_4.out
   subst eo94
   have hcz95_0 := bc BK290.out 0 (.int .i64 x291000_2) rfl
   have hcz95_1 := bc BK290.out 1 (.int .i64 x291001_2) rfl
   have hcz95_2 := bc BK290.out 2 (.int .i64 x291002_2) rfl
   have hcz95_3 := bc BK290.out 3 (.int .i64 x291003_2) rfl
   have hcz95_4 := bc BK290.out 4 (.int .i64 x291004_2) rfl
   have hcz95_5 := bc BK290.out 5 (.int .i64 x291005_2) rfl
   have hcz95_6 := bc BK290.out 6 (.int .i64 x291006_2) rfl
   have hcz95_7 := bc BK290.out 7 (.bool x291007_2) rfl
   have hfz95_0 := blk_frozen BK290.out 0
   have hfz95_1 := blk_frozen BK290.out 1
   have hfz95_2 := blk_frozen BK290.out 2
   have hfz95_3 := blk_frozen BK290.out 3
   have hfz95_4 := blk_frozen BK290.out 4
   have hfz95_5 := blk_frozen BK290.out 5
   have hfz95_6 := blk_frozen BK290.out 6
   have hfz95_7 := blk_frozen BK290.out 7
   go_wp2_with (first | ((with_reducible refine gate_load (t := 52) rfl ?_); refine load_row3 (t := 52) (g := gb290) ?hg BK290.out ?ho ?hb Tryd.underlying52 rfl ?hs ?_; (case hg => rfl); (case ho => refine ⟨_, rfl, ?_⟩; first | (with_reducible rfl) | (go_simp; done)); (case hb => (with_reducible repeat (first | refine blk_drewN ?_ _ | refine blk_drew ?_ | refine blk_alloc ?_ _)); with_reducible exact BK290.out); (case hs => kernel_rfl)) | ((with_reducible refine gate_store (t := 52) (p := 2) rfl ?_); refine store_whole2 (t := 52) (g := gb290) ?hg ?hn (cells := #[.int .i64 0, .int .i64 0, .int .i64 0, .int .i64 0, .int .i64 0, .int .i64 0, .int .i64 0, .bool false]) ?ho (blk_y BK290.out) (by kernel_rfl) rfl ?h1 ?_; (case hg => rfl); (case hn => rfl); (case ho => refine ⟨_, _, rfl, ?_, ?_⟩; all_goals (first | (with_reducible rfl) | (go_simp; done) | rfl | (go_simp; rfl))); (case h1 => first | rfl | simp [Value.oneCell']); intro w96 hw; have hg : wc.grownBy w96 (some gb290) := (by rw [hw]; exact grown_setRow _ _ _); have n0_ := mkA ((by have h0_ : Kd.Q Kd.string 9 wc w.heap.size (fun _ => True) (.slice Ao94 x4_2.length co94) x4_2 := (Kd.Q_y HO_4.out); exact Kd.Q_mono (Kd.Q_grown (Kd.Q_types h0_ (blk_y BK290.out) (by decide)) hg (fun k_ hk_ e_ => hk_.2 (Option.some.inj e_))) (fun _ h_ => h_.1) : Kd.Q Kd.string 9 w96 w.heap.size (fun _ => True) (.slice Ao94 x4_2.length co94) x4_2)); have n1_ := mkA ((by rw [hw]; exact setRow_heap _ _ _ _ _ _ (blk_y BK290.out) : w96.heap[gb290]? = some (.cells #[.int .i64 0, .int .i64 0, .int .i64 0, .int .i64 0, .int .i64 0, .int .i64 0, .int .i64 0, .bool false] 52 (0, 0)))); have n2_ := mkA ((by rw [hw]; exact below_setRow (below_y HB.out) GE290.out _ : Below w.heap.size w w96)); clear HO_4; clear BK290; clear HB; have HO_4 := n0_; have BK290 := n1_; have HB := n2_; clear n0_ n1_ n2_; clear hg hw))
   refine bodyPost_ret (results_ct rfl _ _ gb290 52 #[.int .i64 0, .int .i64 0, .int .i64 0, .int .i64 0, .int .i64 0, .int .i64 0, .int .i64 0, .bool false] (0, 0) _ rfl (blk_y BK290.out) Tryd.underlying52 rfl (by kernel_rfl)) rfl ?_
   exact ⟨by first | rfl | (simp [errW_none, errW_some] <;> rfl) | (simp [*, errW_none, errW_some] <;> rfl), by repeat (first | (with_reducible first | exact HB.out | apply below_alloc | apply pw_below_drewN | apply below_drew1 | refine below_set ?_ GE290.out) | exact HB.out)⟩
 rw [if_pos c24] at H
 have c24b0 : ((x4_2.length : Int) == 5) = true := beq_iff_eq.mpr c24
 have c24b1 : ((x4_2.length : Int) != 5) = false := bne_eq_false_iff_eq.mpr c24
 clear c24
 by_cases c25 : 4 < (x4_2.length : Int)
 rotate_left
 ·rw [if_neg c25] at H
  exact absurd H (by simp)
 rw [if_pos c25] at H
 have c25b0 : decide (4 < (x4_2.length : Int)) = true := decide_eq_true c25
 have c25b1 : decide (4 < x4_2.length) = true := decide_eq_true (by omega)
 clear c25
 replace H := Option.bind_eq_some_iff.mp H
 obtain ⟨⟨t302, t303, t304⟩, A260, H⟩ := H
 replace H : (if 0 < (x4_2.length : Int) then ((newsreelref17_Number.f kj2 (rdOf ByteArray.empty x4_2 0) 2).bind fun t306 => (if ((rdOf ByteArray.empty x4_2 0).size : Int) = 1 then ((newsreelref17_Number.f kj2 (rdOf ByteArray.empty x4_2 0) 1).bind fun t309 => (newsreelref17_parse.j2 kj2 x4_2 t302 t303 t304 t309)) else (newsreelref17_parse.j2 kj2 x4_2 t302 t303 t304 t306))) else (none)) = some (r1, r2, r3, r4, r5, r6, r7, r8, r9) := H
 have A26 := mkA A260
 clear A260
 by_cases c27 : 0 < (x4_2.length : Int)
 rotate_left
 ·rw [if_neg c27] at H
  exact absurd H (by simp)
 rw [if_pos c27] at H
 have c27b0 : decide (0 < (x4_2.length : Int)) = true := decide_eq_true c27
 have c27b1 : decide (0 < x4_2.length) = true := decide_eq_true (by omega)
 clear c27
 replace H := Option.bind_eq_some_iff.mp H
 obtain ⟨t306, A280, H⟩ := H
 replace H : (if ((rdOf ByteArray.empty x4_2 0).size : Int) = 1 then ((newsreelref17_Number.f kj2 (rdOf ByteArray.empty x4_2 0) 1).bind fun t309 => (newsreelref17_parse.j2 kj2 x4_2 t302 t303 t304 t309)) else (newsreelref17_parse.j2 kj2 x4_2 t302 t303 t304 t306)) = some (r1, r2, r3, r4, r5, r6, r7, r8, r9) := H
 have A28 := mkA A280
 clear A280
 have HC29 := mkA H
 clear H
 obtain ⟨Ao30, co30, eo30, _⟩ := Kd.Q_slice HO_4.out
 subst eo30
 have p301 : 0 ≤ (4 : Int) := (by omega)
 have q301 : 4 < (x4_2.length : Int) := odt
 obtain ⟨ad301, e301, hx301_0⟩ := Kd.at_string (Kd.Q_reads' HO_4.out).2.2 4 p301 q301
 cases e301
 (try simp only [show (4 : Int).toNat = 4 from rfl, Nat.reduceMul, Nat.reduceEqDiff, Go.Addr.add, ↓reduceIte] at hx301_0)
 have qi301 : (4 < x4_2.length) = True := eq_true (by omega)
 (try rw [show ((4 : Int)).toNat = 4 from rfl] at hx301_0)
 replace p301 := eq_true p301
 replace q301 := eq_true q301
 go_upto_if 61 with (first | ((with_reducible refine gate_load (t := 52) rfl ?_); refine load_row3 (t := 52) (g := gb290) ?hg BK290.out ?ho ?hb Tryd.underlying52 rfl ?hs ?_; (case hg => rfl); (case ho => refine ⟨_, rfl, ?_⟩; first | (with_reducible rfl) | (go_simp; done)); (case hb => (with_reducible repeat (first | refine blk_drewN ?_ _ | refine blk_drew ?_ | refine blk_alloc ?_ _)); with_reducible exact BK290.out); (case hs => kernel_rfl)) | ((with_reducible refine gate_callee (f := 40) rfl ?_); refine goesL_ (some 49) rfl rfl Tryd.func40 (by kernel_rfl) rfl #[.string (rdOf ByteArray.empty x4_2 4)] rfl ca ?_; (with_reducible refine (newsreelref17_zone.calls kj2 (rdOf ByteArray.empty x4_2 4) t302 t303 t304 _ A26.out).mono ?_); rintro e w31 ⟨rfl, hb⟩; refine ⟨_, rfl, ?_⟩; have n0_ := mkA (Kd.Q_below (Kd.Q_y HO_4.out) hb); have n1_ := mkA (blk_below (blk_y BK290.out) hb); have n2_ := mkA (below_step (below_y HB.out) hb); clear HO_4; clear BK290; clear HB; have HO_4 := n0_; have BK290 := n1_; have HB := n2_; clear n0_ n1_ n2_; (try clear hb); (try clear hb2); (try clear hk); (try clear hi); have p305 : 0 ≤ (0 : Int) := (by omega); have q305 : 0 < (x4_2.length : Int) := odt; obtain ⟨ad305, e305, hx305_0⟩ := Kd.at_string (Kd.Q_reads' HO_4.out).2.2 0 p305 q305; obtain rfl : ad301 = ad305 := (by injection e305); have qi305 : (0 < x4_2.length) = True := eq_true (by omega); (try rw [show ((0 : Int)).toNat = 0 from rfl] at hx305_0); (try rw [Addr.add_zero'] at hx305_0); replace p305 := eq_true p305; replace q305 := eq_true q305) | ((with_reducible refine gate_callee (f := 41) rfl ?_); refine goesL_ (some 56) rfl rfl Tryd.func41 (by kernel_rfl) rfl #[.string (rdOf ByteArray.empty x4_2 0), .int .i64 2] rfl ca ?_; (with_reducible refine (newsreelref17_Number.calls kj2 (rdOf ByteArray.empty x4_2 0) 2 t306 _ A28.out).mono ?_); rintro e w' ⟨rfl, ⟨nd, rfl⟩⟩; refine ⟨_, rfl, ?_⟩; have p307 : 0 ≤ (0 : Int) := (by omega); have q307 : 0 < (x4_2.length : Int) := odt; obtain ⟨ad307, e307, hx307_0⟩ := Kd.at_string (Kd.Q_reads' HO_4.out).2.2 0 p307 q307; obtain rfl : ad301 = ad307 := (by injection e307); have qi307 : (0 < x4_2.length) = True := eq_true (by omega); (try rw [show ((0 : Int)).toNat = 0 from rfl] at hx307_0); (try rw [Addr.add_zero'] at hx307_0); replace p307 := eq_true p307; replace q307 := eq_true q307))
 (try simp only [Act.put, sA, s0, sS])
 go_cut [9] (fun v9 wc => ∃ (kq : Nat) (x9_28 : Int), v9 = .int .i64 x9_28 ∧ Aside0 (newsreelref17_parse.j2 kq x4_2 t302 t303 t304 x9_28 = some (r1, r2, r3, r4, r5, r6, r7, r8, r9)) ∧ Aside0 (kq ≤ kj2) ∧ Aside0 (Kd.Q Kd.string 9 wc w.heap.size (fun _ => True) (.slice (some ad301) x4_2.length co30) x4_2) ∧ Aside0 (wc.heap[gb290]? = some (.cells #[.int .i64 x291000_2, .int .i64 x291001_2, .int .i64 x291002_2, .int .i64 x291003_2, .int .i64 x291004_2, .int .i64 x291005_2, .int .i64 x291006_2, .bool x291007_2] 52 (0, 0))) ∧ Aside0 (Below w.heap.size w wc))
 case first =>
  have H := HC29.out
  clear HC29
  by_cases c32 : ((rdOf ByteArray.empty x4_2 0).size : Int) = 1
  ·rw [if_pos c32] at H
   have c32b0 : (((rdOf ByteArray.empty x4_2 0).size : Int) == 1) = true := beq_iff_eq.mpr c32
   have c32b1 : (((rdOf ByteArray.empty x4_2 0).size : Int) != 1) = false := bne_eq_false_iff_eq.mpr c32
   clear c32
   (first | rw [c32b0] | (simp only [i64_w, i32_w]; rw [c32b0]) | skip)
   replace H := Option.bind_eq_some_iff.mp H
   obtain ⟨t309, A330, H⟩ := H
   replace H : (newsreelref17_parse.j2 kj2 x4_2 t302 t303 t304 t309) = some (r1, r2, r3, r4, r5, r6, r7, r8, r9) := H
   have A33 := mkA A330
   clear A330
   as_aux_lemma =>
    have H' := mkA H
    clear H
    have p308 : 0 ≤ (0 : Int) := (by omega)
    have q308 : 0 < (x4_2.length : Int) := odt
    obtain ⟨ad308, e308, hx308_0⟩ := Kd.at_string (Kd.Q_reads' HO_4.out).2.2 0 p308 q308
    obtain rfl : ad301 = ad308 := (by injection e308)
    have qi308 : (0 < x4_2.length) = True := eq_true (by omega)
    (try rw [show ((0 : Int)).toNat = 0 from rfl] at hx308_0)
    (try rw [Addr.add_zero'] at hx308_0)
    replace p308 := eq_true p308
    replace q308 := eq_true q308
    go_wp2_with (first | ((with_reducible refine gate_load (t := 52) rfl ?_); refine load_row3 (t := 52) (g := gb290) ?hg BK290.out ?ho ?hb Tryd.underlying52 rfl ?hs ?_; (case hg => rfl); (case ho => refine ⟨_, rfl, ?_⟩; first | (with_reducible rfl) | (go_simp; done)); (case hb => (with_reducible repeat (first | refine blk_drewN ?_ _ | refine blk_drew ?_ | refine blk_alloc ?_ _)); with_reducible exact BK290.out); (case hs => kernel_rfl)) | ((with_reducible refine gate_callee (f := 41) rfl ?_); refine goesL_ (some 65) rfl rfl Tryd.func41 (by kernel_rfl) rfl #[.string (rdOf ByteArray.empty x4_2 0), .int .i64 1] rfl ca ?_; (with_reducible refine (newsreelref17_Number.calls kj2 (rdOf ByteArray.empty x4_2 0) 1 t309 _ A33.out).mono ?_); rintro e w' ⟨rfl, ⟨nd, rfl⟩⟩; refine ⟨_, rfl, ?_⟩))
    go_meet
    case rel => exact ⟨_, (t309), (by first | rfl | (simp; done) | (simp [*]; done)), H', ⟨by have := HJ2.out; first | omega | exact Nat.le_refl _⟩, ⟨by (with_reducible repeat (first | apply Kd.Q_alloc | apply Kd.Q_drewN | apply Kd.Q_drew)); exact HO_4.out⟩, ⟨by (with_reducible repeat (first | refine blk_drewN ?_ _ | refine blk_drew ?_ | refine blk_alloc ?_ _)); exact BK290.out⟩, ⟨by repeat (first | (with_reducible first | exact HB.out | apply below_alloc | apply pw_below_drewN | apply below_drew1 | refine below_set ?_ GE290.out) | exact HB.out)⟩⟩
  ·rw [if_neg c32] at H
   have c32b0 : (((rdOf ByteArray.empty x4_2 0).size : Int) == 1) = false := beq_eq_false_iff_ne.mpr c32
   have c32b1 : (((rdOf ByteArray.empty x4_2 0).size : Int) != 1) = true := bne_iff_ne.mpr c32
   (first | rw [c32b0] | (simp only [i64_w, i32_w]; rw [c32b0]) | skip)
   as_aux_lemma =>
    have H' := mkA H
    clear H
    go_wp2_with (first | ((with_reducible refine gate_load (t := 52) rfl ?_); refine load_row3 (t := 52) (g := gb290) ?hg BK290.out ?ho ?hb Tryd.underlying52 rfl ?hs ?_; (case hg => rfl); (case ho => refine ⟨_, rfl, ?_⟩; first | (with_reducible rfl) | (go_simp; done)); (case hb => (with_reducible repeat (first | refine blk_drewN ?_ _ | refine blk_drew ?_ | refine blk_alloc ?_ _)); with_reducible exact BK290.out); (case hs => kernel_rfl)))
    go_meet
    case rel => exact ⟨_, (t306), (by first | rfl | (simp; done) | (simp [*]; done)), H', ⟨by have := HJ2.out; first | omega | exact Nat.le_refl _⟩, ⟨by (with_reducible repeat (first | apply Kd.Q_alloc | apply Kd.Q_drewN | apply Kd.Q_drew)); exact HO_4.out⟩, ⟨by (with_reducible repeat (first | refine blk_drewN ?_ _ | refine blk_drew ?_ | refine blk_alloc ?_ _)); exact BK290.out⟩, ⟨by repeat (first | (with_reducible first | exact HB.out | apply below_alloc | apply pw_below_drewN | apply below_drew1 | refine below_set ?_ GE290.out) | exact HB.out)⟩⟩
 clear HC29
 try clear c1
 try clear p1
 try clear q1
 try clear hx1
 try clear c2
 try clear p2
 try clear q2
 try clear hx2
 try clear qi2
 try clear c3
 try clear p3
 try clear q3
 try clear hx3
 try clear qi3
 try clear c4
 try clear p6
 try clear c7
 try clear c7b0
 try clear c7b1
 try clear c8
 try clear c8b0
 try clear c8b1
 try clear c11
 try clear c11b0
 try clear c12
 try clear c12b0
 try clear p13
 try clear q13
 try clear hx13
 try clear c14
 try clear c14b0
 try clear c14b1
 try clear c15
 try clear c15b0
 try clear c16
 try clear c16b0
 try clear c16b1
 try clear c19
 try clear c22
 try clear c22b0
 try clear c22b1
 try clear c23
 try clear q23
 try clear c24
 try clear c24b0
 try clear c24b1
 try clear c25
 try clear c25b0
 try clear c25b1
 try clear c27
 try clear c27b0
 try clear c27b1
 try clear p29
 try clear q29
 try clear hx29
 try clear qi29
 try clear p30
 try clear q30
 try clear hx30
 try clear qi30
 try clear c32
 try clear c32b0
 try clear c32b1
 try clear hcz20_0
 try clear hcz20_1
 try clear hcz20_2
 try clear hcz20_3
 try clear hcz20_4
 try clear hcz20_5
 try clear hcz20_6
 try clear hcz20_7
 try clear hfz20_0
 try clear hfz20_1
 try clear hfz20_2
 try clear hfz20_3
 try clear hfz20_4
 try clear hfz20_5
 try clear hfz20_6
 try clear hfz20_7
 try clear hx294_0
 try clear hx295_0
 try clear hx296_0
 try clear hx301_0
 try clear hx305_0
 try clear hx307_0
 try clear hx308_0
 try clear p1
 try clear p13
 try clear p2
 try clear p294
 try clear p295
 try clear p296
 try clear p301
 try clear p305
 try clear p307
 try clear p308
 try clear p6
 try clear q1
 try clear q13
 try clear q2
 try clear q23
 try clear q294
 try clear q295
 try clear q296
 try clear q301
 try clear q305
 try clear q307
 try clear q308
 obtain ⟨kq, x9_28, rfl, HA, HJ28, HO_4, BK290, HB⟩ := hcut
 rcases kq with _ | kj28
 ·exact absurd HA.out (by simp [newsreelref17_parse.j2])
 have H := HA.out
 clear HA
 simp only [newsreelref17_parse.j2] at H
 by_cases c34 : 3 < (x4_2.length : Int)
 rotate_left
 ·rw [if_neg c34] at H
  exact absurd H (by simp)
 rw [if_pos c34] at H
 have c34b0 : decide (3 < (x4_2.length : Int)) = true := decide_eq_true c34
 have c34b1 : decide (3 < x4_2.length) = true := decide_eq_true (by omega)
 clear c34
 replace H := Option.bind_eq_some_iff.mp H
 obtain ⟨t311, A350, H⟩ := H
 replace H : (if (t311.length : Int) = 2 then (newsreelref17_parse.j3 kj28 x4_2 t302 t303 t304 x9_28 t311 false) else (newsreelref17_parse.j3 kj28 x4_2 t302 t303 t304 x9_28 t311 ((t311.length : Int) != 3))) = some (r1, r2, r3, r4, r5, r6, r7, r8, r9) := H
 have A35 := mkA A350
 clear A350
 have HC36 := mkA H
 clear H
 have p310 : 0 ≤ (3 : Int) := (by omega)
 have q310 : 3 < (x4_2.length : Int) := odt
 obtain ⟨ad310, e310, hx310_0⟩ := Kd.at_string (Kd.Q_reads' HO_4.out).2.2 3 p310 q310
 obtain rfl : ad301 = ad310 := (by injection e310)
 (try simp only [show (3 : Int).toNat = 3 from rfl, Nat.reduceMul, Nat.reduceEqDiff, Go.Addr.add, ↓reduceIte] at hx310_0)
 have qi310 : (3 < x4_2.length) = True := eq_true (by omega)
 (try rw [show ((3 : Int)).toNat = 3 from rfl] at hx310_0)
 replace p310 := eq_true p310
 replace q310 := eq_true q310
 go_upto_region 14 with (first | ((with_reducible refine gate_load (t := 52) rfl ?_); refine load_row3 (t := 52) (g := gb290) ?hg BK290.out ?ho ?hb Tryd.underlying52 rfl ?hs ?_; (case hg => rfl); (case ho => refine ⟨_, rfl, ?_⟩; first | (with_reducible rfl) | (go_simp; done)); (case hb => (with_reducible repeat (first | refine blk_drewN ?_ _ | refine blk_drew ?_ | refine blk_alloc ?_ _)); with_reducible exact BK290.out); (case hs => kernel_rfl)) | ((with_reducible refine gate_callee (f := 42) rfl ?_); refine goesL_ (some 69) rfl rfl Tryd.func42 (by kernel_rfl) rfl #[.string (rdOf ByteArray.empty x4_2 3), .int .u8 58] rfl ca ?_; (with_reducible refine (newsreelref02_Split.calls kj28 (rdOf ByteArray.empty x4_2 3) 58 t311 _ A35.out).mono ?_); rintro e w37 ⟨v312, rfl, ho0, hb⟩; refine ⟨_, rfl, ?_⟩; have n0_ := mkA (Kd.Q_elder' (Kd.Q_y HO_4.out) (Kd.R_base ho0) hb); have n1_ := mkA (Kd.R_lower (Kd.R_new' ho0 (Kd.Q_lt (Kd.Q_y HO_4.out))) (below_size (below_y HB.out))); have n2_ := mkA (blk_below (blk_y BK290.out) hb); have n3_ := mkA (below_step (below_y HB.out) hb); clear HO_4; clear BK290; clear HB; have HO_4 := n0_; have HO313 := n1_; have BK290 := n2_; have HB := n3_; clear n0_ n1_ n2_ n3_; (try clear hb); (try clear hb2); (try clear hk); (try clear hi); (try clear ho0)))
 (try simp only [Act.put, sA, s0, sS])
 go_cut [77] (fun v77 wc => ∃ (kq : Nat) (x77_35 : Bool), v77 = .bool x77_35 ∧ Aside0 (newsreelref17_parse.j3 kq x4_2 t302 t303 t304 x9_28 t311 x77_35 = some (r1, r2, r3, r4, r5, r6, r7, r8, r9)) ∧ Aside0 (kq ≤ kj28) ∧ Aside0 (Kd.Q Kd.string 9 wc w.heap.size (fun k_ => some k_ ≠ (v312 : Value).ownBlock) (.slice (some ad301) x4_2.length co30) x4_2) ∧ Aside0 (Kd.R Kd.string 9 wc w.heap.size (fun k_ => some k_ ≠ ((.slice (some ad301) x4_2.length co30) : Value).ownBlock) v312 t311) ∧ Aside0 (wc.heap[gb290]? = some (.cells #[.int .i64 x291000_2, .int .i64 x291001_2, .int .i64 x291002_2, .int .i64 x291003_2, .int .i64 x291004_2, .int .i64 x291005_2, .int .i64 x291006_2, .bool x291007_2] 52 (0, 0))) ∧ Aside0 (Below w.heap.size w wc))
 case first =>
  have H := HC36.out
  clear HC36
  by_cases c38 : (t311.length : Int) = 2
  ·rw [if_pos c38] at H
   have c38b0 : ((t311.length : Int) == 2) = true := beq_iff_eq.mpr c38
   have c38b1 : ((t311.length : Int) != 2) = false := bne_eq_false_iff_eq.mpr c38
   clear c38
   (first | rw [c38b0] | (simp only [i64_w, i32_w]; rw [c38b0]) | skip)
   as_aux_lemma =>
    have H' := mkA H
    clear H
    obtain ⟨Ao39, co39, eo39⟩ := Kd.R_slice HO313.out
    subst eo39
    go_wp2_with (first | ((with_reducible refine gate_load (t := 52) rfl ?_); refine load_row3 (t := 52) (g := gb290) ?hg BK290.out ?ho ?hb Tryd.underlying52 rfl ?hs ?_; (case hg => rfl); (case ho => refine ⟨_, rfl, ?_⟩; first | (with_reducible rfl) | (go_simp; done)); (case hb => (with_reducible repeat (first | refine blk_drewN ?_ _ | refine blk_drew ?_ | refine blk_alloc ?_ _)); with_reducible exact BK290.out); (case hs => kernel_rfl)))
    go_meet
    case rel => exact ⟨_, (false), (by first | rfl | (simp; done) | (simp [*]; done)), H', ⟨by have := HJ2.out; have := HJ28.out; first | omega | exact Nat.le_refl _⟩, ⟨by (with_reducible repeat (first | apply Kd.Q_alloc | apply Kd.Q_drewN | apply Kd.Q_drew)); exact Kd.Q_mono HO_4.out (fun _ hk => hk.2)⟩, ⟨by (with_reducible repeat (first | apply Kd.R_alloc | apply Kd.R_drewN | apply Kd.R_drew)); exact Kd.R_mono HO313.out (fun _ hk => hk.2)⟩, ⟨by (with_reducible repeat (first | refine blk_drewN ?_ _ | refine blk_drew ?_ | refine blk_alloc ?_ _)); exact BK290.out⟩, ⟨by repeat (first | (with_reducible first | exact HB.out | apply below_alloc | apply pw_below_drewN | apply below_drew1 | refine below_set ?_ GE290.out) | exact HB.out)⟩⟩
  ·rw [if_neg c38] at H
   have c38b0 : ((t311.length : Int) == 2) = false := beq_eq_false_iff_ne.mpr c38
   have c38b1 : ((t311.length : Int) != 2) = true := bne_iff_ne.mpr c38
   (first | rw [c38b0] | (simp only [i64_w, i32_w]; rw [c38b0]) | skip)
   as_aux_lemma =>
    have H' := mkA H
    clear H
    obtain ⟨Ao40, co40, eo40⟩ := Kd.R_slice HO313.out
    subst eo40
    go_wp2_with (first | ((with_reducible refine gate_load (t := 52) rfl ?_); refine load_row3 (t := 52) (g := gb290) ?hg BK290.out ?ho ?hb Tryd.underlying52 rfl ?hs ?_; (case hg => rfl); (case ho => refine ⟨_, rfl, ?_⟩; first | (with_reducible rfl) | (go_simp; done)); (case hb => (with_reducible repeat (first | refine blk_drewN ?_ _ | refine blk_drew ?_ | refine blk_alloc ?_ _)); with_reducible exact BK290.out); (case hs => kernel_rfl)))
    go_meet
    case rel => exact ⟨_, (((t311.length : Int) != 3)), (by first | rfl | (simp; done) | (simp [*]; done)), H', ⟨by have := HJ2.out; have := HJ28.out; first | omega | exact Nat.le_refl _⟩, ⟨by (with_reducible repeat (first | apply Kd.Q_alloc | apply Kd.Q_drewN | apply Kd.Q_drew)); exact Kd.Q_mono HO_4.out (fun _ hk => hk.2)⟩, ⟨by (with_reducible repeat (first | apply Kd.R_alloc | apply Kd.R_drewN | apply Kd.R_drew)); exact Kd.R_mono HO313.out (fun _ hk => hk.2)⟩, ⟨by (with_reducible repeat (first | refine blk_drewN ?_ _ | refine blk_drew ?_ | refine blk_alloc ?_ _)); exact BK290.out⟩, ⟨by repeat (first | (with_reducible first | exact HB.out | apply below_alloc | apply pw_below_drewN | apply below_drew1 | refine below_set ?_ GE290.out) | exact HB.out)⟩⟩
 clear HC36
 try clear c1
 try clear p1
 try clear q1
 try clear hx1
 try clear c2
 try clear p2
 try clear q2
 try clear hx2
 try clear qi2
 try clear c3
 try clear p3
 try clear q3
 try clear hx3
 try clear qi3
 try clear c4
 try clear p6
 try clear c7
 try clear c7b0
 try clear c7b1
 try clear c8
 try clear c8b0
 try clear c8b1
 try clear c11
 try clear c11b0
 try clear c12
 try clear c12b0
 try clear p13
 try clear q13
 try clear hx13
 try clear c14
 try clear c14b0
 try clear c14b1
 try clear c15
 try clear c15b0
 try clear c16
 try clear c16b0
 try clear c16b1
 try clear c19
 try clear c22
 try clear c22b0
 try clear c22b1
 try clear c23
 try clear q23
 try clear c24
 try clear c24b0
 try clear c24b1
 try clear c25
 try clear c25b0
 try clear c25b1
 try clear c27
 try clear c27b0
 try clear c27b1
 try clear p29
 try clear q29
 try clear hx29
 try clear qi29
 try clear p30
 try clear q30
 try clear hx30
 try clear qi30
 try clear p31
 try clear q31
 try clear hx31
 try clear qi31
 try clear c32
 try clear c32b0
 try clear c32b1
 try clear c34
 try clear c34b0
 try clear c34b1
 try clear c38
 try clear c38b0
 try clear c38b1
 try clear c40
 try clear hcz20_0
 try clear hcz20_1
 try clear hcz20_2
 try clear hcz20_3
 try clear hcz20_4
 try clear hcz20_5
 try clear hcz20_6
 try clear hcz20_7
 try clear hfz20_0
 try clear hfz20_1
 try clear hfz20_2
 try clear hfz20_3
 try clear hfz20_4
 try clear hfz20_5
 try clear hfz20_6
 try clear hfz20_7
 try clear hx294_0
 try clear hx295_0
 try clear hx296_0
 try clear hx301_0
 try clear hx305_0
 try clear hx307_0
 try clear hx308_0
 try clear hx310_0
 try clear p1
 try clear p13
 try clear p2
 try clear p29
 try clear p294
 try clear p295
 try clear p296
 try clear p3
 try clear p30
 try clear p301
 try clear p305
 try clear p307
 try clear p308
 try clear p310
 try clear p6
 try clear q1
 try clear q13
 try clear q2
 try clear q23
 try clear q29
 try clear q294
 try clear q295
 try clear q296
 try clear q3
 try clear q30
 try clear q301
 try clear q305
 try clear q307
 try clear q308
 try clear q310
 obtain ⟨kq, x77_35, rfl, HA, HJ35, HO_4, HO_10, BK290, HB⟩ := hcut
 rcases kq with _ | kj35
 ·exact absurd HA.out (by simp [newsreelref17_parse.j3])
 have H := HA.out
 clear HA
 simp only [newsreelref17_parse.j3] at H
 by_cases c41 : x77_35 = true
 ·subst c41
  have H1 : (some (0, 0, 0, 0, 0, 0, 0, false, false)) = some (r1, r2, r3, r4, r5, r6, r7, r8, r9) := by rw [if_pos rfl] at H; exact H
  clear H
  have H := H1
  clear H1
  as_aux_lemma =>
   simp only [Option.some.injEq, Prod.mk.injEq] at H
   obtain ⟨rfl, rfl, rfl, rfl, rfl, rfl, rfl, rfl, rfl⟩ := H
   have hcz42_0 := bc BK290.out 0 (.int .i64 x291000_2) rfl
   have hcz42_1 := bc BK290.out 1 (.int .i64 x291001_2) rfl
   have hcz42_2 := bc BK290.out 2 (.int .i64 x291002_2) rfl
   have hcz42_3 := bc BK290.out 3 (.int .i64 x291003_2) rfl
   have hcz42_4 := bc BK290.out 4 (.int .i64 x291004_2) rfl
   have hcz42_5 := bc BK290.out 5 (.int .i64 x291005_2) rfl
   have hcz42_6 := bc BK290.out 6 (.int .i64 x291006_2) rfl
   have hcz42_7 := bc BK290.out 7 (.bool x291007_2) rfl
   have hfz42_0 := blk_frozen BK290.out 0
   have hfz42_1 := blk_frozen BK290.out 1
   have hfz42_2 := blk_frozen BK290.out 2
   have hfz42_3 := blk_frozen BK290.out 3
   have hfz42_4 := blk_frozen BK290.out 4
   have hfz42_5 := blk_frozen BK290.out 5
   have hfz42_6 := blk_frozen BK290.out 6
   have hfz42_7 := blk_frozen BK290.out 7
   go_wp2_with (first | ((with_reducible refine gate_load (t := 52) rfl ?_); refine load_row3 (t := 52) (g := gb290) ?hg BK290.out ?ho ?hb Tryd.underlying52 rfl ?hs ?_; (case hg => rfl); (case ho => refine ⟨_, rfl, ?_⟩; first | (with_reducible rfl) | (go_simp; done)); (case hb => (with_reducible repeat (first | refine blk_drewN ?_ _ | refine blk_drew ?_ | refine blk_alloc ?_ _)); with_reducible exact BK290.out); (case hs => kernel_rfl)) | ((with_reducible refine gate_store (t := 52) (p := 2) rfl ?_); refine store_whole2 (t := 52) (g := gb290) ?hg ?hn (cells := #[.int .i64 0, .int .i64 0, .int .i64 0, .int .i64 0, .int .i64 0, .int .i64 0, .int .i64 0, .bool false]) ?ho (blk_y BK290.out) (by kernel_rfl) rfl ?h1 ?_; (case hg => rfl); (case hn => rfl); (case ho => refine ⟨_, _, rfl, ?_, ?_⟩; all_goals (first | (with_reducible rfl) | (go_simp; done) | rfl | (go_simp; rfl))); (case h1 => first | rfl | simp [Value.oneCell']); intro w43 hw; have hg : wc.grownBy w43 (some gb290) := (by rw [hw]; exact grown_setRow _ _ _); have n0_ := mkA ((by have h0_ : Kd.Q Kd.string 9 wc w.heap.size (fun k_ => some k_ ≠ (v312 : Value).ownBlock) (.slice (some ad301) x4_2.length co30) x4_2 := (Kd.Q_y HO_4.out); exact Kd.Q_mono (Kd.Q_grown (Kd.Q_types h0_ (blk_y BK290.out) (by decide)) hg (fun k_ hk_ e_ => hk_.2 (Option.some.inj e_))) (fun _ h_ => h_.1) : Kd.Q Kd.string 9 w43 w.heap.size (fun k_ => some k_ ≠ (v312 : Value).ownBlock) (.slice (some ad301) x4_2.length co30) x4_2)); have n1_ := mkA ((by have h0_ : Kd.R Kd.string 9 wc w.heap.size (fun k_ => some k_ ≠ (.slice (some ad301) x4_2.length co30 : Value).ownBlock) v312 t311 := (Kd.R_y HO_10.out); exact Kd.R_mono (Kd.R_grown (Kd.R_types h0_ (blk_y BK290.out) (by decide)) hg (fun k_ hk_ e_ => hk_.2 (Option.some.inj e_))) (fun _ h_ => h_.1) : Kd.R Kd.string 9 w43 w.heap.size (fun k_ => some k_ ≠ (.slice (some ad301) x4_2.length co30 : Value).ownBlock) v312 t311)); have n2_ := mkA ((by rw [hw]; exact setRow_heap _ _ _ _ _ _ (blk_y BK290.out) : w43.heap[gb290]? = some (.cells #[.int .i64 0, .int .i64 0, .int .i64 0, .int .i64 0, .int .i64 0, .int .i64 0, .int .i64 0, .bool false] 52 (0, 0)))); have n3_ := mkA ((by rw [hw]; exact below_setRow (below_y HB.out) GE290.out _ : Below w.heap.size w w43)); clear HO_4; clear HO_10; clear BK290; clear HB; have HO_4 := n0_; have HO_10 := n1_; have BK290 := n2_; have HB := n3_; clear n0_ n1_ n2_ n3_; clear hg hw))
   refine bodyPost_ret (results_ct rfl _ _ gb290 52 #[.int .i64 0, .int .i64 0, .int .i64 0, .int .i64 0, .int .i64 0, .int .i64 0, .int .i64 0, .bool false] (0, 0) _ rfl (blk_y BK290.out) Tryd.underlying52 rfl (by kernel_rfl)) rfl ?_
   exact ⟨by first | rfl | (simp [errW_none, errW_some] <;> rfl) | (simp [*, errW_none, errW_some] <;> rfl), by repeat (first | (with_reducible first | exact HB.out | apply below_alloc | apply pw_below_drewN | apply below_drew1 | refine below_set ?_ GE290.out) | exact HB.out)⟩
 replace c41 := Bool.eq_false_iff.mpr c41
 subst c41
 have H1 : (if 2 < (x4_2.length : Int) then ((newsreelref17_year.f kj35 (rdOf ByteArray.empty x4_2 2)).bind fun t315 => (if 1 < (x4_2.length : Int) then ((newsreelref17_place.f kj35 false (rdOf ByteArray.empty x4_2 1)).bind fun t317 => (if 0 < (t311.length : Int) then ((newsreelref17_Number.f kj35 (rdOf ByteArray.empty t311 0) 2).bind fun t319 => (if 1 < (t311.length : Int) then ((newsreelref17_Number.f kj35 (rdOf ByteArray.empty t311 1) 2).bind fun t321 => (if (t311.length : Int) = 3 then (if 2 < (t311.length : Int) then ((newsreelref17_Number.f kj35 (rdOf ByteArray.empty t311 2) 2).bind fun t324 => (newsreelref17_parse.j4 kj35 t304 t315 (wrap64 (t317 + 1)) x9_28 t319 t321 t324 t302 t303)) else (none)) else (newsreelref17_parse.j4 kj35 t304 t315 (wrap64 (t317 + 1)) x9_28 t319 t321 0 t302 t303))) else (none))) else (none))) else (none))) else (none)) = some (r1, r2, r3, r4, r5, r6, r7, r8, r9) := by rw [if_neg (show ¬ (false = true) by decide)] at H; exact H
 clear H
 have H := H1
 clear H1
 by_cases c44 : 2 < (x4_2.length : Int)
 rotate_left
 ·rw [if_neg c44] at H
  exact absurd H (by simp)
 rw [if_pos c44] at H
 have c44b0 : decide (2 < (x4_2.length : Int)) = true := decide_eq_true c44
 have c44b1 : decide (2 < x4_2.length) = true := decide_eq_true (by omega)
 clear c44
 replace H := Option.bind_eq_some_iff.mp H
 obtain ⟨t315, A450, H⟩ := H
 replace H : (if 1 < (x4_2.length : Int) then ((newsreelref17_place.f kj35 false (rdOf ByteArray.empty x4_2 1)).bind fun t317 => (if 0 < (t311.length : Int) then ((newsreelref17_Number.f kj35 (rdOf ByteArray.empty t311 0) 2).bind fun t319 => (if 1 < (t311.length : Int) then ((newsreelref17_Number.f kj35 (rdOf ByteArray.empty t311 1) 2).bind fun t321 => (if (t311.length : Int) = 3 then (if 2 < (t311.length : Int) then ((newsreelref17_Number.f kj35 (rdOf ByteArray.empty t311 2) 2).bind fun t324 => (newsreelref17_parse.j4 kj35 t304 t315 (wrap64 (t317 + 1)) x9_28 t319 t321 t324 t302 t303)) else (none)) else (newsreelref17_parse.j4 kj35 t304 t315 (wrap64 (t317 + 1)) x9_28 t319 t321 0 t302 t303))) else (none))) else (none))) else (none)) = some (r1, r2, r3, r4, r5, r6, r7, r8, r9) := H
 have A45 := mkA A450
 clear A450
 by_cases c46 : 1 < (x4_2.length : Int)
 rotate_left
 ·rw [if_neg c46] at H
  exact absurd H (by simp)
 rw [if_pos c46] at H
 have c46b0 : decide (1 < (x4_2.length : Int)) = true := decide_eq_true c46
 have c46b1 : decide (1 < x4_2.length) = true := decide_eq_true (by omega)
 clear c46
 replace H := Option.bind_eq_some_iff.mp H
 obtain ⟨t317, A470, H⟩ := H
 replace H : (if 0 < (t311.length : Int) then ((newsreelref17_Number.f kj35 (rdOf ByteArray.empty t311 0) 2).bind fun t319 => (if 1 < (t311.length : Int) then ((newsreelref17_Number.f kj35 (rdOf ByteArray.empty t311 1) 2).bind fun t321 => (if (t311.length : Int) = 3 then (if 2 < (t311.length : Int) then ((newsreelref17_Number.f kj35 (rdOf ByteArray.empty t311 2) 2).bind fun t324 => (newsreelref17_parse.j4 kj35 t304 t315 (wrap64 (t317 + 1)) x9_28 t319 t321 t324 t302 t303)) else (none)) else (newsreelref17_parse.j4 kj35 t304 t315 (wrap64 (t317 + 1)) x9_28 t319 t321 0 t302 t303))) else (none))) else (none)) = some (r1, r2, r3, r4, r5, r6, r7, r8, r9) := H
 have A47 := mkA A470
 clear A470
 by_cases c48 : 0 < (t311.length : Int)
 rotate_left
 ·rw [if_neg c48] at H
  exact absurd H (by simp)
 rw [if_pos c48] at H
 have c48b0 : decide (0 < (t311.length : Int)) = true := decide_eq_true c48
 have c48b1 : decide (0 < t311.length) = true := decide_eq_true (by omega)
 clear c48
 replace H := Option.bind_eq_some_iff.mp H
 obtain ⟨t319, A490, H⟩ := H
 replace H : (if 1 < (t311.length : Int) then ((newsreelref17_Number.f kj35 (rdOf ByteArray.empty t311 1) 2).bind fun t321 => (if (t311.length : Int) = 3 then (if 2 < (t311.length : Int) then ((newsreelref17_Number.f kj35 (rdOf ByteArray.empty t311 2) 2).bind fun t324 => (newsreelref17_parse.j4 kj35 t304 t315 (wrap64 (t317 + 1)) x9_28 t319 t321 t324 t302 t303)) else (none)) else (newsreelref17_parse.j4 kj35 t304 t315 (wrap64 (t317 + 1)) x9_28 t319 t321 0 t302 t303))) else (none)) = some (r1, r2, r3, r4, r5, r6, r7, r8, r9) := H
 have A49 := mkA A490
 clear A490
 by_cases c50 : 1 < (t311.length : Int)
 rotate_left
 ·rw [if_neg c50] at H
  exact absurd H (by simp)
 rw [if_pos c50] at H
 have c50b0 : decide (1 < (t311.length : Int)) = true := decide_eq_true c50
 have c50b1 : decide (1 < t311.length) = true := decide_eq_true (by omega)
 clear c50
 replace H := Option.bind_eq_some_iff.mp H
 obtain ⟨t321, A510, H⟩ := H
 replace H : (if (t311.length : Int) = 3 then (if 2 < (t311.length : Int) then ((newsreelref17_Number.f kj35 (rdOf ByteArray.empty t311 2) 2).bind fun t324 => (newsreelref17_parse.j4 kj35 t304 t315 (wrap64 (t317 + 1)) x9_28 t319 t321 t324 t302 t303)) else (none)) else (newsreelref17_parse.j4 kj35 t304 t315 (wrap64 (t317 + 1)) x9_28 t319 t321 0 t302 t303)) = some (r1, r2, r3, r4, r5, r6, r7, r8, r9) := H
 have A51 := mkA A510
 clear A510
 have HC52 := mkA H
 clear H
 try go_wp2_with (first | ((with_reducible refine gate_load (t := 52) rfl ?_); refine load_row3 (t := 52) (g := gb290) ?hg BK290.out ?ho ?hb Tryd.underlying52 rfl ?hs ?_; (case hg => rfl); (case ho => refine ⟨_, rfl, ?_⟩; first | (with_reducible rfl) | (go_simp; done)); (case hb => (with_reducible repeat (first | refine blk_drewN ?_ _ | refine blk_drew ?_ | refine blk_alloc ?_ _)); with_reducible exact BK290.out); (case hs => kernel_rfl)) | ((with_reducible refine gate_load (t := 52) rfl ?_); refine load_row3 (t := 52) (g := gb322) ?hg BK322.out ?ho ?hb Tryd.underlying52 rfl ?hs ?_; (case hg => rfl); (case ho => refine ⟨_, rfl, ?_⟩; first | (with_reducible rfl) | (go_simp; done)); (case hb => (with_reducible repeat (first | refine blk_drewN ?_ _ | refine blk_drew ?_ | refine blk_alloc ?_ _)); with_reducible exact BK322.out); (case hs => kernel_rfl)))
 have n0_ := mkA (Kd.Q_drew HO_4.out)
 have n1_ := mkA (Kd.R_drew HO_10.out)
 have n2_ := mkA (blk_drew BK290.out)
 try (have HBd_ := mkA (below_drew1 (pw_below_drewN HB.out nd)))
 have n3_ := mkA (below_drew1 HB.out)
 clear HO_4 HO_10 BK290 HB
 have HO_4 := n0_
 have HO_10 := n1_
 have BK290 := n2_
 have HB := n3_
 clear n0_ n1_ n2_ n3_
 have p314 : 0 ≤ (2 : Int) := (by omega)
 have q314 : 2 < (x4_2.length : Int) := odt
 obtain ⟨ad314, e314, hx314_0⟩ := Kd.at_string (Kd.Q_reads' HO_4.out).2.2 2 p314 q314
 obtain rfl : ad301 = ad314 := (by injection e314)
 (try simp only [show (2 : Int).toNat = 2 from rfl, Nat.reduceMul, Nat.reduceEqDiff, Go.Addr.add, ↓reduceIte] at hx314_0)
 have qi314 : (2 < x4_2.length) = True := eq_true (by omega)
 (try rw [show ((2 : Int)).toNat = 2 from rfl] at hx314_0)
 replace p314 := eq_true p314
 replace q314 := eq_true q314
 have p316 : 0 ≤ (1 : Int) := (by omega)
 have q316 : 1 < (x4_2.length : Int) := odt
 obtain ⟨ad316, e316, hx316_0⟩ := Kd.at_string (Kd.Q_reads' HO_4.out).2.2 1 p316 q316
 obtain rfl : ad301 = ad316 := (by injection e316)
 (try simp only [show (1 : Int).toNat = 1 from rfl, Nat.reduceMul, Nat.reduceEqDiff, Go.Addr.add, ↓reduceIte] at hx316_0)
 have qi316 : (1 < x4_2.length) = True := eq_true (by omega)
 (try rw [show ((1 : Int)).toNat = 1 from rfl] at hx316_0)
 replace p316 := eq_true p316
 replace q316 := eq_true q316
 obtain ⟨Ao54, co54, eo54⟩ := Kd.R_slice HO_10.out
 (first | subst eo54 | (injection eo54 with f1_ f2_ f3_; have f4_ := f1_.symm; have f5_ := f3_.symm; clear f1_ f2_ f3_; subst f4_; subst f5_))
 have p318 : 0 ≤ (0 : Int) := (by omega)
 have q318 : 0 < (t311.length : Int) := odt
 obtain ⟨ad318, e318, hx318_0⟩ := Kd.at_string (Kd.R_reads' HO_10.out).2.2 0 p318 q318
 cases e318
 have qi318 : (0 < t311.length) = True := eq_true (by omega)
 (try rw [show ((0 : Int)).toNat = 0 from rfl] at hx318_0)
 (try rw [Addr.add_zero'] at hx318_0)
 replace p318 := eq_true p318
 replace q318 := eq_true q318
 have p320 : 0 ≤ (1 : Int) := (by omega)
 have q320 : 1 < (t311.length : Int) := odt
 obtain ⟨ad320, e320, hx320_0⟩ := Kd.at_string (Kd.R_reads' HO_10.out).2.2 1 p320 q320
 obtain rfl : ad318 = ad320 := (by injection e320)
 (try simp only [show (1 : Int).toNat = 1 from rfl, Nat.reduceMul, Nat.reduceEqDiff, Go.Addr.add, ↓reduceIte] at hx320_0)
 have qi320 : (1 < t311.length) = True := eq_true (by omega)
 (try rw [show ((1 : Int)).toNat = 1 from rfl] at hx320_0)
 replace p320 := eq_true p320
 replace q320 := eq_true q320
 refine start_ (n := 24) (S := fun w' => w'.cell? ⟨ad301.block, ad301.off + 2, none⟩ = some (.string (rdOf ByteArray.empty x4_2 2)) ∧ w'.cell? ⟨ad301.block, ad301.off + 1, none⟩ = some (.string (rdOf ByteArray.empty x4_2 1)) ∧ w'.cell? ad318 = some (.string (rdOf ByteArray.empty t311 0)) ∧ w'.cell? ⟨ad318.block, ad318.off + 1, none⟩ = some (.string (rdOf ByteArray.empty t311 1))) (ds := []) #[false, false, false, false, false, false, false, false, false, false, false, false, false, false, false, false, false, false, false, false, false, false, false, false] (by kernel_rfl) rfl rfl ⟨hx314_0, hx316_0, hx318_0, hx320_0⟩ (fun hHeld => ?_); refine with_tabW newsreelref17_parse.tab16 newsreelref17_parse.bits16 (fun HT_ HW_ => ?_)
 generalize wc.drew = w53 at HO_4 HO_10 BK290 HB hx314_0 hx316_0 hx318_0 hx320_0 hHeld ⊢
 refine pu 0 79 HT_ ?_
 refine pu 1 80 HT_ ?_
 refine pu 4 83 HT_ ?_
 refine pu 5 84 HT_ ?_
 refine pu 9 88 HT_ ?_
 refine pu 10 89 HT_ ?_
 refine pu 11 90 HT_ ?_
 refine pu 14 93 HT_ ?_
 refine pu 15 94 HT_ ?_
 refine pu 19 98 HT_ ?_
 refine pu 20 99 HT_ ?_
 refine tk 2 81 HT_ HW_ hHeld ?_
 refine tk 6 85 HT_ HW_ hHeld ?_
 refine tk 12 91 HT_ HW_ hHeld ?_
 refine tk 16 95 HT_ HW_ hHeld ?_
 refine join_ (σ := Nat) 1 #[true, true, true, true, true, true, true, true, true, true, true, true, true, true, true, true, true, true, true, true, true, true, true, false] (fun s_ => [(82, .int .i64 t315), (86, .int .i64 t317), (92, .int .i64 t319), (96, .int .i64 t321), (11, .pointer (some ⟨s_, 0, none⟩)), (87, .int .i64 (wrap64 (t317 + 1))), (97, .agg #[.int .i64 t315, .int .i64 (wrap64 (t317 + 1)), .int .i64 x9_28, .int .i64 t319, .int .i64 t321, .int .i64 0]), (100, .agg #[.int .i64 t315, .int .i64 (wrap64 (t317 + 1)), .int .i64 x9_28, .int .i64 t319, .int .i64 t321, .int .i64 0, .int .i64 t302, .bool t303])]) (fun s_ w' => (w'.cell? ⟨ad301.block, ad301.off + 2, none⟩ = some (.string (rdOf ByteArray.empty x4_2 2)) ∧ w'.cell? ⟨ad301.block, ad301.off + 1, none⟩ = some (.string (rdOf ByteArray.empty x4_2 1)) ∧ w'.cell? ad318 = some (.string (rdOf ByteArray.empty t311 0)) ∧ w'.cell? ⟨ad318.block, ad318.off + 1, none⟩ = some (.string (rdOf ByteArray.empty t311 1))) ∧ (Kd.R Kd.string 9 w' w.heap.size (fun k_ => some k_ ≠ (.slice (some ad301) x4_2.length co30 : Value).ownBlock) (.slice (some ad318) t311.length co54) t311) ∧ (Kd.Q Kd.string 9 w' w.heap.size (fun k_ => some k_ ≠ (.slice (some ad318) t311.length co54 : Value).ownBlock) (.slice (some ad301) x4_2.length co30) x4_2) ∧ (w'.heap[gb290]? = some (.cells #[.int .i64 x291000_2, .int .i64 x291001_2, .int .i64 x291002_2, .int .i64 x291003_2, .int .i64 x291004_2, .int .i64 x291005_2, .int .i64 x291006_2, .bool x291007_2] 52 (0, 0))) ∧ (w'.heap[s_]? = some (.cells #[.int .i64 0, .int .i64 0, .int .i64 0, .int .i64 0, .int .i64 0, .int .i64 0, .int .i64 0, .bool false] 52 (0, 0))) ∧ (w.heap.size ≤ s_) ∧ (w.heap.size ≤ s_) ∧ (gb290 ≠ s_) ∧ (s_ ≠ gb290) ∧ (Below w.heap.size w w')) ?_ ?_
 rotate_left
 ·intro hJ3_7_13_17_22
  refine join_ (σ := Unit) 2 #[true, true, true, true, true, true, true, true, true, true, true, true, true, true, true, true, true, true, true, true, true, true, false, false] (fun s_ => [(82, .int .i64 t315), (86, .int .i64 t317), (92, .int .i64 t319), (96, .int .i64 t321), (87, .int .i64 (wrap64 (t317 + 1))), (97, .agg #[.int .i64 t315, .int .i64 (wrap64 (t317 + 1)), .int .i64 x9_28, .int .i64 t319, .int .i64 t321, .int .i64 0]), (100, .agg #[.int .i64 t315, .int .i64 (wrap64 (t317 + 1)), .int .i64 x9_28, .int .i64 t319, .int .i64 t321, .int .i64 0, .int .i64 t302, .bool t303])]) (fun s_ w' => (w'.cell? ⟨ad301.block, ad301.off + 2, none⟩ = some (.string (rdOf ByteArray.empty x4_2 2)) ∧ w'.cell? ⟨ad301.block, ad301.off + 1, none⟩ = some (.string (rdOf ByteArray.empty x4_2 1)) ∧ w'.cell? ad318 = some (.string (rdOf ByteArray.empty t311 0)) ∧ w'.cell? ⟨ad318.block, ad318.off + 1, none⟩ = some (.string (rdOf ByteArray.empty t311 1))) ∧ (Kd.R Kd.string 9 w' w.heap.size (fun k_ => some k_ ≠ (.slice (some ad301) x4_2.length co30 : Value).ownBlock) (.slice (some ad318) t311.length co54) t311) ∧ (Kd.Q Kd.string 9 w' w.heap.size (fun k_ => some k_ ≠ (.slice (some ad318) t311.length co54 : Value).ownBlock) (.slice (some ad301) x4_2.length co30) x4_2) ∧ (w'.heap[gb290]? = some (.cells #[.int .i64 x291000_2, .int .i64 x291001_2, .int .i64 x291002_2, .int .i64 x291003_2, .int .i64 x291004_2, .int .i64 x291005_2, .int .i64 x291006_2, .bool x291007_2] 52 (0, 0))) ∧ (Below w.heap.size w w')) ?_ ?_
  rotate_left
  ·intro hJ3_7_13_17
   refine join_ (σ := Nat) 4 #[true, true, true, true, true, true, true, true, true, true, true, true, true, true, true, true, true, false, false, true, true, false, true, false] (fun s_ => [(82, .int .i64 t315), (86, .int .i64 t317), (92, .int .i64 t319), (11, .pointer (some ⟨s_, 0, none⟩)), (87, .int .i64 (wrap64 (t317 + 1)))]) (fun s_ w' => (w'.cell? ⟨ad301.block, ad301.off + 2, none⟩ = some (.string (rdOf ByteArray.empty x4_2 2)) ∧ w'.cell? ⟨ad301.block, ad301.off + 1, none⟩ = some (.string (rdOf ByteArray.empty x4_2 1)) ∧ w'.cell? ad318 = some (.string (rdOf ByteArray.empty t311 0)) ∧ w'.cell? ⟨ad318.block, ad318.off + 1, none⟩ = some (.string (rdOf ByteArray.empty t311 1))) ∧ (Kd.R Kd.string 9 w' w.heap.size (fun k_ => some k_ ≠ (.slice (some ad301) x4_2.length co30 : Value).ownBlock) (.slice (some ad318) t311.length co54) t311) ∧ (Kd.Q Kd.string 9 w' w.heap.size (fun k_ => some k_ ≠ (.slice (some ad318) t311.length co54 : Value).ownBlock) (.slice (some ad301) x4_2.length co30) x4_2) ∧ (w'.heap[gb290]? = some (.cells #[.int .i64 x291000_2, .int .i64 x291001_2, .int .i64 x291002_2, .int .i64 x291003_2, .int .i64 x291004_2, .int .i64 x291005_2, .int .i64 x291006_2, .bool x291007_2] 52 (0, 0))) ∧ (w'.heap[s_]? = some (.cells #[.int .i64 0, .int .i64 0, .int .i64 0, .int .i64 0, .int .i64 0, .int .i64 0, .int .i64 0, .bool false] 52 (0, 0))) ∧ (w.heap.size ≤ s_) ∧ (w.heap.size ≤ s_) ∧ (gb290 ≠ s_) ∧ (s_ ≠ gb290) ∧ (Below w.heap.size w w')) ?_ ?_
   rotate_left
   ·intro hJ3_7_13_22
    refine join_ (σ := Unit) 5 #[true, true, true, true, true, true, true, true, true, true, true, true, true, true, true, true, true, false, false, true, true, false, false, false] (fun s_ => [(82, .int .i64 t315), (86, .int .i64 t317), (92, .int .i64 t319), (87, .int .i64 (wrap64 (t317 + 1)))]) (fun s_ w' => (w'.cell? ⟨ad301.block, ad301.off + 2, none⟩ = some (.string (rdOf ByteArray.empty x4_2 2)) ∧ w'.cell? ⟨ad301.block, ad301.off + 1, none⟩ = some (.string (rdOf ByteArray.empty x4_2 1)) ∧ w'.cell? ad318 = some (.string (rdOf ByteArray.empty t311 0)) ∧ w'.cell? ⟨ad318.block, ad318.off + 1, none⟩ = some (.string (rdOf ByteArray.empty t311 1))) ∧ (Kd.R Kd.string 9 w' w.heap.size (fun k_ => some k_ ≠ (.slice (some ad301) x4_2.length co30 : Value).ownBlock) (.slice (some ad318) t311.length co54) t311) ∧ (Kd.Q Kd.string 9 w' w.heap.size (fun k_ => some k_ ≠ (.slice (some ad318) t311.length co54 : Value).ownBlock) (.slice (some ad301) x4_2.length co30) x4_2) ∧ (w'.heap[gb290]? = some (.cells #[.int .i64 x291000_2, .int .i64 x291001_2, .int .i64 x291002_2, .int .i64 x291003_2, .int .i64 x291004_2, .int .i64 x291005_2, .int .i64 x291006_2, .bool x291007_2] 52 (0, 0))) ∧ (Below w.heap.size w w')) ?_ ?_
    rotate_left
    ·intro hJ3_7_13
     refine join_ (σ := Nat) 5 #[true, true, true, true, true, true, true, true, true, true, true, true, true, false, true, true, true, false, false, true, true, false, true, false] (fun s_ => [(82, .int .i64 t315), (86, .int .i64 t317), (11, .pointer (some ⟨s_, 0, none⟩)), (87, .int .i64 (wrap64 (t317 + 1)))]) (fun s_ w' => (w'.cell? ⟨ad301.block, ad301.off + 2, none⟩ = some (.string (rdOf ByteArray.empty x4_2 2)) ∧ w'.cell? ⟨ad301.block, ad301.off + 1, none⟩ = some (.string (rdOf ByteArray.empty x4_2 1)) ∧ w'.cell? ad318 = some (.string (rdOf ByteArray.empty t311 0)) ∧ w'.cell? ⟨ad318.block, ad318.off + 1, none⟩ = some (.string (rdOf ByteArray.empty t311 1))) ∧ (Kd.R Kd.string 9 w' w.heap.size (fun k_ => some k_ ≠ (.slice (some ad301) x4_2.length co30 : Value).ownBlock) (.slice (some ad318) t311.length co54) t311) ∧ (Kd.Q Kd.string 9 w' w.heap.size (fun k_ => some k_ ≠ (.slice (some ad318) t311.length co54 : Value).ownBlock) (.slice (some ad301) x4_2.length co30) x4_2) ∧ (w'.heap[gb290]? = some (.cells #[.int .i64 x291000_2, .int .i64 x291001_2, .int .i64 x291002_2, .int .i64 x291003_2, .int .i64 x291004_2, .int .i64 x291005_2, .int .i64 x291006_2, .bool x291007_2] 52 (0, 0))) ∧ (w'.heap[s_]? = some (.cells #[.int .i64 0, .int .i64 0, .int .i64 0, .int .i64 0, .int .i64 0, .int .i64 0, .int .i64 0, .bool false] 52 (0, 0))) ∧ (w.heap.size ≤ s_) ∧ (w.heap.size ≤ s_) ∧ (gb290 ≠ s_) ∧ (s_ ≠ gb290) ∧ (Below w.heap.size w w')) ?_ ?_
     rotate_left
     ·intro hJ3_7_22
      refine join_ (σ := Unit) 6 #[true, true, true, true, true, true, true, true, true, true, true, true, true, false, true, true, true, false, false, true, true, false, false, false] (fun s_ => [(82, .int .i64 t315), (86, .int .i64 t317), (87, .int .i64 (wrap64 (t317 + 1)))]) (fun s_ w' => (w'.cell? ⟨ad301.block, ad301.off + 2, none⟩ = some (.string (rdOf ByteArray.empty x4_2 2)) ∧ w'.cell? ⟨ad301.block, ad301.off + 1, none⟩ = some (.string (rdOf ByteArray.empty x4_2 1)) ∧ w'.cell? ad318 = some (.string (rdOf ByteArray.empty t311 0)) ∧ w'.cell? ⟨ad318.block, ad318.off + 1, none⟩ = some (.string (rdOf ByteArray.empty t311 1))) ∧ (Kd.R Kd.string 9 w' w.heap.size (fun k_ => some k_ ≠ (.slice (some ad301) x4_2.length co30 : Value).ownBlock) (.slice (some ad318) t311.length co54) t311) ∧ (Kd.Q Kd.string 9 w' w.heap.size (fun k_ => some k_ ≠ (.slice (some ad318) t311.length co54 : Value).ownBlock) (.slice (some ad301) x4_2.length co30) x4_2) ∧ (w'.heap[gb290]? = some (.cells #[.int .i64 x291000_2, .int .i64 x291001_2, .int .i64 x291002_2, .int .i64 x291003_2, .int .i64 x291004_2, .int .i64 x291005_2, .int .i64 x291006_2, .bool x291007_2] 52 (0, 0))) ∧ (Below w.heap.size w w')) ?_ ?_
      rotate_left
      ·intro hJ3_7
       refine join_ (σ := Nat) 7 #[true, true, true, true, true, true, true, false, false, true, true, true, true, false, true, true, true, false, false, true, true, false, true, false] (fun s_ => [(82, .int .i64 t315), (11, .pointer (some ⟨s_, 0, none⟩))]) (fun s_ w' => (w'.cell? ⟨ad301.block, ad301.off + 2, none⟩ = some (.string (rdOf ByteArray.empty x4_2 2)) ∧ w'.cell? ⟨ad301.block, ad301.off + 1, none⟩ = some (.string (rdOf ByteArray.empty x4_2 1)) ∧ w'.cell? ad318 = some (.string (rdOf ByteArray.empty t311 0)) ∧ w'.cell? ⟨ad318.block, ad318.off + 1, none⟩ = some (.string (rdOf ByteArray.empty t311 1))) ∧ (Kd.R Kd.string 9 w' w.heap.size (fun k_ => some k_ ≠ (.slice (some ad301) x4_2.length co30 : Value).ownBlock) (.slice (some ad318) t311.length co54) t311) ∧ (Kd.Q Kd.string 9 w' w.heap.size (fun k_ => some k_ ≠ (.slice (some ad318) t311.length co54 : Value).ownBlock) (.slice (some ad301) x4_2.length co30) x4_2) ∧ (w'.heap[gb290]? = some (.cells #[.int .i64 x291000_2, .int .i64 x291001_2, .int .i64 x291002_2, .int .i64 x291003_2, .int .i64 x291004_2, .int .i64 x291005_2, .int .i64 x291006_2, .bool x291007_2] 52 (0, 0))) ∧ (w'.heap[s_]? = some (.cells #[.int .i64 0, .int .i64 0, .int .i64 0, .int .i64 0, .int .i64 0, .int .i64 0, .int .i64 0, .bool false] 52 (0, 0))) ∧ (w.heap.size ≤ s_) ∧ (w.heap.size ≤ s_) ∧ (gb290 ≠ s_) ∧ (s_ ≠ gb290) ∧ (Below w.heap.size w w')) ?_ ?_
       rotate_left
       ·intro hJ3_22
        refine join_ (σ := Unit) 8 #[true, true, true, true, true, true, true, false, false, true, true, true, true, false, true, true, true, false, false, true, true, false, false, false] (fun s_ => [(82, .int .i64 t315)]) (fun s_ w' => (w'.cell? ⟨ad301.block, ad301.off + 2, none⟩ = some (.string (rdOf ByteArray.empty x4_2 2)) ∧ w'.cell? ⟨ad301.block, ad301.off + 1, none⟩ = some (.string (rdOf ByteArray.empty x4_2 1)) ∧ w'.cell? ad318 = some (.string (rdOf ByteArray.empty t311 0)) ∧ w'.cell? ⟨ad318.block, ad318.off + 1, none⟩ = some (.string (rdOf ByteArray.empty t311 1))) ∧ (Kd.R Kd.string 9 w' w.heap.size (fun k_ => some k_ ≠ (.slice (some ad301) x4_2.length co30 : Value).ownBlock) (.slice (some ad318) t311.length co54) t311) ∧ (Kd.Q Kd.string 9 w' w.heap.size (fun k_ => some k_ ≠ (.slice (some ad318) t311.length co54 : Value).ownBlock) (.slice (some ad301) x4_2.length co30) x4_2) ∧ (w'.heap[gb290]? = some (.cells #[.int .i64 x291000_2, .int .i64 x291001_2, .int .i64 x291002_2, .int .i64 x291003_2, .int .i64 x291004_2, .int .i64 x291005_2, .int .i64 x291006_2, .bool x291007_2] 52 (0, 0))) ∧ (Below w.heap.size w w')) ?_ ?_
        rotate_left
        ·intro hJ3
         refine join_ (σ := Nat) 8 #[true, true, true, false, true, true, true, false, false, true, true, true, true, false, true, true, true, false, false, true, true, false, true, false] (fun s_ => [(11, .pointer (some ⟨s_, 0, none⟩))]) (fun s_ w' => (w'.cell? ⟨ad301.block, ad301.off + 2, none⟩ = some (.string (rdOf ByteArray.empty x4_2 2)) ∧ w'.cell? ⟨ad301.block, ad301.off + 1, none⟩ = some (.string (rdOf ByteArray.empty x4_2 1)) ∧ w'.cell? ad318 = some (.string (rdOf ByteArray.empty t311 0)) ∧ w'.cell? ⟨ad318.block, ad318.off + 1, none⟩ = some (.string (rdOf ByteArray.empty t311 1))) ∧ (Kd.R Kd.string 9 w' w.heap.size (fun k_ => some k_ ≠ (.slice (some ad301) x4_2.length co30 : Value).ownBlock) (.slice (some ad318) t311.length co54) t311) ∧ (Kd.Q Kd.string 9 w' w.heap.size (fun k_ => some k_ ≠ (.slice (some ad318) t311.length co54 : Value).ownBlock) (.slice (some ad301) x4_2.length co30) x4_2) ∧ (w'.heap[gb290]? = some (.cells #[.int .i64 x291000_2, .int .i64 x291001_2, .int .i64 x291002_2, .int .i64 x291003_2, .int .i64 x291004_2, .int .i64 x291005_2, .int .i64 x291006_2, .bool x291007_2] 52 (0, 0))) ∧ (w'.heap[s_]? = some (.cells #[.int .i64 0, .int .i64 0, .int .i64 0, .int .i64 0, .int .i64 0, .int .i64 0, .int .i64 0, .bool false] 52 (0, 0))) ∧ (w.heap.size ≤ s_) ∧ (w.heap.size ≤ s_) ∧ (gb290 ≠ s_) ∧ (s_ ≠ gb290) ∧ (Below w.heap.size w w')) ?_ ?_
         rotate_left
         ·intro hJ22
          refine two_ (i := 3) (j := 22) (Ni := some 82) (Nj := some 11) #[true, true, true, true, true, true, true, false, false, true, true, true, true, false, true, true, true, false, false, true, true, false, false, false] #[true, true, true, false, true, true, true, false, false, true, true, true, true, false, true, true, true, false, false, true, true, false, true, false] rfl rfl rfl rfl (two_of HT_.out (by kernel_rfl)) (by decide) (by decide) (fun K hK => ?_) (fun K hK => ?_)
          ·skip
           refine goes_ Tryd.func43 (by kernel_rfl) rfl #[.string (rdOf ByteArray.empty x4_2 2)] (by rfl) rfl rfl ca ?_
           with_reducible refine (newsreelref17_year.calls kj35 (rdOf ByteArray.empty x4_2 2) t315 _ A45.out).mono ?_
           rintro e w' ⟨rfl, ⟨nd, rfl⟩⟩
           refine ⟨_, rfl, ?_⟩
           refine hK.out _ _ ⟨hHeld.1, hHeld.2.1, hHeld.2.2.1, hHeld.2.2.2⟩ (fun hHeld => ?_)
           clear hK K
           refine norm_ (a' := ?_) ?_ ?_
           rotate_left
           ·show Act.put _ (some 82) _ = _
            simp only [Act.put, sA, s0, sS, i64_w, i32_w]
            rfl
           exact norm_ (by first | (simp only [putAll, Act.put, sA, s0, sS]; done) | (simp only [putAll, Act.put, sA, s0, sS]; rfl)) (hJ3 () _ ⟨hHeld, (Kd.R_y HO_10.out), (Kd.Q_y HO_4.out), (blk_y BK290.out), (below_y HB.out)⟩)
          ·skip
           refine box_step ?hg (N := 11) ?hd (cs := #[.int .i64 0, .int .i64 0, .int .i64 0, .int .i64 0, .int .i64 0, .int .i64 0, .int .i64 0, .bool false]) (t := 52) ?hr ?_; (case hd => rfl); (case hg => rfl); (case hr => first | (go_simp; done) | (go_simp; rfl))
           intro gb322 hg w55 hbox hb
           have HS0_ := (hb.cell (World.block_lt_of_cell? _ _ (hHeld.1))).trans (hHeld.1)
           have HS1_ := (hb.cell (World.block_lt_of_cell? _ _ (hHeld.2.1))).trans (hHeld.2.1)
           have HS2_ := (hb.cell (World.block_lt_of_cell? _ _ (hHeld.2.2.1))).trans (hHeld.2.2.1)
           have HS3_ := (hb.cell (World.block_lt_of_cell? _ _ (hHeld.2.2.2))).trans (hHeld.2.2.2)
           have n0_ := mkA (Kd.Q_below (Kd.Q_y HO_4.out) hb)
           have n1_ := mkA (Kd.R_below (Kd.R_y HO_10.out) hb)
           have n2_ := mkA (blk_below (blk_y BK290.out) hb)
           have n3_ := mkA (below_step (below_y HB.out) hb)
           have n4_ := mkA (hbox)
           have n5_ := mkA ((gz hg HB.out : w.heap.size ≤ gb322))
           have n6_ := mkA ((gz hg HB.out : w.heap.size ≤ gb322))
           have n7_ := mkA ((gn hg BK290.out : gb290 ≠ gb322))
           have n8_ := mkA ((gm hg BK290.out : gb322 ≠ gb290))
           clear HO_4 HO_10 BK290 HB
           have HO_4 := n0_
           have HO_10 := n1_
           have BK290 := n2_
           have HB := n3_
           have BK322 := n4_
           have GW322 := n5_
           have GE322 := n6_
           have NB290_322 := n7_
           have NB322_290 := n8_
           clear n0_ n1_ n2_ n3_ n4_ n5_ n6_ n7_ n8_ hb hbox hg
           refine hK.out _ _ ⟨HS0_, HS1_, HS2_, HS3_⟩ (fun hHeld => ?_)
           clear hK K
           refine norm_ (a' := ?_) ?_ ?_
           rotate_left
           ·show Act.put _ (some 11) _ = _
            simp only [Act.put, sA, s0, sS, i64_w, i32_w]
            rfl
           exact norm_ (by first | (simp only [putAll, Act.put, sA, s0, sS]; done) | (simp only [putAll, Act.put, sA, s0, sS]; rfl)) (hJ22 (gb322) _ ⟨hHeld, (Kd.R_y HO_10.out), (Kd.Q_y HO_4.out), (blk_y BK290.out), (blk_y BK322.out), GW322.out, GE322.out, NB290_322.out, NB322_290.out, (below_y HB.out)⟩)
         ·skip
          rintro gb322 w56 ⟨hS_, h0_, h1_, h2_, h3_, h4_, h5_, h6_, h7_, h8_⟩
          have n0_ : Aside0 (Kd.R Kd.string 9 w56 w.heap.size (fun k_ => some k_ ≠ (.slice (some ad301) x4_2.length co30 : Value).ownBlock) (.slice (some ad318) t311.length co54) t311) := ⟨h0_⟩
          have n1_ : Aside0 (Kd.Q Kd.string 9 w56 w.heap.size (fun k_ => some k_ ≠ (.slice (some ad318) t311.length co54 : Value).ownBlock) (.slice (some ad301) x4_2.length co30) x4_2) := ⟨h1_⟩
          have n2_ : Aside0 (w56.heap[gb290]? = some (.cells #[.int .i64 x291000_2, .int .i64 x291001_2, .int .i64 x291002_2, .int .i64 x291003_2, .int .i64 x291004_2, .int .i64 x291005_2, .int .i64 x291006_2, .bool x291007_2] 52 (0, 0))) := ⟨h2_⟩
          have n3_ : Aside0 (w56.heap[gb322]? = some (.cells #[.int .i64 0, .int .i64 0, .int .i64 0, .int .i64 0, .int .i64 0, .int .i64 0, .int .i64 0, .bool false] 52 (0, 0))) := ⟨h3_⟩
          have n4_ : Aside0 (w.heap.size ≤ gb322) := ⟨h4_⟩
          have n5_ : Aside0 (w.heap.size ≤ gb322) := ⟨h5_⟩
          have n6_ : Aside0 (gb290 ≠ gb322) := ⟨h6_⟩
          have n7_ : Aside0 (gb322 ≠ gb290) := ⟨h7_⟩
          have n8_ : Aside0 (Below w.heap.size w w56) := ⟨h8_⟩
          clear HO_4 HO_10 BK290 HB h0_ h1_ h2_ h3_ h4_ h5_ h6_ h7_ h8_
          have HO_10 := n0_
          have HO_4 := n1_
          have BK290 := n2_
          have BK322 := n3_
          have GW322 := n4_
          have GE322 := n5_
          have NB290_322 := n6_
          have NB322_290 := n7_
          have HB := n8_
          clear n0_ n1_ n2_ n3_ n4_ n5_ n6_ n7_ n8_
          have hHeld : w56.cell? ⟨ad301.block, ad301.off + 2, none⟩ = some (.string (rdOf ByteArray.empty x4_2 2)) ∧ w56.cell? ⟨ad301.block, ad301.off + 1, none⟩ = some (.string (rdOf ByteArray.empty x4_2 1)) ∧ w56.cell? ad318 = some (.string (rdOf ByteArray.empty t311 0)) ∧ w56.cell? ⟨ad318.block, ad318.off + 1, none⟩ = some (.string (rdOf ByteArray.empty t311 1)) := hS_
          refine norm_ (a' := ?_) ?_ ?_
          rotate_left
          ·simp only [putAll, Act.put, sA, s0, sS]
           rfl
          refine one_ (i := 3) (N := some 82) #[true, true, true, true, true, true, true, false, false, true, true, true, true, false, true, true, true, false, false, true, true, false, true, false] rfl rfl (one_of HT_.out (by kernel_rfl)) (by decide) (fun K hK => ?_)
          refine goes_ Tryd.func43 (by kernel_rfl) rfl #[.string (rdOf ByteArray.empty x4_2 2)] (by rfl) rfl rfl ca ?_
          with_reducible refine (newsreelref17_year.calls kj35 (rdOf ByteArray.empty x4_2 2) t315 _ A45.out).mono ?_
          rintro e w' ⟨rfl, ⟨nd, rfl⟩⟩
          refine ⟨_, rfl, ?_⟩
          refine hK.out _ _ ⟨hHeld.1, hHeld.2.1, hHeld.2.2.1, hHeld.2.2.2⟩ (fun hHeld => ?_)
          clear hK K
          refine norm_ (a' := ?_) ?_ ?_
          rotate_left
          ·show Act.put _ (some 82) _ = _
           simp only [Act.put, sA, s0, sS, i64_w, i32_w]
           rfl
          exact norm_ (by first | (simp only [putAll, Act.put, sA, s0, sS]; done) | (simp only [putAll, Act.put, sA, s0, sS]; rfl)) (hJ3_22 (gb322) _ ⟨hHeld, (Kd.R_y HO_10.out), (Kd.Q_y HO_4.out), (blk_y BK290.out), (blk_y BK322.out), GW322.out, GE322.out, NB290_322.out, NB322_290.out, (below_y HB.out)⟩)
        ·skip
         rintro _ w55 ⟨hS_, h0_, h1_, h2_, h3_⟩
         have n0_ : Aside0 (Kd.R Kd.string 9 w55 w.heap.size (fun k_ => some k_ ≠ (.slice (some ad301) x4_2.length co30 : Value).ownBlock) (.slice (some ad318) t311.length co54) t311) := ⟨h0_⟩
         have n1_ : Aside0 (Kd.Q Kd.string 9 w55 w.heap.size (fun k_ => some k_ ≠ (.slice (some ad318) t311.length co54 : Value).ownBlock) (.slice (some ad301) x4_2.length co30) x4_2) := ⟨h1_⟩
         have n2_ : Aside0 (w55.heap[gb290]? = some (.cells #[.int .i64 x291000_2, .int .i64 x291001_2, .int .i64 x291002_2, .int .i64 x291003_2, .int .i64 x291004_2, .int .i64 x291005_2, .int .i64 x291006_2, .bool x291007_2] 52 (0, 0))) := ⟨h2_⟩
         have n3_ : Aside0 (Below w.heap.size w w55) := ⟨h3_⟩
         clear HO_4 HO_10 BK290 HB h0_ h1_ h2_ h3_
         have HO_10 := n0_
         have HO_4 := n1_
         have BK290 := n2_
         have HB := n3_
         clear n0_ n1_ n2_ n3_
         have hHeld : w55.cell? ⟨ad301.block, ad301.off + 2, none⟩ = some (.string (rdOf ByteArray.empty x4_2 2)) ∧ w55.cell? ⟨ad301.block, ad301.off + 1, none⟩ = some (.string (rdOf ByteArray.empty x4_2 1)) ∧ w55.cell? ad318 = some (.string (rdOf ByteArray.empty t311 0)) ∧ w55.cell? ⟨ad318.block, ad318.off + 1, none⟩ = some (.string (rdOf ByteArray.empty t311 1)) := hS_
         refine norm_ (a' := ?_) ?_ ?_
         rotate_left
         ·simp only [putAll, Act.put, sA, s0, sS]
          rfl
         refine two_ (i := 7) (j := 22) (Ni := some 86) (Nj := some 11) #[true, true, true, true, true, true, true, true, false, true, true, true, true, false, true, true, true, false, false, true, true, false, false, false] #[true, true, true, true, true, true, true, false, false, true, true, true, true, false, true, true, true, false, false, true, true, false, true, false] rfl rfl rfl rfl (two_of HT_.out (by kernel_rfl)) (by decide) (by decide) (fun K hK => ?_) (fun K hK => ?_)
         ·skip
          refine goes_ Tryd.func39 (by kernel_rfl) rfl #[.bool false, .string (rdOf ByteArray.empty x4_2 1)] (by rfl) rfl rfl ca ?_
          with_reducible refine (newsreelref17_place.calls kj35 false (rdOf ByteArray.empty x4_2 1) t317 _ A47.out).mono ?_
          rintro e w56 ⟨rfl, hb⟩
          have hbk_w56 := mkA hb
          have HS0_ := (hb.cell (World.block_lt_of_cell? _ _ (hHeld.1))).trans (hHeld.1)
          have HS1_ := (hb.cell (World.block_lt_of_cell? _ _ (hHeld.2.1))).trans (hHeld.2.1)
          have HS2_ := (hb.cell (World.block_lt_of_cell? _ _ (hHeld.2.2.1))).trans (hHeld.2.2.1)
          have HS3_ := (hb.cell (World.block_lt_of_cell? _ _ (hHeld.2.2.2))).trans (hHeld.2.2.2)
          refine ⟨_, rfl, ?_⟩
          have n0_ := mkA (Kd.Q_below (Kd.Q_y HO_4.out) hb)
          have n1_ := mkA (Kd.R_below (Kd.R_y HO_10.out) hb)
          have n2_ := mkA (blk_below (blk_y BK290.out) hb)
          have n3_ := mkA (below_step (below_y HB.out) hb)
          clear HO_4 HO_10 BK290 HB
          have HO_4 := n0_
          have HO_10 := n1_
          have BK290 := n2_
          have HB := n3_
          clear n0_ n1_ n2_ n3_
          (try clear hb)
          (try clear hb2)
          (try clear hk)
          (try clear hi)
          refine hK.out _ _ ⟨HS0_, HS1_, HS2_, HS3_⟩ (fun hHeld => ?_)
          clear hK K
          refine norm_ (a' := ?_) ?_ ?_
          rotate_left
          ·show Act.put _ (some 86) _ = _
           simp only [Act.put, sA, s0, sS, i64_w, i32_w]
           rfl
          refine pu 8 87 HT_ ?_
          exact norm_ (by first | (simp only [putAll, Act.put, sA, s0, sS]; done) | (simp only [putAll, Act.put, sA, s0, sS]; rfl)) (hJ3_7 () _ ⟨hHeld, (Kd.R_y HO_10.out), (Kd.Q_y HO_4.out), (blk_y BK290.out), (below_y HB.out)⟩)
         ·skip
          refine box_step ?hg (N := 11) ?hd (cs := #[.int .i64 0, .int .i64 0, .int .i64 0, .int .i64 0, .int .i64 0, .int .i64 0, .int .i64 0, .bool false]) (t := 52) ?hr ?_; (case hd => rfl); (case hg => rfl); (case hr => first | (go_simp; done) | (go_simp; rfl))
          intro gb322 hg w56 hbox hb
          have HS0_ := (hb.cell (World.block_lt_of_cell? _ _ (hHeld.1))).trans (hHeld.1)
          have HS1_ := (hb.cell (World.block_lt_of_cell? _ _ (hHeld.2.1))).trans (hHeld.2.1)
          have HS2_ := (hb.cell (World.block_lt_of_cell? _ _ (hHeld.2.2.1))).trans (hHeld.2.2.1)
          have HS3_ := (hb.cell (World.block_lt_of_cell? _ _ (hHeld.2.2.2))).trans (hHeld.2.2.2)
          have n0_ := mkA (Kd.Q_below (Kd.Q_y HO_4.out) hb)
          have n1_ := mkA (Kd.R_below (Kd.R_y HO_10.out) hb)
          have n2_ := mkA (blk_below (blk_y BK290.out) hb)
          have n3_ := mkA (below_step (below_y HB.out) hb)
          have n4_ := mkA (hbox)
          have n5_ := mkA ((gz hg HB.out : w.heap.size ≤ gb322))
          have n6_ := mkA ((gz hg HB.out : w.heap.size ≤ gb322))
          have n7_ := mkA ((gn hg BK290.out : gb290 ≠ gb322))
          have n8_ := mkA ((gm hg BK290.out : gb322 ≠ gb290))
          clear HO_4 HO_10 BK290 HB
          have HO_4 := n0_
          have HO_10 := n1_
          have BK290 := n2_
          have HB := n3_
          have BK322 := n4_
          have GW322 := n5_
          have GE322 := n6_
          have NB290_322 := n7_
          have NB322_290 := n8_
          clear n0_ n1_ n2_ n3_ n4_ n5_ n6_ n7_ n8_ hb hbox hg
          refine hK.out _ _ ⟨HS0_, HS1_, HS2_, HS3_⟩ (fun hHeld => ?_)
          clear hK K
          refine norm_ (a' := ?_) ?_ ?_
          rotate_left
          ·show Act.put _ (some 11) _ = _
           simp only [Act.put, sA, s0, sS, i64_w, i32_w]
           rfl
          exact norm_ (by first | (simp only [putAll, Act.put, sA, s0, sS]; done) | (simp only [putAll, Act.put, sA, s0, sS]; rfl)) (hJ3_22 (gb322) _ ⟨hHeld, (Kd.R_y HO_10.out), (Kd.Q_y HO_4.out), (blk_y BK290.out), (blk_y BK322.out), GW322.out, GE322.out, NB290_322.out, NB322_290.out, (below_y HB.out)⟩)
       ·skip
        rintro gb322 w56 ⟨hS_, h0_, h1_, h2_, h3_, h4_, h5_, h6_, h7_, h8_⟩
        have n0_ : Aside0 (Kd.R Kd.string 9 w56 w.heap.size (fun k_ => some k_ ≠ (.slice (some ad301) x4_2.length co30 : Value).ownBlock) (.slice (some ad318) t311.length co54) t311) := ⟨h0_⟩
        have n1_ : Aside0 (Kd.Q Kd.string 9 w56 w.heap.size (fun k_ => some k_ ≠ (.slice (some ad318) t311.length co54 : Value).ownBlock) (.slice (some ad301) x4_2.length co30) x4_2) := ⟨h1_⟩
        have n2_ : Aside0 (w56.heap[gb290]? = some (.cells #[.int .i64 x291000_2, .int .i64 x291001_2, .int .i64 x291002_2, .int .i64 x291003_2, .int .i64 x291004_2, .int .i64 x291005_2, .int .i64 x291006_2, .bool x291007_2] 52 (0, 0))) := ⟨h2_⟩
        have n3_ : Aside0 (w56.heap[gb322]? = some (.cells #[.int .i64 0, .int .i64 0, .int .i64 0, .int .i64 0, .int .i64 0, .int .i64 0, .int .i64 0, .bool false] 52 (0, 0))) := ⟨h3_⟩
        have n4_ : Aside0 (w.heap.size ≤ gb322) := ⟨h4_⟩
        have n5_ : Aside0 (w.heap.size ≤ gb322) := ⟨h5_⟩
        have n6_ : Aside0 (gb290 ≠ gb322) := ⟨h6_⟩
        have n7_ : Aside0 (gb322 ≠ gb290) := ⟨h7_⟩
        have n8_ : Aside0 (Below w.heap.size w w56) := ⟨h8_⟩
        clear HO_4 HO_10 BK290 HB h0_ h1_ h2_ h3_ h4_ h5_ h6_ h7_ h8_
        have HO_10 := n0_
        have HO_4 := n1_
        have BK290 := n2_
        have BK322 := n3_
        have GW322 := n4_
        have GE322 := n5_
        have NB290_322 := n6_
        have NB322_290 := n7_
        have HB := n8_
        clear n0_ n1_ n2_ n3_ n4_ n5_ n6_ n7_ n8_
        have hHeld : w56.cell? ⟨ad301.block, ad301.off + 2, none⟩ = some (.string (rdOf ByteArray.empty x4_2 2)) ∧ w56.cell? ⟨ad301.block, ad301.off + 1, none⟩ = some (.string (rdOf ByteArray.empty x4_2 1)) ∧ w56.cell? ad318 = some (.string (rdOf ByteArray.empty t311 0)) ∧ w56.cell? ⟨ad318.block, ad318.off + 1, none⟩ = some (.string (rdOf ByteArray.empty t311 1)) := hS_
        refine norm_ (a' := ?_) ?_ ?_
        rotate_left
        ·simp only [putAll, Act.put, sA, s0, sS]
         rfl
        refine one_ (i := 7) (N := some 86) #[true, true, true, true, true, true, true, true, false, true, true, true, true, false, true, true, true, false, false, true, true, false, true, false] rfl rfl (one_of HT_.out (by kernel_rfl)) (by decide) (fun K hK => ?_)
        refine goes_ Tryd.func39 (by kernel_rfl) rfl #[.bool false, .string (rdOf ByteArray.empty x4_2 1)] (by rfl) rfl rfl ca ?_
        with_reducible refine (newsreelref17_place.calls kj35 false (rdOf ByteArray.empty x4_2 1) t317 _ A47.out).mono ?_
        rintro e w57 ⟨rfl, hb⟩
        have hbk_w57 := mkA hb
        have HS0_ := (hb.cell (World.block_lt_of_cell? _ _ (hHeld.1))).trans (hHeld.1)
        have HS1_ := (hb.cell (World.block_lt_of_cell? _ _ (hHeld.2.1))).trans (hHeld.2.1)
        have HS2_ := (hb.cell (World.block_lt_of_cell? _ _ (hHeld.2.2.1))).trans (hHeld.2.2.1)
        have HS3_ := (hb.cell (World.block_lt_of_cell? _ _ (hHeld.2.2.2))).trans (hHeld.2.2.2)
        refine ⟨_, rfl, ?_⟩
        have n0_ := mkA (Kd.Q_below (Kd.Q_y HO_4.out) hb)
        have n1_ := mkA (Kd.R_below (Kd.R_y HO_10.out) hb)
        have n2_ := mkA (blk_below (blk_y BK290.out) hb)
        have n3_ := mkA (blk_below (blk_y BK322.out) hb)
        have n4_ := mkA (below_step (below_y HB.out) hb)
        clear HO_4 HO_10 BK290 BK322 HB
        have HO_4 := n0_
        have HO_10 := n1_
        have BK290 := n2_
        have BK322 := n3_
        have HB := n4_
        clear n0_ n1_ n2_ n3_ n4_
        (try clear hb)
        (try clear hb2)
        (try clear hk)
        (try clear hi)
        refine hK.out _ _ ⟨HS0_, HS1_, HS2_, HS3_⟩ (fun hHeld => ?_)
        clear hK K
        refine norm_ (a' := ?_) ?_ ?_
        rotate_left
        ·show Act.put _ (some 86) _ = _
         simp only [Act.put, sA, s0, sS, i64_w, i32_w]
         rfl
        refine pu 8 87 HT_ ?_
        exact norm_ (by first | (simp only [putAll, Act.put, sA, s0, sS]; done) | (simp only [putAll, Act.put, sA, s0, sS]; rfl)) (hJ3_7_22 (gb322) _ ⟨hHeld, (Kd.R_y HO_10.out), (Kd.Q_y HO_4.out), (blk_y BK290.out), (blk_y BK322.out), GW322.out, GE322.out, NB290_322.out, NB322_290.out, (below_y HB.out)⟩)
      ·skip
       rintro _ w56 ⟨hS_, h0_, h1_, h2_, h3_⟩
       have n0_ : Aside0 (Kd.R Kd.string 9 w56 w.heap.size (fun k_ => some k_ ≠ (.slice (some ad301) x4_2.length co30 : Value).ownBlock) (.slice (some ad318) t311.length co54) t311) := ⟨h0_⟩
       have n1_ : Aside0 (Kd.Q Kd.string 9 w56 w.heap.size (fun k_ => some k_ ≠ (.slice (some ad318) t311.length co54 : Value).ownBlock) (.slice (some ad301) x4_2.length co30) x4_2) := ⟨h1_⟩
       have n2_ : Aside0 (w56.heap[gb290]? = some (.cells #[.int .i64 x291000_2, .int .i64 x291001_2, .int .i64 x291002_2, .int .i64 x291003_2, .int .i64 x291004_2, .int .i64 x291005_2, .int .i64 x291006_2, .bool x291007_2] 52 (0, 0))) := ⟨h2_⟩
       have n3_ : Aside0 (Below w.heap.size w w56) := ⟨h3_⟩
       clear HO_4 HO_10 BK290 HB h0_ h1_ h2_ h3_
       have HO_10 := n0_
       have HO_4 := n1_
       have BK290 := n2_
       have HB := n3_
       clear n0_ n1_ n2_ n3_
       have hHeld : w56.cell? ⟨ad301.block, ad301.off + 2, none⟩ = some (.string (rdOf ByteArray.empty x4_2 2)) ∧ w56.cell? ⟨ad301.block, ad301.off + 1, none⟩ = some (.string (rdOf ByteArray.empty x4_2 1)) ∧ w56.cell? ad318 = some (.string (rdOf ByteArray.empty t311 0)) ∧ w56.cell? ⟨ad318.block, ad318.off + 1, none⟩ = some (.string (rdOf ByteArray.empty t311 1)) := hS_
       refine norm_ (a' := ?_) ?_ ?_
       rotate_left
       ·simp only [putAll, Act.put, sA, s0, sS]
        rfl
       refine two_ (i := 13) (j := 22) (Ni := some 92) (Nj := some 11) #[true, true, true, true, true, true, true, true, true, true, true, true, true, true, true, true, true, false, false, true, true, false, false, false] #[true, true, true, true, true, true, true, true, true, true, true, true, true, false, true, true, true, false, false, true, true, false, true, false] rfl rfl rfl rfl (two_of HT_.out (by kernel_rfl)) (by decide) (by decide) (fun K hK => ?_) (fun K hK => ?_)
       ·skip
        refine goes_ Tryd.func41 (by kernel_rfl) rfl #[.string (rdOf ByteArray.empty t311 0), .int .i64 2] (by rfl) rfl rfl ca ?_
        with_reducible refine (newsreelref17_Number.calls kj35 (rdOf ByteArray.empty t311 0) 2 t319 _ A49.out).mono ?_
        rintro e w' ⟨rfl, ⟨nd, rfl⟩⟩
        refine ⟨_, rfl, ?_⟩
        refine hK.out _ _ ⟨hHeld.1, hHeld.2.1, hHeld.2.2.1, hHeld.2.2.2⟩ (fun hHeld => ?_)
        clear hK K
        refine norm_ (a' := ?_) ?_ ?_
        rotate_left
        ·show Act.put _ (some 92) _ = _
         simp only [Act.put, sA, s0, sS, i64_w, i32_w]
         rfl
        exact norm_ (by first | (simp only [putAll, Act.put, sA, s0, sS]; done) | (simp only [putAll, Act.put, sA, s0, sS]; rfl)) (hJ3_7_13 () _ ⟨hHeld, (Kd.R_y HO_10.out), (Kd.Q_y HO_4.out), (blk_y BK290.out), (below_y HB.out)⟩)
       ·skip
        refine box_step ?hg (N := 11) ?hd (cs := #[.int .i64 0, .int .i64 0, .int .i64 0, .int .i64 0, .int .i64 0, .int .i64 0, .int .i64 0, .bool false]) (t := 52) ?hr ?_; (case hd => rfl); (case hg => rfl); (case hr => first | (go_simp; done) | (go_simp; rfl))
        intro gb322 hg w57 hbox hb
        have HS0_ := (hb.cell (World.block_lt_of_cell? _ _ (hHeld.1))).trans (hHeld.1)
        have HS1_ := (hb.cell (World.block_lt_of_cell? _ _ (hHeld.2.1))).trans (hHeld.2.1)
        have HS2_ := (hb.cell (World.block_lt_of_cell? _ _ (hHeld.2.2.1))).trans (hHeld.2.2.1)
        have HS3_ := (hb.cell (World.block_lt_of_cell? _ _ (hHeld.2.2.2))).trans (hHeld.2.2.2)
        have n0_ := mkA (Kd.Q_below (Kd.Q_y HO_4.out) hb)
        have n1_ := mkA (Kd.R_below (Kd.R_y HO_10.out) hb)
        have n2_ := mkA (blk_below (blk_y BK290.out) hb)
        have n3_ := mkA (below_step (below_y HB.out) hb)
        have n4_ := mkA (hbox)
        have n5_ := mkA ((gz hg HB.out : w.heap.size ≤ gb322))
        have n6_ := mkA ((gz hg HB.out : w.heap.size ≤ gb322))
        have n7_ := mkA ((gn hg BK290.out : gb290 ≠ gb322))
        have n8_ := mkA ((gm hg BK290.out : gb322 ≠ gb290))
        clear HO_4 HO_10 BK290 HB
        have HO_4 := n0_
        have HO_10 := n1_
        have BK290 := n2_
        have HB := n3_
        have BK322 := n4_
        have GW322 := n5_
        have GE322 := n6_
        have NB290_322 := n7_
        have NB322_290 := n8_
        clear n0_ n1_ n2_ n3_ n4_ n5_ n6_ n7_ n8_ hb hbox hg
        refine hK.out _ _ ⟨HS0_, HS1_, HS2_, HS3_⟩ (fun hHeld => ?_)
        clear hK K
        refine norm_ (a' := ?_) ?_ ?_
        rotate_left
        ·show Act.put _ (some 11) _ = _
         simp only [Act.put, sA, s0, sS, i64_w, i32_w]
         rfl
        exact norm_ (by first | (simp only [putAll, Act.put, sA, s0, sS]; done) | (simp only [putAll, Act.put, sA, s0, sS]; rfl)) (hJ3_7_22 (gb322) _ ⟨hHeld, (Kd.R_y HO_10.out), (Kd.Q_y HO_4.out), (blk_y BK290.out), (blk_y BK322.out), GW322.out, GE322.out, NB290_322.out, NB322_290.out, (below_y HB.out)⟩)
     ·skip
      rintro gb322 w57 ⟨hS_, h0_, h1_, h2_, h3_, h4_, h5_, h6_, h7_, h8_⟩
      have n0_ : Aside0 (Kd.R Kd.string 9 w57 w.heap.size (fun k_ => some k_ ≠ (.slice (some ad301) x4_2.length co30 : Value).ownBlock) (.slice (some ad318) t311.length co54) t311) := ⟨h0_⟩
      have n1_ : Aside0 (Kd.Q Kd.string 9 w57 w.heap.size (fun k_ => some k_ ≠ (.slice (some ad318) t311.length co54 : Value).ownBlock) (.slice (some ad301) x4_2.length co30) x4_2) := ⟨h1_⟩
      have n2_ : Aside0 (w57.heap[gb290]? = some (.cells #[.int .i64 x291000_2, .int .i64 x291001_2, .int .i64 x291002_2, .int .i64 x291003_2, .int .i64 x291004_2, .int .i64 x291005_2, .int .i64 x291006_2, .bool x291007_2] 52 (0, 0))) := ⟨h2_⟩
      have n3_ : Aside0 (w57.heap[gb322]? = some (.cells #[.int .i64 0, .int .i64 0, .int .i64 0, .int .i64 0, .int .i64 0, .int .i64 0, .int .i64 0, .bool false] 52 (0, 0))) := ⟨h3_⟩
      have n4_ : Aside0 (w.heap.size ≤ gb322) := ⟨h4_⟩
      have n5_ : Aside0 (w.heap.size ≤ gb322) := ⟨h5_⟩
      have n6_ : Aside0 (gb290 ≠ gb322) := ⟨h6_⟩
      have n7_ : Aside0 (gb322 ≠ gb290) := ⟨h7_⟩
      have n8_ : Aside0 (Below w.heap.size w w57) := ⟨h8_⟩
      clear HO_4 HO_10 BK290 HB h0_ h1_ h2_ h3_ h4_ h5_ h6_ h7_ h8_
      have HO_10 := n0_
      have HO_4 := n1_
      have BK290 := n2_
      have BK322 := n3_
      have GW322 := n4_
      have GE322 := n5_
      have NB290_322 := n6_
      have NB322_290 := n7_
      have HB := n8_
      clear n0_ n1_ n2_ n3_ n4_ n5_ n6_ n7_ n8_
      have hHeld : w57.cell? ⟨ad301.block, ad301.off + 2, none⟩ = some (.string (rdOf ByteArray.empty x4_2 2)) ∧ w57.cell? ⟨ad301.block, ad301.off + 1, none⟩ = some (.string (rdOf ByteArray.empty x4_2 1)) ∧ w57.cell? ad318 = some (.string (rdOf ByteArray.empty t311 0)) ∧ w57.cell? ⟨ad318.block, ad318.off + 1, none⟩ = some (.string (rdOf ByteArray.empty t311 1)) := hS_
      refine norm_ (a' := ?_) ?_ ?_
      rotate_left
      ·simp only [putAll, Act.put, sA, s0, sS]
       rfl
      refine one_ (i := 13) (N := some 92) #[true, true, true, true, true, true, true, true, true, true, true, true, true, true, true, true, true, false, false, true, true, false, true, false] rfl rfl (one_of HT_.out (by kernel_rfl)) (by decide) (fun K hK => ?_)
      refine goes_ Tryd.func41 (by kernel_rfl) rfl #[.string (rdOf ByteArray.empty t311 0), .int .i64 2] (by rfl) rfl rfl ca ?_
      with_reducible refine (newsreelref17_Number.calls kj35 (rdOf ByteArray.empty t311 0) 2 t319 _ A49.out).mono ?_
      rintro e w' ⟨rfl, ⟨nd, rfl⟩⟩
      refine ⟨_, rfl, ?_⟩
      refine hK.out _ _ ⟨hHeld.1, hHeld.2.1, hHeld.2.2.1, hHeld.2.2.2⟩ (fun hHeld => ?_)
      clear hK K
      refine norm_ (a' := ?_) ?_ ?_
      rotate_left
      ·show Act.put _ (some 92) _ = _
       simp only [Act.put, sA, s0, sS, i64_w, i32_w]
       rfl
      exact norm_ (by first | (simp only [putAll, Act.put, sA, s0, sS]; done) | (simp only [putAll, Act.put, sA, s0, sS]; rfl)) (hJ3_7_13_22 (gb322) _ ⟨hHeld, (Kd.R_y HO_10.out), (Kd.Q_y HO_4.out), (blk_y BK290.out), (blk_y BK322.out), GW322.out, GE322.out, NB290_322.out, NB322_290.out, (below_y HB.out)⟩)
    ·skip
     rintro _ w56 ⟨hS_, h0_, h1_, h2_, h3_⟩
     have n0_ : Aside0 (Kd.R Kd.string 9 w56 w.heap.size (fun k_ => some k_ ≠ (.slice (some ad301) x4_2.length co30 : Value).ownBlock) (.slice (some ad318) t311.length co54) t311) := ⟨h0_⟩
     have n1_ : Aside0 (Kd.Q Kd.string 9 w56 w.heap.size (fun k_ => some k_ ≠ (.slice (some ad318) t311.length co54 : Value).ownBlock) (.slice (some ad301) x4_2.length co30) x4_2) := ⟨h1_⟩
     have n2_ : Aside0 (w56.heap[gb290]? = some (.cells #[.int .i64 x291000_2, .int .i64 x291001_2, .int .i64 x291002_2, .int .i64 x291003_2, .int .i64 x291004_2, .int .i64 x291005_2, .int .i64 x291006_2, .bool x291007_2] 52 (0, 0))) := ⟨h2_⟩
     have n3_ : Aside0 (Below w.heap.size w w56) := ⟨h3_⟩
     clear HO_4 HO_10 BK290 HB h0_ h1_ h2_ h3_
     have HO_10 := n0_
     have HO_4 := n1_
     have BK290 := n2_
     have HB := n3_
     clear n0_ n1_ n2_ n3_
     have hHeld : w56.cell? ⟨ad301.block, ad301.off + 2, none⟩ = some (.string (rdOf ByteArray.empty x4_2 2)) ∧ w56.cell? ⟨ad301.block, ad301.off + 1, none⟩ = some (.string (rdOf ByteArray.empty x4_2 1)) ∧ w56.cell? ad318 = some (.string (rdOf ByteArray.empty t311 0)) ∧ w56.cell? ⟨ad318.block, ad318.off + 1, none⟩ = some (.string (rdOf ByteArray.empty t311 1)) := hS_
     refine norm_ (a' := ?_) ?_ ?_
     rotate_left
     ·simp only [putAll, Act.put, sA, s0, sS]
      rfl
     refine two_ (i := 17) (j := 22) (Ni := some 96) (Nj := some 11) #[true, true, true, true, true, true, true, true, true, true, true, true, true, true, true, true, true, true, false, true, true, false, false, false] #[true, true, true, true, true, true, true, true, true, true, true, true, true, true, true, true, true, false, false, true, true, false, true, false] rfl rfl rfl rfl (two_of HT_.out (by kernel_rfl)) (by decide) (by decide) (fun K hK => ?_) (fun K hK => ?_)
     ·skip
      refine goes_ Tryd.func41 (by kernel_rfl) rfl #[.string (rdOf ByteArray.empty t311 1), .int .i64 2] (by rfl) rfl rfl ca ?_
      with_reducible refine (newsreelref17_Number.calls kj35 (rdOf ByteArray.empty t311 1) 2 t321 _ A51.out).mono ?_
      rintro e w' ⟨rfl, ⟨nd, rfl⟩⟩
      refine ⟨_, rfl, ?_⟩
      refine hK.out _ _ ⟨hHeld.1, hHeld.2.1, hHeld.2.2.1, hHeld.2.2.2⟩ (fun hHeld => ?_)
      clear hK K
      refine norm_ (a' := ?_) ?_ ?_
      rotate_left
      ·show Act.put _ (some 96) _ = _
       simp only [Act.put, sA, s0, sS, i64_w, i32_w]
       rfl
      refine pu 18 97 HT_ ?_
      refine pu 21 100 HT_ ?_
      exact norm_ (by first | (simp only [putAll, Act.put, sA, s0, sS]; done) | (simp only [putAll, Act.put, sA, s0, sS]; rfl)) (hJ3_7_13_17 () _ ⟨hHeld, (Kd.R_y HO_10.out), (Kd.Q_y HO_4.out), (blk_y BK290.out), (below_y HB.out)⟩)
     ·skip
      refine box_step ?hg (N := 11) ?hd (cs := #[.int .i64 0, .int .i64 0, .int .i64 0, .int .i64 0, .int .i64 0, .int .i64 0, .int .i64 0, .bool false]) (t := 52) ?hr ?_; (case hd => rfl); (case hg => rfl); (case hr => first | (go_simp; done) | (go_simp; rfl))
      intro gb322 hg w57 hbox hb
      have HS0_ := (hb.cell (World.block_lt_of_cell? _ _ (hHeld.1))).trans (hHeld.1)
      have HS1_ := (hb.cell (World.block_lt_of_cell? _ _ (hHeld.2.1))).trans (hHeld.2.1)
      have HS2_ := (hb.cell (World.block_lt_of_cell? _ _ (hHeld.2.2.1))).trans (hHeld.2.2.1)
      have HS3_ := (hb.cell (World.block_lt_of_cell? _ _ (hHeld.2.2.2))).trans (hHeld.2.2.2)
      have n0_ := mkA (Kd.Q_below (Kd.Q_y HO_4.out) hb)
      have n1_ := mkA (Kd.R_below (Kd.R_y HO_10.out) hb)
      have n2_ := mkA (blk_below (blk_y BK290.out) hb)
      have n3_ := mkA (below_step (below_y HB.out) hb)
      have n4_ := mkA (hbox)
      have n5_ := mkA ((gz hg HB.out : w.heap.size ≤ gb322))
      have n6_ := mkA ((gz hg HB.out : w.heap.size ≤ gb322))
      have n7_ := mkA ((gn hg BK290.out : gb290 ≠ gb322))
      have n8_ := mkA ((gm hg BK290.out : gb322 ≠ gb290))
      clear HO_4 HO_10 BK290 HB
      have HO_4 := n0_
      have HO_10 := n1_
      have BK290 := n2_
      have HB := n3_
      have BK322 := n4_
      have GW322 := n5_
      have GE322 := n6_
      have NB290_322 := n7_
      have NB322_290 := n8_
      clear n0_ n1_ n2_ n3_ n4_ n5_ n6_ n7_ n8_ hb hbox hg
      refine hK.out _ _ ⟨HS0_, HS1_, HS2_, HS3_⟩ (fun hHeld => ?_)
      clear hK K
      refine norm_ (a' := ?_) ?_ ?_
      rotate_left
      ·show Act.put _ (some 11) _ = _
       simp only [Act.put, sA, s0, sS, i64_w, i32_w]
       rfl
      exact norm_ (by first | (simp only [putAll, Act.put, sA, s0, sS]; done) | (simp only [putAll, Act.put, sA, s0, sS]; rfl)) (hJ3_7_13_22 (gb322) _ ⟨hHeld, (Kd.R_y HO_10.out), (Kd.Q_y HO_4.out), (blk_y BK290.out), (blk_y BK322.out), GW322.out, GE322.out, NB290_322.out, NB322_290.out, (below_y HB.out)⟩)
   ·skip
    rintro gb322 w57 ⟨hS_, h0_, h1_, h2_, h3_, h4_, h5_, h6_, h7_, h8_⟩
    have n0_ : Aside0 (Kd.R Kd.string 9 w57 w.heap.size (fun k_ => some k_ ≠ (.slice (some ad301) x4_2.length co30 : Value).ownBlock) (.slice (some ad318) t311.length co54) t311) := ⟨h0_⟩
    have n1_ : Aside0 (Kd.Q Kd.string 9 w57 w.heap.size (fun k_ => some k_ ≠ (.slice (some ad318) t311.length co54 : Value).ownBlock) (.slice (some ad301) x4_2.length co30) x4_2) := ⟨h1_⟩
    have n2_ : Aside0 (w57.heap[gb290]? = some (.cells #[.int .i64 x291000_2, .int .i64 x291001_2, .int .i64 x291002_2, .int .i64 x291003_2, .int .i64 x291004_2, .int .i64 x291005_2, .int .i64 x291006_2, .bool x291007_2] 52 (0, 0))) := ⟨h2_⟩
    have n3_ : Aside0 (w57.heap[gb322]? = some (.cells #[.int .i64 0, .int .i64 0, .int .i64 0, .int .i64 0, .int .i64 0, .int .i64 0, .int .i64 0, .bool false] 52 (0, 0))) := ⟨h3_⟩
    have n4_ : Aside0 (w.heap.size ≤ gb322) := ⟨h4_⟩
    have n5_ : Aside0 (w.heap.size ≤ gb322) := ⟨h5_⟩
    have n6_ : Aside0 (gb290 ≠ gb322) := ⟨h6_⟩
    have n7_ : Aside0 (gb322 ≠ gb290) := ⟨h7_⟩
    have n8_ : Aside0 (Below w.heap.size w w57) := ⟨h8_⟩
    clear HO_4 HO_10 BK290 HB h0_ h1_ h2_ h3_ h4_ h5_ h6_ h7_ h8_
    have HO_10 := n0_
    have HO_4 := n1_
    have BK290 := n2_
    have BK322 := n3_
    have GW322 := n4_
    have GE322 := n5_
    have NB290_322 := n6_
    have NB322_290 := n7_
    have HB := n8_
    clear n0_ n1_ n2_ n3_ n4_ n5_ n6_ n7_ n8_
    have hHeld : w57.cell? ⟨ad301.block, ad301.off + 2, none⟩ = some (.string (rdOf ByteArray.empty x4_2 2)) ∧ w57.cell? ⟨ad301.block, ad301.off + 1, none⟩ = some (.string (rdOf ByteArray.empty x4_2 1)) ∧ w57.cell? ad318 = some (.string (rdOf ByteArray.empty t311 0)) ∧ w57.cell? ⟨ad318.block, ad318.off + 1, none⟩ = some (.string (rdOf ByteArray.empty t311 1)) := hS_
    refine norm_ (a' := ?_) ?_ ?_
    rotate_left
    ·simp only [putAll, Act.put, sA, s0, sS]
     rfl
    refine one_ (i := 17) (N := some 96) #[true, true, true, true, true, true, true, true, true, true, true, true, true, true, true, true, true, true, false, true, true, false, true, false] rfl rfl (one_of HT_.out (by kernel_rfl)) (by decide) (fun K hK => ?_)
    refine goes_ Tryd.func41 (by kernel_rfl) rfl #[.string (rdOf ByteArray.empty t311 1), .int .i64 2] (by rfl) rfl rfl ca ?_
    with_reducible refine (newsreelref17_Number.calls kj35 (rdOf ByteArray.empty t311 1) 2 t321 _ A51.out).mono ?_
    rintro e w' ⟨rfl, ⟨nd, rfl⟩⟩
    refine ⟨_, rfl, ?_⟩
    refine hK.out _ _ ⟨hHeld.1, hHeld.2.1, hHeld.2.2.1, hHeld.2.2.2⟩ (fun hHeld => ?_)
    clear hK K
    refine norm_ (a' := ?_) ?_ ?_
    rotate_left
    ·show Act.put _ (some 96) _ = _
     simp only [Act.put, sA, s0, sS, i64_w, i32_w]
     rfl
    refine pu 18 97 HT_ ?_
    refine pu 21 100 HT_ ?_
    exact norm_ (by first | (simp only [putAll, Act.put, sA, s0, sS]; done) | (simp only [putAll, Act.put, sA, s0, sS]; rfl)) (hJ3_7_13_17_22 (gb322) _ ⟨hHeld, (Kd.R_y HO_10.out), (Kd.Q_y HO_4.out), (blk_y BK290.out), (blk_y BK322.out), GW322.out, GE322.out, NB290_322.out, NB322_290.out, (below_y HB.out)⟩)
  ·skip
   rintro _ w56 ⟨hS_, h0_, h1_, h2_, h3_⟩
   have n0_ : Aside0 (Kd.R Kd.string 9 w56 w.heap.size (fun k_ => some k_ ≠ (.slice (some ad301) x4_2.length co30 : Value).ownBlock) (.slice (some ad318) t311.length co54) t311) := ⟨h0_⟩
   have n1_ : Aside0 (Kd.Q Kd.string 9 w56 w.heap.size (fun k_ => some k_ ≠ (.slice (some ad318) t311.length co54 : Value).ownBlock) (.slice (some ad301) x4_2.length co30) x4_2) := ⟨h1_⟩
   have n2_ : Aside0 (w56.heap[gb290]? = some (.cells #[.int .i64 x291000_2, .int .i64 x291001_2, .int .i64 x291002_2, .int .i64 x291003_2, .int .i64 x291004_2, .int .i64 x291005_2, .int .i64 x291006_2, .bool x291007_2] 52 (0, 0))) := ⟨h2_⟩
   have n3_ : Aside0 (Below w.heap.size w w56) := ⟨h3_⟩
   clear HO_4 HO_10 BK290 HB h0_ h1_ h2_ h3_
   have HO_10 := n0_
   have HO_4 := n1_
   have BK290 := n2_
   have HB := n3_
   clear n0_ n1_ n2_ n3_
   have hHeld : w56.cell? ⟨ad301.block, ad301.off + 2, none⟩ = some (.string (rdOf ByteArray.empty x4_2 2)) ∧ w56.cell? ⟨ad301.block, ad301.off + 1, none⟩ = some (.string (rdOf ByteArray.empty x4_2 1)) ∧ w56.cell? ad318 = some (.string (rdOf ByteArray.empty t311 0)) ∧ w56.cell? ⟨ad318.block, ad318.off + 1, none⟩ = some (.string (rdOf ByteArray.empty t311 1)) := hS_
   refine norm_ (a' := ?_) ?_ ?_
   rotate_left
   ·simp only [putAll, Act.put, sA, s0, sS]
    rfl
   refine one_ (i := 22) (N := some 11) #[true, true, true, true, true, true, true, true, true, true, true, true, true, true, true, true, true, true, true, true, true, true, true, false] rfl rfl (one_of HT_.out (by kernel_rfl)) (by decide) (fun K hK => ?_)
   refine box_step ?hg (N := 11) ?hd (cs := #[.int .i64 0, .int .i64 0, .int .i64 0, .int .i64 0, .int .i64 0, .int .i64 0, .int .i64 0, .bool false]) (t := 52) ?hr ?_; (case hd => rfl); (case hg => rfl); (case hr => first | (go_simp; done) | (go_simp; rfl))
   intro gb322 hg w57 hbox hb
   have HS0_ := (hb.cell (World.block_lt_of_cell? _ _ (hHeld.1))).trans (hHeld.1)
   have HS1_ := (hb.cell (World.block_lt_of_cell? _ _ (hHeld.2.1))).trans (hHeld.2.1)
   have HS2_ := (hb.cell (World.block_lt_of_cell? _ _ (hHeld.2.2.1))).trans (hHeld.2.2.1)
   have HS3_ := (hb.cell (World.block_lt_of_cell? _ _ (hHeld.2.2.2))).trans (hHeld.2.2.2)
   have n0_ := mkA (Kd.Q_below (Kd.Q_y HO_4.out) hb)
   have n1_ := mkA (Kd.R_below (Kd.R_y HO_10.out) hb)
   have n2_ := mkA (blk_below (blk_y BK290.out) hb)
   have n3_ := mkA (below_step (below_y HB.out) hb)
   have n4_ := mkA (hbox)
   have n5_ := mkA ((gz hg HB.out : w.heap.size ≤ gb322))
   have n6_ := mkA ((gz hg HB.out : w.heap.size ≤ gb322))
   have n7_ := mkA ((gn hg BK290.out : gb290 ≠ gb322))
   have n8_ := mkA ((gm hg BK290.out : gb322 ≠ gb290))
   clear HO_4 HO_10 BK290 HB
   have HO_4 := n0_
   have HO_10 := n1_
   have BK290 := n2_
   have HB := n3_
   have BK322 := n4_
   have GW322 := n5_
   have GE322 := n6_
   have NB290_322 := n7_
   have NB322_290 := n8_
   clear n0_ n1_ n2_ n3_ n4_ n5_ n6_ n7_ n8_ hb hbox hg
   refine hK.out _ _ ⟨HS0_, HS1_, HS2_, HS3_⟩ (fun hHeld => ?_)
   clear hK K
   refine norm_ (a' := ?_) ?_ ?_
   rotate_left
   ·show Act.put _ (some 11) _ = _
    simp only [Act.put, sA, s0, sS, i64_w, i32_w]
    rfl
   exact norm_ (by first | (simp only [putAll, Act.put, sA, s0, sS]; done) | (simp only [putAll, Act.put, sA, s0, sS]; rfl)) (hJ3_7_13_17_22 (gb322) _ ⟨hHeld, (Kd.R_y HO_10.out), (Kd.Q_y HO_4.out), (blk_y BK290.out), (blk_y BK322.out), GW322.out, GE322.out, NB290_322.out, NB322_290.out, (below_y HB.out)⟩)
 rintro gb322 w57 ⟨hS_, h0_, h1_, h2_, h3_, h4_, h5_, h6_, h7_, h8_⟩
 have n0_ : Aside0 (Kd.R Kd.string 9 w57 w.heap.size (fun k_ => some k_ ≠ (.slice (some ad301) x4_2.length co30 : Value).ownBlock) (.slice (some ad318) t311.length co54) t311) := ⟨h0_⟩
 have n1_ : Aside0 (Kd.Q Kd.string 9 w57 w.heap.size (fun k_ => some k_ ≠ (.slice (some ad318) t311.length co54 : Value).ownBlock) (.slice (some ad301) x4_2.length co30) x4_2) := ⟨h1_⟩
 have n2_ : Aside0 (w57.heap[gb290]? = some (.cells #[.int .i64 x291000_2, .int .i64 x291001_2, .int .i64 x291002_2, .int .i64 x291003_2, .int .i64 x291004_2, .int .i64 x291005_2, .int .i64 x291006_2, .bool x291007_2] 52 (0, 0))) := ⟨h2_⟩
 have n3_ : Aside0 (w57.heap[gb322]? = some (.cells #[.int .i64 0, .int .i64 0, .int .i64 0, .int .i64 0, .int .i64 0, .int .i64 0, .int .i64 0, .bool false] 52 (0, 0))) := ⟨h3_⟩
 have n4_ : Aside0 (w.heap.size ≤ gb322) := ⟨h4_⟩
 have n5_ : Aside0 (w.heap.size ≤ gb322) := ⟨h5_⟩
 have n6_ : Aside0 (gb290 ≠ gb322) := ⟨h6_⟩
 have n7_ : Aside0 (gb322 ≠ gb290) := ⟨h7_⟩
 have n8_ : Aside0 (Below w.heap.size w w57) := ⟨h8_⟩
 clear HO_4 HO_10 BK290 HB h0_ h1_ h2_ h3_ h4_ h5_ h6_ h7_ h8_
 have HO_10 := n0_
 have HO_4 := n1_
 have BK290 := n2_
 have BK322 := n3_
 have GW322 := n4_
 have GE322 := n5_
 have NB290_322 := n6_
 have NB322_290 := n7_
 have HB := n8_
 clear n0_ n1_ n2_ n3_ n4_ n5_ n6_ n7_ n8_
 have hHeld : w57.cell? ⟨ad301.block, ad301.off + 2, none⟩ = some (.string (rdOf ByteArray.empty x4_2 2)) ∧ w57.cell? ⟨ad301.block, ad301.off + 1, none⟩ = some (.string (rdOf ByteArray.empty x4_2 1)) ∧ w57.cell? ad318 = some (.string (rdOf ByteArray.empty t311 0)) ∧ w57.cell? ⟨ad318.block, ad318.off + 1, none⟩ = some (.string (rdOf ByteArray.empty t311 1)) := hS_
 refine norm_ (a' := ?_) ?_ ?_
 rotate_left
 ·simp only [putAll, Act.put, sA, s0, sS]
  rfl
 refine one_ (i := 23) (N := none) #[true, true, true, true, true, true, true, true, true, true, true, true, true, true, true, true, true, true, true, true, true, true, true, true] rfl rfl (one_of HT_.out (by kernel_rfl)) (by decide) (fun K hK => ?_)
 have hs58 : w57.cell? ⟨gb322, 0, none⟩ = some (.int .i64 0) := (blk_cell BK322.out 0).trans rfl
 have hfs58 := blk_frozen BK322.out 0
 have hns58_0 := NB290_322.out
 have hms58_0 := NB322_290.out
 have hs59 : w57.cell? ⟨gb322, 1, none⟩ = some (.int .i64 0) := (blk_cell BK322.out 1).trans rfl
 have hfs59 := blk_frozen BK322.out 1
 have hns59_0 := NB290_322.out
 have hms59_0 := NB322_290.out
 have hs60 : w57.cell? ⟨gb322, 2, none⟩ = some (.int .i64 0) := (blk_cell BK322.out 2).trans rfl
 have hfs60 := blk_frozen BK322.out 2
 have hns60_0 := NB290_322.out
 have hms60_0 := NB322_290.out
 have hs61 : w57.cell? ⟨gb322, 3, none⟩ = some (.int .i64 0) := (blk_cell BK322.out 3).trans rfl
 have hfs61 := blk_frozen BK322.out 3
 have hns61_0 := NB290_322.out
 have hms61_0 := NB322_290.out
 have hs62 : w57.cell? ⟨gb322, 4, none⟩ = some (.int .i64 0) := (blk_cell BK322.out 4).trans rfl
 have hfs62 := blk_frozen BK322.out 4
 have hns62_0 := NB290_322.out
 have hms62_0 := NB322_290.out
 have hs63 : w57.cell? ⟨gb322, 5, none⟩ = some (.int .i64 0) := (blk_cell BK322.out 5).trans rfl
 have hfs63 := blk_frozen BK322.out 5
 have hns63_0 := NB290_322.out
 have hms63_0 := NB322_290.out
 have hs64 : w57.cell? ⟨gb322, 6, none⟩ = some (.int .i64 0) := (blk_cell BK322.out 6).trans rfl
 have hfs64 := blk_frozen BK322.out 6
 have hns64_0 := NB290_322.out
 have hms64_0 := NB322_290.out
 have hs65 : w57.cell? ⟨gb322, 7, none⟩ = some (.bool false) := (blk_cell BK322.out 7).trans rfl
 have hfs65 := blk_frozen BK322.out 7
 have hns65_0 := NB290_322.out
 have hms65_0 := NB322_290.out
 refine skip_ (w1 := ?_) (by rfl) rfl ?_ ?_
 rotate_left
 ·go_simp
  rfl
 refine hK.out _ _ ⟨((by have hx := Kd.own_blk (Kd.Q_ne HO_4.out BK322.out (by decide)); exact fS hx (fS hx (fS hx (fS hx (fS hx (fS hx (fS hx (fS hx (hHeld.1)))))))))), ((by have hx := Kd.own_blk (Kd.Q_ne HO_4.out BK322.out (by decide)); exact fS hx (fS hx (fS hx (fS hx (fS hx (fS hx (fS hx (fS hx (hHeld.2.1)))))))))), ((by have hx := Kd.own_blk (Kd.R_ne HO_10.out BK322.out (by decide)); exact fS hx (fS hx (fS hx (fS hx (fS hx (fS hx (fS hx (fS hx (hHeld.2.2.1)))))))))), ((by have hx := Kd.own_blk (Kd.R_ne HO_10.out BK322.out (by decide)); exact fS hx (fS hx (fS hx (fS hx (fS hx (fS hx (fS hx (fS hx (hHeld.2.2.2))))))))))⟩ (fun hHeld => ?_)
 clear hK K
 refine done_ (done_of HT_.out (by kernel_rfl)) ?_
 have N58 : ad318.block ≠ gb322 := Kd.own_blk (Kd.R_ne HO_10.out BK322.out (by decide))
 obtain ⟨w58, hW58, B58, C58, D58, F58⟩ : ∃ W_ : World, ((((((((w57.setCell ⟨gb322, 0, none⟩ (.int .i64 t315)).setCell ⟨gb322, 1, none⟩ (.int .i64 (wrap64 (t317 + 1)))).setCell ⟨gb322, 2, none⟩ (.int .i64 x9_28)).setCell ⟨gb322, 3, none⟩ (.int .i64 t319)).setCell ⟨gb322, 4, none⟩ (.int .i64 t321)).setCell ⟨gb322, 5, none⟩ (.int .i64 0)).setCell ⟨gb322, 6, none⟩ (.int .i64 t302)).setCell ⟨gb322, 7, none⟩ (.bool t303)) = W_ ∧ W_.heap[gb290]? = some (.cells #[.int .i64 x291000_2, .int .i64 x291001_2, .int .i64 x291002_2, .int .i64 x291003_2, .int .i64 x291004_2, .int .i64 x291005_2, .int .i64 x291006_2, .bool x291007_2] 52 (0, 0)) ∧ W_.heap[gb322]? = some (.cells #[.int .i64 t315, .int .i64 (wrap64 (t317 + 1)), .int .i64 x9_28, .int .i64 t319, .int .i64 t321, .int .i64 0, .int .i64 t302, .bool t303] 52 (0, 0)) ∧ Below w.heap.size w W_ ∧ (∀ a v, w57.cell? a = v → a.block ≠ gb322 → W_.cell? a = v) := ⟨_, rfl, (blk_far (blk_far (blk_far (blk_far (blk_far (blk_far (blk_far (blk_far BK290.out NB290_322.out _) NB290_322.out _) NB290_322.out _) NB290_322.out _) NB290_322.out _) NB290_322.out _) NB290_322.out _) NB290_322.out _), (blk_put (cs := #[.int .i64 t315, .int .i64 (wrap64 (t317 + 1)), .int .i64 x9_28, .int .i64 t319, .int .i64 t321, .int .i64 0, .int .i64 t302, .bool false]) (blk_put (cs := #[.int .i64 t315, .int .i64 (wrap64 (t317 + 1)), .int .i64 x9_28, .int .i64 t319, .int .i64 t321, .int .i64 0, .int .i64 0, .bool false]) (blk_put (cs := #[.int .i64 t315, .int .i64 (wrap64 (t317 + 1)), .int .i64 x9_28, .int .i64 t319, .int .i64 t321, .int .i64 0, .int .i64 0, .bool false]) (blk_put (cs := #[.int .i64 t315, .int .i64 (wrap64 (t317 + 1)), .int .i64 x9_28, .int .i64 t319, .int .i64 0, .int .i64 0, .int .i64 0, .bool false]) (blk_put (cs := #[.int .i64 t315, .int .i64 (wrap64 (t317 + 1)), .int .i64 x9_28, .int .i64 0, .int .i64 0, .int .i64 0, .int .i64 0, .bool false]) (blk_put (cs := #[.int .i64 t315, .int .i64 (wrap64 (t317 + 1)), .int .i64 0, .int .i64 0, .int .i64 0, .int .i64 0, .int .i64 0, .bool false]) (blk_put (cs := #[.int .i64 t315, .int .i64 0, .int .i64 0, .int .i64 0, .int .i64 0, .int .i64 0, .int .i64 0, .bool false]) (blk_put (cs := #[.int .i64 0, .int .i64 0, .int .i64 0, .int .i64 0, .int .i64 0, .int .i64 0, .int .i64 0, .bool false]) BK322.out 0 (.int .i64 t315) rfl) 1 (.int .i64 (wrap64 (t317 + 1))) rfl) 2 (.int .i64 x9_28) rfl) 3 (.int .i64 t319) rfl) 4 (.int .i64 t321) rfl) 5 (.int .i64 0) rfl) 6 (.int .i64 t302) rfl) 7 (.bool t303) rfl), (below_set (below_set (below_set (below_set (below_set (below_set (below_set (below_set HB.out GE322.out) GE322.out) GE322.out) GE322.out) GE322.out) GE322.out) GE322.out) GE322.out), fun a v e h => fS h (fS h (fS h (fS h (fS h (fS h (fS h (fS h (e))))))))⟩
 rw [hW58]
 clear hW58 BK290 BK322 HB hHeld
 have BK290 := mkA B58
 have BK322 := mkA C58
 have HB := mkA D58
 have G58 := mkA F58
 clear B58 C58 D58 F58
 go_upto_if 103 with (first | ((with_reducible refine gate_load (t := 52) rfl ?_); refine load_row3 (t := 52) (g := gb290) ?hg BK290.out ?ho ?hb Tryd.underlying52 rfl ?hs ?_; (case hg => rfl); (case ho => refine ⟨_, rfl, ?_⟩; first | (with_reducible rfl) | (go_simp; done)); (case hb => (with_reducible repeat (first | refine blk_drewN ?_ _ | refine blk_drew ?_ | refine blk_alloc ?_ _)); with_reducible exact BK290.out); (case hs => kernel_rfl)) | ((with_reducible refine gate_load (t := 52) rfl ?_); refine load_row3 (t := 52) (g := gb322) ?hg BK322.out ?ho ?hb Tryd.underlying52 rfl ?hs ?_; (case hg => rfl); (case ho => refine ⟨_, rfl, ?_⟩; first | (with_reducible rfl) | (go_simp; done)); (case hb => (with_reducible repeat (first | refine blk_drewN ?_ _ | refine blk_drew ?_ | refine blk_alloc ?_ _)); with_reducible exact BK322.out); (case hs => kernel_rfl)))
 go_cut [] (fun wc => ∃ (kq : Nat) (x323005_51 : Int), Aside0 (newsreelref17_parse.j4 kq t304 t315 (wrap64 (t317 + 1)) x9_28 t319 t321 x323005_51 t302 t303 = some (r1, r2, r3, r4, r5, r6, r7, r8, r9)) ∧ Aside0 (kq ≤ kj35) ∧ Aside0 (wc.heap[gb290]? = some (.cells #[.int .i64 x291000_2, .int .i64 x291001_2, .int .i64 x291002_2, .int .i64 x291003_2, .int .i64 x291004_2, .int .i64 x291005_2, .int .i64 x291006_2, .bool x291007_2] 52 (0, 0))) ∧ Aside0 (wc.heap[gb322]? = some (.cells #[.int .i64 t315, .int .i64 (wrap64 (t317 + 1)), .int .i64 x9_28, .int .i64 t319, .int .i64 t321, .int .i64 x323005_51, .int .i64 t302, .bool t303] 52 (0, 0))) ∧ Aside0 (Below w.heap.size w wc))
 case first =>
  have H := HC52.out
  clear HC52
  by_cases c66 : (t311.length : Int) = 3
  ·rw [if_pos c66] at H
   have c66b0 : ((t311.length : Int) == 3) = true := beq_iff_eq.mpr c66
   have c66b1 : ((t311.length : Int) != 3) = false := bne_eq_false_iff_eq.mpr c66
   clear c66
   (first | rw [c66b0] | (simp only [i64_w, i32_w]; rw [c66b0]) | skip)
   by_cases c67 : 2 < (t311.length : Int)
   ·rw [if_pos c67] at H
    have c67b0 : decide (2 < (t311.length : Int)) = true := decide_eq_true c67
    have c67b1 : decide (2 < t311.length) = true := decide_eq_true (by omega)
    clear c67
    replace H := Option.bind_eq_some_iff.mp H
    obtain ⟨t324, A680, H⟩ := H
    replace H : (newsreelref17_parse.j4 kj35 t304 t315 (wrap64 (t317 + 1)) x9_28 t319 t321 t324 t302 t303) = some (r1, r2, r3, r4, r5, r6, r7, r8, r9) := H
    have A68 := mkA A680
    clear A680
    as_aux_lemma =>
     have H' := mkA H
     clear H
     have p323 : 0 ≤ (2 : Int) := (by omega)
     have q323 : 2 < (t311.length : Int) := odt
     obtain ⟨ad323, e323, hx323_0⟩ := Kd.at_string (Kd.R_reads' HO_10.out).2.2 2 p323 q323
     obtain rfl : ad318 = ad323 := (by injection e323)
     (try simp only [show (2 : Int).toNat = 2 from rfl, Nat.reduceMul, Nat.reduceEqDiff, Go.Addr.add, ↓reduceIte] at hx323_0)
     have qi323 : (2 < t311.length) = True := eq_true (by omega)
     (try rw [show ((2 : Int)).toNat = 2 from rfl] at hx323_0)
     replace hx323_0 := G58.out _ _ hx323_0 N58
     replace p323 := eq_true p323
     replace q323 := eq_true q323
     go_wp2_with (first | ((with_reducible refine gate_load (t := 52) rfl ?_); refine load_row3 (t := 52) (g := gb290) ?hg BK290.out ?ho ?hb Tryd.underlying52 rfl ?hs ?_; (case hg => rfl); (case ho => refine ⟨_, rfl, ?_⟩; first | (with_reducible rfl) | (go_simp; done)); (case hb => (with_reducible repeat (first | refine blk_drewN ?_ _ | refine blk_drew ?_ | refine blk_alloc ?_ _)); with_reducible exact BK290.out); (case hs => kernel_rfl)) | ((with_reducible refine gate_load (t := 52) rfl ?_); refine load_row3 (t := 52) (g := gb322) ?hg BK322.out ?ho ?hb Tryd.underlying52 rfl ?hs ?_; (case hg => rfl); (case ho => refine ⟨_, rfl, ?_⟩; first | (with_reducible rfl) | (go_simp; done)); (case hb => (with_reducible repeat (first | refine blk_drewN ?_ _ | refine blk_drew ?_ | refine blk_alloc ?_ _)); with_reducible exact BK322.out); (case hs => kernel_rfl)) | ((with_reducible refine gate_callee (f := 41) rfl ?_); refine goesL_ (some 107) rfl rfl Tryd.func41 (by kernel_rfl) rfl #[.string (rdOf ByteArray.empty t311 2), .int .i64 2] rfl ca ?_; (with_reducible refine (newsreelref17_Number.calls kj35 (rdOf ByteArray.empty t311 2) 2 t324 _ A68.out).mono ?_); rintro e w' ⟨rfl, ⟨nd, rfl⟩⟩; refine ⟨_, rfl, ?_⟩; have hnb69 := NB322_290.out; have hnc69 := NB290_322.out; have hcz70_0 := bc BK322.out 0 (.int .i64 t315) rfl; have hcz70_1 := bc BK322.out 1 (.int .i64 (wrap64 (t317 + 1))) rfl; have hcz70_2 := bc BK322.out 2 (.int .i64 x9_28) rfl; have hcz70_3 := bc BK322.out 3 (.int .i64 t319) rfl; have hcz70_4 := bc BK322.out 4 (.int .i64 t321) rfl; have hcz70_5 := bc BK322.out 5 (.int .i64 0) rfl; have hcz70_6 := bc BK322.out 6 (.int .i64 t302) rfl; have hcz70_7 := bc BK322.out 7 (.bool t303) rfl; have hfz70_0 := blk_frozen BK322.out 0; have hfz70_1 := blk_frozen BK322.out 1; have hfz70_2 := blk_frozen BK322.out 2; have hfz70_3 := blk_frozen BK322.out 3; have hfz70_4 := blk_frozen BK322.out 4; have hfz70_5 := blk_frozen BK322.out 5; have hfz70_6 := blk_frozen BK322.out 6; have hfz70_7 := blk_frozen BK322.out 7))
     go_meet
     case rel => exact ⟨_, (t324), H', ⟨by have := HJ2.out; have := HJ28.out; have := HJ35.out; first | omega | exact Nat.le_refl _⟩, ⟨by (with_reducible repeat (first | refine blk_drewN ?_ _ | refine blk_drew ?_ | refine blk_alloc ?_ _)); refine blk_far ?_ NB290_322.out _; (with_reducible repeat (first | refine blk_drewN ?_ _ | refine blk_drew ?_ | refine blk_alloc ?_ _)); exact BK290.out⟩, ⟨by (with_reducible repeat (first | refine blk_drewN ?_ _ | refine blk_drew ?_ | refine blk_alloc ?_ _)); refine blk_put (cs := #[.int .i64 t315, .int .i64 (wrap64 (t317 + 1)), .int .i64 x9_28, .int .i64 t319, .int .i64 t321, .int .i64 0, .int .i64 t302, .bool t303]) ?_ 5 _ rfl; (with_reducible repeat (first | refine blk_drewN ?_ _ | refine blk_drew ?_ | refine blk_alloc ?_ _)); exact BK322.out⟩, ⟨by repeat (first | (with_reducible first | exact HB.out | apply below_alloc | apply pw_below_drewN | apply below_drew1 | refine below_set ?_ GE290.out | refine below_set ?_ GE322.out) | exact HB.out)⟩⟩
   ·rw [if_neg c67] at H
    exact absurd H (by simp)
  ·rw [if_neg c66] at H
   have c66b0 : ((t311.length : Int) == 3) = false := beq_eq_false_iff_ne.mpr c66
   have c66b1 : ((t311.length : Int) != 3) = true := bne_iff_ne.mpr c66
   (first | rw [c66b0] | (simp only [i64_w, i32_w]; rw [c66b0]) | skip)
   as_aux_lemma =>
    have H' := mkA H
    clear H
    go_wp2_with (first | ((with_reducible refine gate_load (t := 52) rfl ?_); refine load_row3 (t := 52) (g := gb290) ?hg BK290.out ?ho ?hb Tryd.underlying52 rfl ?hs ?_; (case hg => rfl); (case ho => refine ⟨_, rfl, ?_⟩; first | (with_reducible rfl) | (go_simp; done)); (case hb => (with_reducible repeat (first | refine blk_drewN ?_ _ | refine blk_drew ?_ | refine blk_alloc ?_ _)); with_reducible exact BK290.out); (case hs => kernel_rfl)) | ((with_reducible refine gate_load (t := 52) rfl ?_); refine load_row3 (t := 52) (g := gb322) ?hg BK322.out ?ho ?hb Tryd.underlying52 rfl ?hs ?_; (case hg => rfl); (case ho => refine ⟨_, rfl, ?_⟩; first | (with_reducible rfl) | (go_simp; done)); (case hb => (with_reducible repeat (first | refine blk_drewN ?_ _ | refine blk_drew ?_ | refine blk_alloc ?_ _)); with_reducible exact BK322.out); (case hs => kernel_rfl)))
    go_meet
    case rel => exact ⟨_, (0), H', ⟨by have := HJ2.out; have := HJ28.out; have := HJ35.out; first | omega | exact Nat.le_refl _⟩, ⟨by (with_reducible repeat (first | refine blk_drewN ?_ _ | refine blk_drew ?_ | refine blk_alloc ?_ _)); exact BK290.out⟩, ⟨by (with_reducible repeat (first | refine blk_drewN ?_ _ | refine blk_drew ?_ | refine blk_alloc ?_ _)); exact BK322.out⟩, ⟨by repeat (first | (with_reducible first | exact HB.out | apply below_alloc | apply pw_below_drewN | apply below_drew1 | refine below_set ?_ GE290.out | refine below_set ?_ GE322.out) | exact HB.out)⟩⟩
 clear HC52
 try clear p2
 try clear c3
 try clear p3
 try clear q3
 try clear hx3
 try clear qi3
 try clear c4
 try clear c6
 try clear p6
 try clear p32
 try clear q32
 try clear hx32
 try clear qi32
 try clear c39
 try clear c41
 try clear p64
 try clear c66
 try clear c66b0
 try clear c66b1
 try clear c67
 try clear c67b0
 try clear c67b1
 try clear c69
 try clear hcz70_0
 try clear hcz70_1
 try clear hcz70_2
 try clear hcz70_3
 try clear hcz70_4
 try clear hcz70_5
 try clear hcz70_6
 try clear hcz70_7
 try clear hfz70_0
 try clear hfz70_1
 try clear hfz70_2
 try clear hfz70_3
 try clear hfz70_4
 try clear hfz70_5
 try clear hfz70_6
 try clear hfz70_7
 try clear hx323_0
 try clear p323
 try clear q323
 obtain ⟨kq, x323005_51, HA, HJ51, BK290, BK322, HB⟩ := hcut
 rcases kq with _ | kj51
 ·exact absurd HA.out (by simp [newsreelref17_parse.j4])
 have H := HA.out
 clear HA
 simp only [newsreelref17_parse.j4] at H
 have H' := mkA H
 clear H
 go_wp2_with (first | ((with_reducible refine gate_load (t := 52) rfl ?_); refine load_row3 (t := 52) (g := gb290) ?hg BK290.out ?ho ?hb Tryd.underlying52 rfl ?hs ?_; (case hg => rfl); (case ho => refine ⟨_, rfl, ?_⟩; first | (with_reducible rfl) | (go_simp; done)); (case hb => (with_reducible repeat (first | refine blk_drewN ?_ _ | refine blk_drew ?_ | refine blk_alloc ?_ _)); with_reducible exact BK290.out); (case hs => kernel_rfl)) | ((with_reducible refine gate_load (t := 52) rfl ?_); refine load_row3 (t := 52) (g := gb322) ?hg BK322.out ?ho ?hb Tryd.underlying52 rfl ?hs ?_; (case hg => rfl); (case ho => refine ⟨_, rfl, ?_⟩; first | (with_reducible rfl) | (go_simp; done)); (case hb => (with_reducible repeat (first | refine blk_drewN ?_ _ | refine blk_drew ?_ | refine blk_alloc ?_ _)); with_reducible exact BK322.out); (case hs => kernel_rfl)))
 go_loopg [8, 12] kj51 (fun kq v8 v12 w' => ∃ (x8_5 : Bool) (x12_5 : Int), v8 = .bool x8_5 ∧ v12 = .int .i64 x12_5 ∧ Aside0 (newsreelref17_parse.l0 kq x8_5 x12_5 t315 (wrap64 (t317 + 1)) x9_28 t319 t321 x323005_51 t302 t303 = some (r1, r2, r3, r4, r5, r6, r7, r8, r9)) ∧ Aside0 (kq ≤ kj51) ∧ Aside0 (w'.heap[gb290]? = some (.cells #[.int .i64 x291000_2, .int .i64 x291001_2, .int .i64 x291002_2, .int .i64 x291003_2, .int .i64 x291004_2, .int .i64 x291005_2, .int .i64 x291006_2, .bool x291007_2] 52 (0, 0))) ∧ Aside0 (w'.heap[gb322]? = some (.cells #[.int .i64 t315, .int .i64 (wrap64 (t317 + 1)), .int .i64 x9_28, .int .i64 t319, .int .i64 t321, .int .i64 x323005_51, .int .i64 t302, .bool t303] 52 (0, 0))) ∧ Aside0 (Below w.heap.size w w'))
 case atStart => exact ⟨(t304), (0), (by first | rfl | (simp; done) | (simp [*]; done)), (by first | rfl | (simp; done) | (simp [*]; done)), H', ⟨Nat.le_refl _⟩, ⟨by (with_reducible repeat (first | refine blk_drewN ?_ _ | refine blk_drew ?_ | refine blk_alloc ?_ _)); exact BK290.out⟩, ⟨by (with_reducible repeat (first | refine blk_drewN ?_ _ | refine blk_drew ?_ | refine blk_alloc ?_ _)); exact BK322.out⟩, ⟨by repeat (first | (with_reducible first | exact HB.out | apply below_alloc | apply pw_below_drewN | apply below_drew1 | refine below_set ?_ GE290.out | refine below_set ?_ GE322.out) | exact HB.out)⟩⟩
 clear H'
 try clear p2
 try clear c3
 try clear p3
 try clear q3
 try clear hx3
 try clear qi3
 try clear c4
 try clear c6
 try clear p6
 try clear p32
 try clear q32
 try clear hx32
 try clear qi32
 try clear c39
 try clear c41
 try clear p64
 try clear c66
 try clear c66b0
 try clear c66b1
 try clear c67
 try clear c67b0
 try clear c67b1
 try clear c69
 try clear hcz70_0
 try clear hcz70_1
 try clear hcz70_2
 try clear hcz70_3
 try clear hcz70_4
 try clear hcz70_5
 try clear hcz70_6
 try clear hcz70_7
 try clear hfz70_0
 try clear hfz70_1
 try clear hfz70_2
 try clear hfz70_3
 try clear hfz70_4
 try clear hfz70_5
 try clear hfz70_6
 try clear hfz70_7
 try clear hx323_0
 try clear p2
 try clear p3
 try clear p32
 try clear p323
 try clear p6
 try clear p64
 try clear q3
 try clear q32
 try clear q323
 obtain ⟨x8_5, x12_5, rfl, rfl, HA, HK5, BK290, BK322, HB⟩ := hrel
 rcases gk with _ | k5
 ·exact absurd HA.out (by simp [newsreelref17_parse.l0])
 have H := HA.out
 clear HA
 simp only [newsreelref17_parse.l0] at H
 by_cases c71 : x12_5 < 6
 ·rw [if_pos c71] at H
  have c71b0 : decide (x12_5 < 6) = true := decide_eq_true c71
  clear c71
  by_cases c72 : x8_5 = true
  ·subst c72
   rw [if_pos rfl] at H
   by_cases ej0 : x12_5 = 0
   ·subst ej0
    have H1 : (newsreelref17_parse.l0 k5 (decide (t315 ≥ 0)) 1 t315 (wrap64 (t317 + 1)) x9_28 t319 t321 x323005_51 t302 t303) = some (r1, r2, r3, r4, r5, r6, r7, r8, r9) := by rw [if_pos rfl] at H; rw [show wrap64 ((0 : Int) + 1) = 1 by simp [wrap64]] at H; exact H
    clear H
    have H := H1
    clear H1
    as_aux_lemma =>
     have H' := mkA H
     clear H
     have hnb73 := NB322_290.out
     have hnc73 := NB290_322.out
     have hcz74_0 := bc BK322.out 0 (.int .i64 t315) rfl
     have hcz74_1 := bc BK322.out 1 (.int .i64 (wrap64 (t317 + 1))) rfl
     have hcz74_2 := bc BK322.out 2 (.int .i64 x9_28) rfl
     have hcz74_3 := bc BK322.out 3 (.int .i64 t319) rfl
     have hcz74_4 := bc BK322.out 4 (.int .i64 t321) rfl
     have hcz74_5 := bc BK322.out 5 (.int .i64 x323005_51) rfl
     have hcz74_6 := bc BK322.out 6 (.int .i64 t302) rfl
     have hcz74_7 := bc BK322.out 7 (.bool t303) rfl
     have hfz74_0 := blk_frozen BK322.out 0
     have hfz74_1 := blk_frozen BK322.out 1
     have hfz74_2 := blk_frozen BK322.out 2
     have hfz74_3 := blk_frozen BK322.out 3
     have hfz74_4 := blk_frozen BK322.out 4
     have hfz74_5 := blk_frozen BK322.out 5
     have hfz74_6 := blk_frozen BK322.out 6
     have hfz74_7 := blk_frozen BK322.out 7
     go_wp2_with (first | ((with_reducible refine gate_load (t := 52) rfl ?_); refine load_row3 (t := 52) (g := gb290) ?hg BK290.out ?ho ?hb Tryd.underlying52 rfl ?hs ?_; (case hg => rfl); (case ho => refine ⟨_, rfl, ?_⟩; first | (with_reducible rfl) | (go_simp; done)); (case hb => (with_reducible repeat (first | refine blk_drewN ?_ _ | refine blk_drew ?_ | refine blk_alloc ?_ _)); with_reducible exact BK290.out); (case hs => kernel_rfl)) | ((with_reducible refine gate_load (t := 52) rfl ?_); refine load_row3 (t := 52) (g := gb322) ?hg BK322.out ?ho ?hb Tryd.underlying52 rfl ?hs ?_; (case hg => rfl); (case ho => refine ⟨_, rfl, ?_⟩; first | (with_reducible rfl) | (go_simp; done)); (case hb => (with_reducible repeat (first | refine blk_drewN ?_ _ | refine blk_drew ?_ | refine blk_alloc ?_ _)); with_reducible exact BK322.out); (case hs => kernel_rfl)))
     go_roundg k5
     case measure => have := HJ2.out; have := HJ28.out; have := HJ35.out; have := HJ51.out; have := HK5.out; omega
     case rel => exact ⟨(decide (t315 ≥ 0)), (1), (by first | rfl | (simp; done) | (simp [*]; done)), (by first | rfl | (simp; done) | (simp [*]; done)), H', ⟨by have := HJ2.out; have := HJ28.out; have := HJ35.out; have := HJ51.out; have := HK5.out; omega⟩, ⟨by (with_reducible repeat (first | refine blk_drewN ?_ _ | refine blk_drew ?_ | refine blk_alloc ?_ _)); exact BK290.out⟩, ⟨by (with_reducible repeat (first | refine blk_drewN ?_ _ | refine blk_drew ?_ | refine blk_alloc ?_ _)); exact BK322.out⟩, ⟨by repeat (first | (with_reducible first | exact HB.out | apply below_alloc | apply pw_below_drewN | apply below_drew1 | refine below_set ?_ GE290.out | refine below_set ?_ GE322.out) | exact HB.out)⟩⟩
   by_cases ej1 : x12_5 = 1
   ·subst ej1
    have H1 : (newsreelref17_parse.l0 k5 (decide ((wrap64 (t317 + 1)) ≥ 0)) 2 t315 (wrap64 (t317 + 1)) x9_28 t319 t321 x323005_51 t302 t303) = some (r1, r2, r3, r4, r5, r6, r7, r8, r9) := by rw [if_neg (by decide), if_pos rfl] at H; rw [show wrap64 ((1 : Int) + 1) = 2 by simp [wrap64]] at H; exact H
    clear H
    have H := H1
    clear H1
    as_aux_lemma =>
     have H' := mkA H
     clear H
     have hnb73 := NB322_290.out
     have hnc73 := NB290_322.out
     have hcz74_0 := bc BK322.out 0 (.int .i64 t315) rfl
     have hcz74_1 := bc BK322.out 1 (.int .i64 (wrap64 (t317 + 1))) rfl
     have hcz74_2 := bc BK322.out 2 (.int .i64 x9_28) rfl
     have hcz74_3 := bc BK322.out 3 (.int .i64 t319) rfl
     have hcz74_4 := bc BK322.out 4 (.int .i64 t321) rfl
     have hcz74_5 := bc BK322.out 5 (.int .i64 x323005_51) rfl
     have hcz74_6 := bc BK322.out 6 (.int .i64 t302) rfl
     have hcz74_7 := bc BK322.out 7 (.bool t303) rfl
     have hfz74_0 := blk_frozen BK322.out 0
     have hfz74_1 := blk_frozen BK322.out 1
     have hfz74_2 := blk_frozen BK322.out 2
     have hfz74_3 := blk_frozen BK322.out 3
     have hfz74_4 := blk_frozen BK322.out 4
     have hfz74_5 := blk_frozen BK322.out 5
     have hfz74_6 := blk_frozen BK322.out 6
     have hfz74_7 := blk_frozen BK322.out 7
     go_wp2_with (first | ((with_reducible refine gate_load (t := 52) rfl ?_); refine load_row3 (t := 52) (g := gb290) ?hg BK290.out ?ho ?hb Tryd.underlying52 rfl ?hs ?_; (case hg => rfl); (case ho => refine ⟨_, rfl, ?_⟩; first | (with_reducible rfl) | (go_simp; done)); (case hb => (with_reducible repeat (first | refine blk_drewN ?_ _ | refine blk_drew ?_ | refine blk_alloc ?_ _)); with_reducible exact BK290.out); (case hs => kernel_rfl)) | ((with_reducible refine gate_load (t := 52) rfl ?_); refine load_row3 (t := 52) (g := gb322) ?hg BK322.out ?ho ?hb Tryd.underlying52 rfl ?hs ?_; (case hg => rfl); (case ho => refine ⟨_, rfl, ?_⟩; first | (with_reducible rfl) | (go_simp; done)); (case hb => (with_reducible repeat (first | refine blk_drewN ?_ _ | refine blk_drew ?_ | refine blk_alloc ?_ _)); with_reducible exact BK322.out); (case hs => kernel_rfl)))
     go_roundg k5
     case measure => have := HJ2.out; have := HJ28.out; have := HJ35.out; have := HJ51.out; have := HK5.out; omega
     case rel => exact ⟨(decide ((wrap64 (t317 + 1)) ≥ 0)), (2), (by first | rfl | (simp; done) | (simp [*]; done)), (by first | rfl | (simp; done) | (simp [*]; done)), H', ⟨by have := HJ2.out; have := HJ28.out; have := HJ35.out; have := HJ51.out; have := HK5.out; omega⟩, ⟨by (with_reducible repeat (first | refine blk_drewN ?_ _ | refine blk_drew ?_ | refine blk_alloc ?_ _)); exact BK290.out⟩, ⟨by (with_reducible repeat (first | refine blk_drewN ?_ _ | refine blk_drew ?_ | refine blk_alloc ?_ _)); exact BK322.out⟩, ⟨by repeat (first | (with_reducible first | exact HB.out | apply below_alloc | apply pw_below_drewN | apply below_drew1 | refine below_set ?_ GE290.out | refine below_set ?_ GE322.out) | exact HB.out)⟩⟩
   by_cases ej2 : x12_5 = 2
   ·subst ej2
    have H1 : (newsreelref17_parse.l0 k5 (decide (x9_28 ≥ 0)) 3 t315 (wrap64 (t317 + 1)) x9_28 t319 t321 x323005_51 t302 t303) = some (r1, r2, r3, r4, r5, r6, r7, r8, r9) := by rw [if_neg (by decide), if_neg (by decide), if_pos rfl] at H; rw [show wrap64 ((2 : Int) + 1) = 3 by simp [wrap64]] at H; exact H
    clear H
    have H := H1
    clear H1
    as_aux_lemma =>
     have H' := mkA H
     clear H
     have hnb73 := NB322_290.out
     have hnc73 := NB290_322.out
     have hcz74_0 := bc BK322.out 0 (.int .i64 t315) rfl
     have hcz74_1 := bc BK322.out 1 (.int .i64 (wrap64 (t317 + 1))) rfl
     have hcz74_2 := bc BK322.out 2 (.int .i64 x9_28) rfl
     have hcz74_3 := bc BK322.out 3 (.int .i64 t319) rfl
     have hcz74_4 := bc BK322.out 4 (.int .i64 t321) rfl
     have hcz74_5 := bc BK322.out 5 (.int .i64 x323005_51) rfl
     have hcz74_6 := bc BK322.out 6 (.int .i64 t302) rfl
     have hcz74_7 := bc BK322.out 7 (.bool t303) rfl
     have hfz74_0 := blk_frozen BK322.out 0
     have hfz74_1 := blk_frozen BK322.out 1
     have hfz74_2 := blk_frozen BK322.out 2
     have hfz74_3 := blk_frozen BK322.out 3
     have hfz74_4 := blk_frozen BK322.out 4
     have hfz74_5 := blk_frozen BK322.out 5
     have hfz74_6 := blk_frozen BK322.out 6
     have hfz74_7 := blk_frozen BK322.out 7
     go_wp2_with (first | ((with_reducible refine gate_load (t := 52) rfl ?_); refine load_row3 (t := 52) (g := gb290) ?hg BK290.out ?ho ?hb Tryd.underlying52 rfl ?hs ?_; (case hg => rfl); (case ho => refine ⟨_, rfl, ?_⟩; first | (with_reducible rfl) | (go_simp; done)); (case hb => (with_reducible repeat (first | refine blk_drewN ?_ _ | refine blk_drew ?_ | refine blk_alloc ?_ _)); with_reducible exact BK290.out); (case hs => kernel_rfl)) | ((with_reducible refine gate_load (t := 52) rfl ?_); refine load_row3 (t := 52) (g := gb322) ?hg BK322.out ?ho ?hb Tryd.underlying52 rfl ?hs ?_; (case hg => rfl); (case ho => refine ⟨_, rfl, ?_⟩; first | (with_reducible rfl) | (go_simp; done)); (case hb => (with_reducible repeat (first | refine blk_drewN ?_ _ | refine blk_drew ?_ | refine blk_alloc ?_ _)); with_reducible exact BK322.out); (case hs => kernel_rfl)))
     go_roundg k5
     case measure => have := HJ2.out; have := HJ28.out; have := HJ35.out; have := HJ51.out; have := HK5.out; omega
     case rel => exact ⟨(decide (x9_28 ≥ 0)), (3), (by first | rfl | (simp; done) | (simp [*]; done)), (by first | rfl | (simp; done) | (simp [*]; done)), H', ⟨by have := HJ2.out; have := HJ28.out; have := HJ35.out; have := HJ51.out; have := HK5.out; omega⟩, ⟨by (with_reducible repeat (first | refine blk_drewN ?_ _ | refine blk_drew ?_ | refine blk_alloc ?_ _)); exact BK290.out⟩, ⟨by (with_reducible repeat (first | refine blk_drewN ?_ _ | refine blk_drew ?_ | refine blk_alloc ?_ _)); exact BK322.out⟩, ⟨by repeat (first | (with_reducible first | exact HB.out | apply below_alloc | apply pw_below_drewN | apply below_drew1 | refine below_set ?_ GE290.out | refine below_set ?_ GE322.out) | exact HB.out)⟩⟩
   by_cases ej3 : x12_5 = 3
   ·subst ej3
    have H1 : (newsreelref17_parse.l0 k5 (decide (t319 ≥ 0)) 4 t315 (wrap64 (t317 + 1)) x9_28 t319 t321 x323005_51 t302 t303) = some (r1, r2, r3, r4, r5, r6, r7, r8, r9) := by rw [if_neg (by decide), if_neg (by decide), if_neg (by decide), if_pos rfl] at H; rw [show wrap64 ((3 : Int) + 1) = 4 by simp [wrap64]] at H; exact H
    clear H
    have H := H1
    clear H1
    as_aux_lemma =>
     have H' := mkA H
     clear H
     have hnb73 := NB322_290.out
     have hnc73 := NB290_322.out
     have hcz74_0 := bc BK322.out 0 (.int .i64 t315) rfl
     have hcz74_1 := bc BK322.out 1 (.int .i64 (wrap64 (t317 + 1))) rfl
     have hcz74_2 := bc BK322.out 2 (.int .i64 x9_28) rfl
     have hcz74_3 := bc BK322.out 3 (.int .i64 t319) rfl
     have hcz74_4 := bc BK322.out 4 (.int .i64 t321) rfl
     have hcz74_5 := bc BK322.out 5 (.int .i64 x323005_51) rfl
     have hcz74_6 := bc BK322.out 6 (.int .i64 t302) rfl
     have hcz74_7 := bc BK322.out 7 (.bool t303) rfl
     have hfz74_0 := blk_frozen BK322.out 0
     have hfz74_1 := blk_frozen BK322.out 1
     have hfz74_2 := blk_frozen BK322.out 2
     have hfz74_3 := blk_frozen BK322.out 3
     have hfz74_4 := blk_frozen BK322.out 4
     have hfz74_5 := blk_frozen BK322.out 5
     have hfz74_6 := blk_frozen BK322.out 6
     have hfz74_7 := blk_frozen BK322.out 7
     go_wp2_with (first | ((with_reducible refine gate_load (t := 52) rfl ?_); refine load_row3 (t := 52) (g := gb290) ?hg BK290.out ?ho ?hb Tryd.underlying52 rfl ?hs ?_; (case hg => rfl); (case ho => refine ⟨_, rfl, ?_⟩; first | (with_reducible rfl) | (go_simp; done)); (case hb => (with_reducible repeat (first | refine blk_drewN ?_ _ | refine blk_drew ?_ | refine blk_alloc ?_ _)); with_reducible exact BK290.out); (case hs => kernel_rfl)) | ((with_reducible refine gate_load (t := 52) rfl ?_); refine load_row3 (t := 52) (g := gb322) ?hg BK322.out ?ho ?hb Tryd.underlying52 rfl ?hs ?_; (case hg => rfl); (case ho => refine ⟨_, rfl, ?_⟩; first | (with_reducible rfl) | (go_simp; done)); (case hb => (with_reducible repeat (first | refine blk_drewN ?_ _ | refine blk_drew ?_ | refine blk_alloc ?_ _)); with_reducible exact BK322.out); (case hs => kernel_rfl)))
     go_roundg k5
     case measure => have := HJ2.out; have := HJ28.out; have := HJ35.out; have := HJ51.out; have := HK5.out; omega
     case rel => exact ⟨(decide (t319 ≥ 0)), (4), (by first | rfl | (simp; done) | (simp [*]; done)), (by first | rfl | (simp; done) | (simp [*]; done)), H', ⟨by have := HJ2.out; have := HJ28.out; have := HJ35.out; have := HJ51.out; have := HK5.out; omega⟩, ⟨by (with_reducible repeat (first | refine blk_drewN ?_ _ | refine blk_drew ?_ | refine blk_alloc ?_ _)); exact BK290.out⟩, ⟨by (with_reducible repeat (first | refine blk_drewN ?_ _ | refine blk_drew ?_ | refine blk_alloc ?_ _)); exact BK322.out⟩, ⟨by repeat (first | (with_reducible first | exact HB.out | apply below_alloc | apply pw_below_drewN | apply below_drew1 | refine below_set ?_ GE290.out | refine below_set ?_ GE322.out) | exact HB.out)⟩⟩
   by_cases ej4 : x12_5 = 4
   ·subst ej4
    have H1 : (newsreelref17_parse.l0 k5 (decide (t321 ≥ 0)) 5 t315 (wrap64 (t317 + 1)) x9_28 t319 t321 x323005_51 t302 t303) = some (r1, r2, r3, r4, r5, r6, r7, r8, r9) := by rw [if_neg (by decide), if_neg (by decide), if_neg (by decide), if_neg (by decide), if_pos rfl] at H; rw [show wrap64 ((4 : Int) + 1) = 5 by simp [wrap64]] at H; exact H
    clear H
    have H := H1
    clear H1
    as_aux_lemma =>
     have H' := mkA H
     clear H
     have hnb73 := NB322_290.out
     have hnc73 := NB290_322.out
     have hcz74_0 := bc BK322.out 0 (.int .i64 t315) rfl
     have hcz74_1 := bc BK322.out 1 (.int .i64 (wrap64 (t317 + 1))) rfl
     have hcz74_2 := bc BK322.out 2 (.int .i64 x9_28) rfl
     have hcz74_3 := bc BK322.out 3 (.int .i64 t319) rfl
     have hcz74_4 := bc BK322.out 4 (.int .i64 t321) rfl
     have hcz74_5 := bc BK322.out 5 (.int .i64 x323005_51) rfl
     have hcz74_6 := bc BK322.out 6 (.int .i64 t302) rfl
     have hcz74_7 := bc BK322.out 7 (.bool t303) rfl
     have hfz74_0 := blk_frozen BK322.out 0
     have hfz74_1 := blk_frozen BK322.out 1
     have hfz74_2 := blk_frozen BK322.out 2
     have hfz74_3 := blk_frozen BK322.out 3
     have hfz74_4 := blk_frozen BK322.out 4
     have hfz74_5 := blk_frozen BK322.out 5
     have hfz74_6 := blk_frozen BK322.out 6
     have hfz74_7 := blk_frozen BK322.out 7
     go_wp2_with (first | ((with_reducible refine gate_load (t := 52) rfl ?_); refine load_row3 (t := 52) (g := gb290) ?hg BK290.out ?ho ?hb Tryd.underlying52 rfl ?hs ?_; (case hg => rfl); (case ho => refine ⟨_, rfl, ?_⟩; first | (with_reducible rfl) | (go_simp; done)); (case hb => (with_reducible repeat (first | refine blk_drewN ?_ _ | refine blk_drew ?_ | refine blk_alloc ?_ _)); with_reducible exact BK290.out); (case hs => kernel_rfl)) | ((with_reducible refine gate_load (t := 52) rfl ?_); refine load_row3 (t := 52) (g := gb322) ?hg BK322.out ?ho ?hb Tryd.underlying52 rfl ?hs ?_; (case hg => rfl); (case ho => refine ⟨_, rfl, ?_⟩; first | (with_reducible rfl) | (go_simp; done)); (case hb => (with_reducible repeat (first | refine blk_drewN ?_ _ | refine blk_drew ?_ | refine blk_alloc ?_ _)); with_reducible exact BK322.out); (case hs => kernel_rfl)))
     go_roundg k5
     case measure => have := HJ2.out; have := HJ28.out; have := HJ35.out; have := HJ51.out; have := HK5.out; omega
     case rel => exact ⟨(decide (t321 ≥ 0)), (5), (by first | rfl | (simp; done) | (simp [*]; done)), (by first | rfl | (simp; done) | (simp [*]; done)), H', ⟨by have := HJ2.out; have := HJ28.out; have := HJ35.out; have := HJ51.out; have := HK5.out; omega⟩, ⟨by (with_reducible repeat (first | refine blk_drewN ?_ _ | refine blk_drew ?_ | refine blk_alloc ?_ _)); exact BK290.out⟩, ⟨by (with_reducible repeat (first | refine blk_drewN ?_ _ | refine blk_drew ?_ | refine blk_alloc ?_ _)); exact BK322.out⟩, ⟨by repeat (first | (with_reducible first | exact HB.out | apply below_alloc | apply pw_below_drewN | apply below_drew1 | refine below_set ?_ GE290.out | refine below_set ?_ GE322.out) | exact HB.out)⟩⟩
   by_cases ej5 : x12_5 = 5
   ·subst ej5
    have H1 : (newsreelref17_parse.l0 k5 (decide (x323005_51 ≥ 0)) 6 t315 (wrap64 (t317 + 1)) x9_28 t319 t321 x323005_51 t302 t303) = some (r1, r2, r3, r4, r5, r6, r7, r8, r9) := by rw [if_neg (by decide), if_neg (by decide), if_neg (by decide), if_neg (by decide), if_neg (by decide), if_pos rfl] at H; rw [show wrap64 ((5 : Int) + 1) = 6 by simp [wrap64]] at H; exact H
    clear H
    have H := H1
    clear H1
    as_aux_lemma =>
     have H' := mkA H
     clear H
     have hnb73 := NB322_290.out
     have hnc73 := NB290_322.out
     have hcz74_0 := bc BK322.out 0 (.int .i64 t315) rfl
     have hcz74_1 := bc BK322.out 1 (.int .i64 (wrap64 (t317 + 1))) rfl
     have hcz74_2 := bc BK322.out 2 (.int .i64 x9_28) rfl
     have hcz74_3 := bc BK322.out 3 (.int .i64 t319) rfl
     have hcz74_4 := bc BK322.out 4 (.int .i64 t321) rfl
     have hcz74_5 := bc BK322.out 5 (.int .i64 x323005_51) rfl
     have hcz74_6 := bc BK322.out 6 (.int .i64 t302) rfl
     have hcz74_7 := bc BK322.out 7 (.bool t303) rfl
     have hfz74_0 := blk_frozen BK322.out 0
     have hfz74_1 := blk_frozen BK322.out 1
     have hfz74_2 := blk_frozen BK322.out 2
     have hfz74_3 := blk_frozen BK322.out 3
     have hfz74_4 := blk_frozen BK322.out 4
     have hfz74_5 := blk_frozen BK322.out 5
     have hfz74_6 := blk_frozen BK322.out 6
     have hfz74_7 := blk_frozen BK322.out 7
     go_wp2_with (first | ((with_reducible refine gate_load (t := 52) rfl ?_); refine load_row3 (t := 52) (g := gb290) ?hg BK290.out ?ho ?hb Tryd.underlying52 rfl ?hs ?_; (case hg => rfl); (case ho => refine ⟨_, rfl, ?_⟩; first | (with_reducible rfl) | (go_simp; done)); (case hb => (with_reducible repeat (first | refine blk_drewN ?_ _ | refine blk_drew ?_ | refine blk_alloc ?_ _)); with_reducible exact BK290.out); (case hs => kernel_rfl)) | ((with_reducible refine gate_load (t := 52) rfl ?_); refine load_row3 (t := 52) (g := gb322) ?hg BK322.out ?ho ?hb Tryd.underlying52 rfl ?hs ?_; (case hg => rfl); (case ho => refine ⟨_, rfl, ?_⟩; first | (with_reducible rfl) | (go_simp; done)); (case hb => (with_reducible repeat (first | refine blk_drewN ?_ _ | refine blk_drew ?_ | refine blk_alloc ?_ _)); with_reducible exact BK322.out); (case hs => kernel_rfl)))
     go_roundg k5
     case measure => have := HJ2.out; have := HJ28.out; have := HJ35.out; have := HJ51.out; have := HK5.out; omega
     case rel => exact ⟨(decide (x323005_51 ≥ 0)), (6), (by first | rfl | (simp; done) | (simp [*]; done)), (by first | rfl | (simp; done) | (simp [*]; done)), H', ⟨by have := HJ2.out; have := HJ28.out; have := HJ35.out; have := HJ51.out; have := HK5.out; omega⟩, ⟨by (with_reducible repeat (first | refine blk_drewN ?_ _ | refine blk_drew ?_ | refine blk_alloc ?_ _)); exact BK290.out⟩, ⟨by (with_reducible repeat (first | refine blk_drewN ?_ _ | refine blk_drew ?_ | refine blk_alloc ?_ _)); exact BK322.out⟩, ⟨by repeat (first | (with_reducible first | exact HB.out | apply below_alloc | apply pw_below_drewN | apply below_drew1 | refine below_set ?_ GE290.out | refine below_set ?_ GE322.out) | exact HB.out)⟩⟩
   rw [if_neg ej0, if_neg ej1, if_neg ej2, if_neg ej3, if_neg ej4, if_neg ej5] at H
   exact absurd H (by simp)
  ·replace c72 := Bool.eq_false_iff.mpr c72
   subst c72
   have H1 : (newsreelref17_parse.l0 k5 false (wrap64 (x12_5 + 1)) t315 (wrap64 (t317 + 1)) x9_28 t319 t321 x323005_51 t302 t303) = some (r1, r2, r3, r4, r5, r6, r7, r8, r9) := by rw [if_neg (show ¬ (false = true) by decide)] at H; exact H
   clear H
   have H := H1
   clear H1
   as_aux_lemma =>
    have H' := mkA H
    clear H
    go_wp2_with (first | ((with_reducible refine gate_load (t := 52) rfl ?_); refine load_row3 (t := 52) (g := gb290) ?hg BK290.out ?ho ?hb Tryd.underlying52 rfl ?hs ?_; (case hg => rfl); (case ho => refine ⟨_, rfl, ?_⟩; first | (with_reducible rfl) | (go_simp; done)); (case hb => (with_reducible repeat (first | refine blk_drewN ?_ _ | refine blk_drew ?_ | refine blk_alloc ?_ _)); with_reducible exact BK290.out); (case hs => kernel_rfl)) | ((with_reducible refine gate_load (t := 52) rfl ?_); refine load_row3 (t := 52) (g := gb322) ?hg BK322.out ?ho ?hb Tryd.underlying52 rfl ?hs ?_; (case hg => rfl); (case ho => refine ⟨_, rfl, ?_⟩; first | (with_reducible rfl) | (go_simp; done)); (case hb => (with_reducible repeat (first | refine blk_drewN ?_ _ | refine blk_drew ?_ | refine blk_alloc ?_ _)); with_reducible exact BK322.out); (case hs => kernel_rfl)))
    go_roundg k5
    case measure => have := HJ2.out; have := HJ28.out; have := HJ35.out; have := HJ51.out; have := HK5.out; omega
    case rel => exact ⟨(false), (wrap64 (x12_5 + 1)), (by first | rfl | (simp; done) | (simp [*]; done)), (by first | rfl | (simp; done) | (simp [*]; done)), H', ⟨by have := HJ2.out; have := HJ28.out; have := HJ35.out; have := HJ51.out; have := HK5.out; omega⟩, ⟨by (with_reducible repeat (first | refine blk_drewN ?_ _ | refine blk_drew ?_ | refine blk_alloc ?_ _)); exact BK290.out⟩, ⟨by (with_reducible repeat (first | refine blk_drewN ?_ _ | refine blk_drew ?_ | refine blk_alloc ?_ _)); exact BK322.out⟩, ⟨by repeat (first | (with_reducible first | exact HB.out | apply below_alloc | apply pw_below_drewN | apply below_drew1 | refine below_set ?_ GE290.out | refine below_set ?_ GE322.out) | exact HB.out)⟩⟩
 rw [if_neg c71] at H
 have c71b0 : decide (x12_5 < 6) = false := decide_eq_false c71
 clear c71
 by_cases c75 : x8_5 = true
 rotate_left
 ·replace c75 := Bool.eq_false_iff.mpr c75
  subst c75
  have H1 : (some (t315, (wrap64 (t317 + 1)), x9_28, t319, t321, x323005_51, t302, t303, false)) = some (r1, r2, r3, r4, r5, r6, r7, r8, r9) := by rw [if_neg (show ¬ (false = true) by decide)] at H; exact H
  clear H
  have H := H1
  clear H1
  focus
   simp only [Option.some.injEq, Prod.mk.injEq] at H
   obtain ⟨rfl, rfl, rfl, rfl, rfl, rfl, rfl, rfl, rfl⟩ := H
   try go_wp2_with (first | ((with_reducible refine gate_load (t := 52) rfl ?_); refine load_row3 (t := 52) (g := gb290) ?hg BK290.out ?ho ?hb Tryd.underlying52 rfl ?hs ?_; (case hg => rfl); (case ho => refine ⟨_, rfl, ?_⟩; first | (with_reducible rfl) | (go_simp; done)); (case hb => (with_reducible repeat (first | refine blk_drewN ?_ _ | refine blk_drew ?_ | refine blk_alloc ?_ _)); with_reducible exact BK290.out); (case hs => kernel_rfl)) | ((with_reducible refine gate_load (t := 52) rfl ?_); refine load_row3 (t := 52) (g := gb322) ?hg BK322.out ?ho ?hb Tryd.underlying52 rfl ?hs ?_; (case hg => rfl); (case ho => refine ⟨_, rfl, ?_⟩; first | (with_reducible rfl) | (go_simp; done)); (case hb => (with_reducible repeat (first | refine blk_drewN ?_ _ | refine blk_drew ?_ | refine blk_alloc ?_ _)); with_reducible exact BK322.out); (case hs => kernel_rfl)))
   have n0_ := mkA (blk_drew BK290.out)
   have n1_ := mkA (blk_drew BK322.out)
   try (have HBd_ := mkA (below_drew1 (pw_below_drewN HB.out nd)))
   have n2_ := mkA (below_drew1 HB.out)
   clear BK290 BK322 HB
   have BK290 := n0_
   have BK322 := n1_
   have HB := n2_
   clear n0_ n1_ n2_
   refine start_ (n := 10) (S := fun w' => w'.cell? ⟨gb322, 0, none⟩ = some (.int .i64 t315) ∧ w'.cell? ⟨gb322, 1, none⟩ = some (.int .i64 (wrap64 (t317 + 1))) ∧ w'.cell? ⟨gb322, 2, none⟩ = some (.int .i64 x9_28) ∧ w'.cell? ⟨gb322, 3, none⟩ = some (.int .i64 t319) ∧ w'.cell? ⟨gb322, 4, none⟩ = some (.int .i64 t321) ∧ w'.cell? ⟨gb322, 5, none⟩ = some (.int .i64 x323005_51) ∧ w'.cell? ⟨gb322, 6, none⟩ = some (.int .i64 t302) ∧ w'.cell? ⟨gb322, 7, none⟩ = some (.bool t303)) (ds := []) #[false, false, false, false, false, false, false, false, false, false] (by kernel_rfl) rfl rfl ⟨(blk_cell BK322.out 0).trans rfl, (blk_cell BK322.out 1).trans rfl, (blk_cell BK322.out 2).trans rfl, (blk_cell BK322.out 3).trans rfl, (blk_cell BK322.out 4).trans rfl, (blk_cell BK322.out 5).trans rfl, (blk_cell BK322.out 6).trans rfl, (blk_cell BK322.out 7).trans rfl⟩ (fun hHeld => ?_); refine with_tabW newsreelref17_parse.tab23 newsreelref17_parse.bits23 (fun HT_ HW_ => ?_)
   generalize wr.drew = w85 at BK290 BK322 HB hHeld ⊢
   refine pu 1 123 HT_ ?_
   refine pu 2 124 HT_ ?_
   refine pn 3 125 HT_ ?_
   refine pn 4 126 HT_ ?_
   refine pn 5 127 HT_ ?_
   refine pn 6 128 HT_ ?_
   refine pu 7 129 HT_ ?_
   refine tk 0 122 HT_ HW_ hHeld ?_
   refine one_ (i := 8) (N := none) #[true, true, true, true, true, true, true, true, true, false] rfl rfl (one_of HT_.out (by kernel_rfl)) (by decide) (fun K hK => ?_)
   have hs86 : w85.cell? ⟨gb290, 0, none⟩ = some (.int .i64 x291000_2) := (blk_cell BK290.out 0).trans rfl
   have hfs86 := blk_frozen BK290.out 0
   have hns86_1 := NB322_290.out
   have hms86_1 := NB290_322.out
   have hs87 : w85.cell? ⟨gb290, 1, none⟩ = some (.int .i64 x291001_2) := (blk_cell BK290.out 1).trans rfl
   have hfs87 := blk_frozen BK290.out 1
   have hns87_1 := NB322_290.out
   have hms87_1 := NB290_322.out
   have hs88 : w85.cell? ⟨gb290, 2, none⟩ = some (.int .i64 x291002_2) := (blk_cell BK290.out 2).trans rfl
   have hfs88 := blk_frozen BK290.out 2
   have hns88_1 := NB322_290.out
   have hms88_1 := NB290_322.out
   have hs89 : w85.cell? ⟨gb290, 3, none⟩ = some (.int .i64 x291003_2) := (blk_cell BK290.out 3).trans rfl
   have hfs89 := blk_frozen BK290.out 3
   have hns89_1 := NB322_290.out
   have hms89_1 := NB290_322.out
   have hs90 : w85.cell? ⟨gb290, 4, none⟩ = some (.int .i64 x291004_2) := (blk_cell BK290.out 4).trans rfl
   have hfs90 := blk_frozen BK290.out 4
   have hns90_1 := NB322_290.out
   have hms90_1 := NB290_322.out
   have hs91 : w85.cell? ⟨gb290, 5, none⟩ = some (.int .i64 x291005_2) := (blk_cell BK290.out 5).trans rfl
   have hfs91 := blk_frozen BK290.out 5
   have hns91_1 := NB322_290.out
   have hms91_1 := NB290_322.out
   have hs92 : w85.cell? ⟨gb290, 6, none⟩ = some (.int .i64 x291006_2) := (blk_cell BK290.out 6).trans rfl
   have hfs92 := blk_frozen BK290.out 6
   have hns92_1 := NB322_290.out
   have hms92_1 := NB290_322.out
   have hs93 : w85.cell? ⟨gb290, 7, none⟩ = some (.bool x291007_2) := (blk_cell BK290.out 7).trans rfl
   have hfs93 := blk_frozen BK290.out 7
   have hns93_1 := NB322_290.out
   have hms93_1 := NB290_322.out
   refine skip_ (w1 := ?_) (by rfl) rfl ?_ ?_
   rotate_left
   ·go_simp
    rfl
   refine hK.out _ _ ⟨((by have hx := NB322_290.out; exact fS hx (fS hx (fS hx (fS hx (fS hx (fS hx (fS hx (fS hx (hHeld.1)))))))))), ((by have hx := NB322_290.out; exact fS hx (fS hx (fS hx (fS hx (fS hx (fS hx (fS hx (fS hx (hHeld.2.1)))))))))), ((by have hx := NB322_290.out; exact fS hx (fS hx (fS hx (fS hx (fS hx (fS hx (fS hx (fS hx (hHeld.2.2.1)))))))))), ((by have hx := NB322_290.out; exact fS hx (fS hx (fS hx (fS hx (fS hx (fS hx (fS hx (fS hx (hHeld.2.2.2.1)))))))))), ((by have hx := NB322_290.out; exact fS hx (fS hx (fS hx (fS hx (fS hx (fS hx (fS hx (fS hx (hHeld.2.2.2.2.1)))))))))), ((by have hx := NB322_290.out; exact fS hx (fS hx (fS hx (fS hx (fS hx (fS hx (fS hx (fS hx (hHeld.2.2.2.2.2.1)))))))))), ((by have hx := NB322_290.out; exact fS hx (fS hx (fS hx (fS hx (fS hx (fS hx (fS hx (fS hx (hHeld.2.2.2.2.2.2.1)))))))))), ((by have hx := NB322_290.out; exact fS hx (fS hx (fS hx (fS hx (fS hx (fS hx (fS hx (fS hx (hHeld.2.2.2.2.2.2.2))))))))))⟩ (fun hHeld => ?_)
   clear hK K
   refine pu 9 3 HT_ ?_
   refine done_ (done_of HT_.out (by kernel_rfl)) ?_
   try go_wp2_with (first | ((with_reducible refine gate_load (t := 52) rfl ?_); refine load_row3 (t := 52) (g := gb290) ?hg BK290.out ?ho ?hb Tryd.underlying52 rfl ?hs ?_; (case hg => rfl); (case ho => refine ⟨_, rfl, ?_⟩; first | (with_reducible rfl) | (go_simp; done)); (case hb => (with_reducible repeat (first | refine blk_drewN ?_ _ | refine blk_drew ?_ | refine blk_alloc ?_ _)); with_reducible exact BK290.out); (case hs => kernel_rfl)) | ((with_reducible refine gate_load (t := 52) rfl ?_); refine load_row3 (t := 52) (g := gb322) ?hg BK322.out ?ho ?hb Tryd.underlying52 rfl ?hs ?_; (case hg => rfl); (case ho => refine ⟨_, rfl, ?_⟩; first | (with_reducible rfl) | (go_simp; done)); (case hb => (with_reducible repeat (first | refine blk_drewN ?_ _ | refine blk_drew ?_ | refine blk_alloc ?_ _)); with_reducible exact BK322.out); (case hs => kernel_rfl)))
   refine bodyPost_ret (results_ct rfl _ _ gb290 52 #[.int .i64 t315, .int .i64 (wrap64 (t317 + 1)), .int .i64 x9_28, .int .i64 t319, .int .i64 t321, .int .i64 x323005_51, .int .i64 t302, .bool t303] (0, 0) _ rfl (by (with_reducible repeat (first | refine blk_drewN ?_ _ | refine blk_drew ?_ | refine blk_alloc ?_ _)); refine blk_put (cs := #[.int .i64 t315, .int .i64 (wrap64 (t317 + 1)), .int .i64 x9_28, .int .i64 t319, .int .i64 t321, .int .i64 x323005_51, .int .i64 t302, .bool x291007_2]) ?_ 7 _ rfl; (with_reducible repeat (first | refine blk_drewN ?_ _ | refine blk_drew ?_ | refine blk_alloc ?_ _)); refine blk_put (cs := #[.int .i64 t315, .int .i64 (wrap64 (t317 + 1)), .int .i64 x9_28, .int .i64 t319, .int .i64 t321, .int .i64 x323005_51, .int .i64 x291006_2, .bool x291007_2]) ?_ 6 _ rfl; (with_reducible repeat (first | refine blk_drewN ?_ _ | refine blk_drew ?_ | refine blk_alloc ?_ _)); refine blk_put (cs := #[.int .i64 t315, .int .i64 (wrap64 (t317 + 1)), .int .i64 x9_28, .int .i64 t319, .int .i64 t321, .int .i64 x291005_2, .int .i64 x291006_2, .bool x291007_2]) ?_ 5 _ rfl; (with_reducible repeat (first | refine blk_drewN ?_ _ | refine blk_drew ?_ | refine blk_alloc ?_ _)); refine blk_put (cs := #[.int .i64 t315, .int .i64 (wrap64 (t317 + 1)), .int .i64 x9_28, .int .i64 t319, .int .i64 x291004_2, .int .i64 x291005_2, .int .i64 x291006_2, .bool x291007_2]) ?_ 4 _ rfl; (with_reducible repeat (first | refine blk_drewN ?_ _ | refine blk_drew ?_ | refine blk_alloc ?_ _)); refine blk_put (cs := #[.int .i64 t315, .int .i64 (wrap64 (t317 + 1)), .int .i64 x9_28, .int .i64 x291003_2, .int .i64 x291004_2, .int .i64 x291005_2, .int .i64 x291006_2, .bool x291007_2]) ?_ 3 _ rfl; (with_reducible repeat (first | refine blk_drewN ?_ _ | refine blk_drew ?_ | refine blk_alloc ?_ _)); refine blk_put (cs := #[.int .i64 t315, .int .i64 (wrap64 (t317 + 1)), .int .i64 x291002_2, .int .i64 x291003_2, .int .i64 x291004_2, .int .i64 x291005_2, .int .i64 x291006_2, .bool x291007_2]) ?_ 2 _ rfl; (with_reducible repeat (first | refine blk_drewN ?_ _ | refine blk_drew ?_ | refine blk_alloc ?_ _)); refine blk_put (cs := #[.int .i64 t315, .int .i64 x291001_2, .int .i64 x291002_2, .int .i64 x291003_2, .int .i64 x291004_2, .int .i64 x291005_2, .int .i64 x291006_2, .bool x291007_2]) ?_ 1 _ rfl; (with_reducible repeat (first | refine blk_drewN ?_ _ | refine blk_drew ?_ | refine blk_alloc ?_ _)); refine blk_put (cs := #[.int .i64 x291000_2, .int .i64 x291001_2, .int .i64 x291002_2, .int .i64 x291003_2, .int .i64 x291004_2, .int .i64 x291005_2, .int .i64 x291006_2, .bool x291007_2]) ?_ 0 _ rfl; (with_reducible repeat (first | refine blk_drewN ?_ _ | refine blk_drew ?_ | refine blk_alloc ?_ _)); exact BK290.out) Tryd.underlying52 rfl (by kernel_rfl)) rfl ?_
   exact ⟨by first | rfl | (simp [errW_none, errW_some] <;> rfl) | (simp [*, errW_none, errW_some] <;> rfl), by repeat (first | (with_reducible first | exact HB.out | apply below_alloc | apply pw_below_drewN | apply below_drew1 | refine below_set ?_ GE290.out | refine below_set ?_ GE322.out) | exact HB.out)⟩
 subst c75
 have H1 : (some (t315, (wrap64 (t317 + 1)), x9_28, t319, t321, x323005_51, t302, t303, decide ((wrap64 (t317 + 1)) > 0))) = some (r1, r2, r3, r4, r5, r6, r7, r8, r9) := by rw [if_pos rfl] at H; exact H
 clear H
 have H := H1
 clear H1
 focus
  simp only [Option.some.injEq, Prod.mk.injEq] at H
  obtain ⟨rfl, rfl, rfl, rfl, rfl, rfl, rfl, rfl, rfl⟩ := H
  try go_wp2_with (first | ((with_reducible refine gate_load (t := 52) rfl ?_); refine load_row3 (t := 52) (g := gb290) ?hg BK290.out ?ho ?hb Tryd.underlying52 rfl ?hs ?_; (case hg => rfl); (case ho => refine ⟨_, rfl, ?_⟩; first | (with_reducible rfl) | (go_simp; done)); (case hb => (with_reducible repeat (first | refine blk_drewN ?_ _ | refine blk_drew ?_ | refine blk_alloc ?_ _)); with_reducible exact BK290.out); (case hs => kernel_rfl)) | ((with_reducible refine gate_load (t := 52) rfl ?_); refine load_row3 (t := 52) (g := gb322) ?hg BK322.out ?ho ?hb Tryd.underlying52 rfl ?hs ?_; (case hg => rfl); (case ho => refine ⟨_, rfl, ?_⟩; first | (with_reducible rfl) | (go_simp; done)); (case hb => (with_reducible repeat (first | refine blk_drewN ?_ _ | refine blk_drew ?_ | refine blk_alloc ?_ _)); with_reducible exact BK322.out); (case hs => kernel_rfl)))
  have n0_ := mkA (blk_drew BK290.out)
  have n1_ := mkA (blk_drew BK322.out)
  try (have HBd_ := mkA (below_drew1 (pw_below_drewN HB.out nd)))
  have n2_ := mkA (below_drew1 HB.out)
  clear BK290 BK322 HB
  have BK290 := n0_
  have BK322 := n1_
  have HB := n2_
  clear n0_ n1_ n2_
  refine start_ (n := 10) (S := fun w' => w'.cell? ⟨gb322, 0, none⟩ = some (.int .i64 t315) ∧ w'.cell? ⟨gb322, 1, none⟩ = some (.int .i64 (wrap64 (t317 + 1))) ∧ w'.cell? ⟨gb322, 2, none⟩ = some (.int .i64 x9_28) ∧ w'.cell? ⟨gb322, 3, none⟩ = some (.int .i64 t319) ∧ w'.cell? ⟨gb322, 4, none⟩ = some (.int .i64 t321) ∧ w'.cell? ⟨gb322, 5, none⟩ = some (.int .i64 x323005_51) ∧ w'.cell? ⟨gb322, 6, none⟩ = some (.int .i64 t302) ∧ w'.cell? ⟨gb322, 7, none⟩ = some (.bool t303)) (ds := []) #[false, false, false, false, false, false, false, false, false, false] (by kernel_rfl) rfl rfl ⟨(blk_cell BK322.out 0).trans rfl, (blk_cell BK322.out 1).trans rfl, (blk_cell BK322.out 2).trans rfl, (blk_cell BK322.out 3).trans rfl, (blk_cell BK322.out 4).trans rfl, (blk_cell BK322.out 5).trans rfl, (blk_cell BK322.out 6).trans rfl, (blk_cell BK322.out 7).trans rfl⟩ (fun hHeld => ?_); refine with_tabW newsreelref17_parse.tab23 newsreelref17_parse.bits23 (fun HT_ HW_ => ?_)
  generalize wr.drew = w76 at BK290 BK322 HB hHeld ⊢
  refine pu 1 123 HT_ ?_
  refine pu 2 124 HT_ ?_
  refine pu 3 125 HT_ ?_
  refine pu 4 126 HT_ ?_
  refine tk 0 122 HT_ HW_ hHeld ?_
  refine tk 5 127 HT_ HW_ hHeld ?_
  refine pu 6 128 HT_ ?_
  refine pu 7 129 HT_ ?_
  refine one_ (i := 8) (N := none) #[true, true, true, true, true, true, true, true, true, false] rfl rfl (one_of HT_.out (by kernel_rfl)) (by decide) (fun K hK => ?_)
  have hs77 : w76.cell? ⟨gb290, 0, none⟩ = some (.int .i64 x291000_2) := (blk_cell BK290.out 0).trans rfl
  have hfs77 := blk_frozen BK290.out 0
  have hns77_1 := NB322_290.out
  have hms77_1 := NB290_322.out
  have hs78 : w76.cell? ⟨gb290, 1, none⟩ = some (.int .i64 x291001_2) := (blk_cell BK290.out 1).trans rfl
  have hfs78 := blk_frozen BK290.out 1
  have hns78_1 := NB322_290.out
  have hms78_1 := NB290_322.out
  have hs79 : w76.cell? ⟨gb290, 2, none⟩ = some (.int .i64 x291002_2) := (blk_cell BK290.out 2).trans rfl
  have hfs79 := blk_frozen BK290.out 2
  have hns79_1 := NB322_290.out
  have hms79_1 := NB290_322.out
  have hs80 : w76.cell? ⟨gb290, 3, none⟩ = some (.int .i64 x291003_2) := (blk_cell BK290.out 3).trans rfl
  have hfs80 := blk_frozen BK290.out 3
  have hns80_1 := NB322_290.out
  have hms80_1 := NB290_322.out
  have hs81 : w76.cell? ⟨gb290, 4, none⟩ = some (.int .i64 x291004_2) := (blk_cell BK290.out 4).trans rfl
  have hfs81 := blk_frozen BK290.out 4
  have hns81_1 := NB322_290.out
  have hms81_1 := NB290_322.out
  have hs82 : w76.cell? ⟨gb290, 5, none⟩ = some (.int .i64 x291005_2) := (blk_cell BK290.out 5).trans rfl
  have hfs82 := blk_frozen BK290.out 5
  have hns82_1 := NB322_290.out
  have hms82_1 := NB290_322.out
  have hs83 : w76.cell? ⟨gb290, 6, none⟩ = some (.int .i64 x291006_2) := (blk_cell BK290.out 6).trans rfl
  have hfs83 := blk_frozen BK290.out 6
  have hns83_1 := NB322_290.out
  have hms83_1 := NB290_322.out
  have hs84 : w76.cell? ⟨gb290, 7, none⟩ = some (.bool x291007_2) := (blk_cell BK290.out 7).trans rfl
  have hfs84 := blk_frozen BK290.out 7
  have hns84_1 := NB322_290.out
  have hms84_1 := NB290_322.out
  refine skip_ (w1 := ?_) (by rfl) rfl ?_ ?_
  rotate_left
  ·go_simp
   rfl
  refine hK.out _ _ ⟨((by have hx := NB322_290.out; exact fS hx (fS hx (fS hx (fS hx (fS hx (fS hx (fS hx (fS hx (hHeld.1)))))))))), ((by have hx := NB322_290.out; exact fS hx (fS hx (fS hx (fS hx (fS hx (fS hx (fS hx (fS hx (hHeld.2.1)))))))))), ((by have hx := NB322_290.out; exact fS hx (fS hx (fS hx (fS hx (fS hx (fS hx (fS hx (fS hx (hHeld.2.2.1)))))))))), ((by have hx := NB322_290.out; exact fS hx (fS hx (fS hx (fS hx (fS hx (fS hx (fS hx (fS hx (hHeld.2.2.2.1)))))))))), ((by have hx := NB322_290.out; exact fS hx (fS hx (fS hx (fS hx (fS hx (fS hx (fS hx (fS hx (hHeld.2.2.2.2.1)))))))))), ((by have hx := NB322_290.out; exact fS hx (fS hx (fS hx (fS hx (fS hx (fS hx (fS hx (fS hx (hHeld.2.2.2.2.2.1)))))))))), ((by have hx := NB322_290.out; exact fS hx (fS hx (fS hx (fS hx (fS hx (fS hx (fS hx (fS hx (hHeld.2.2.2.2.2.2.1)))))))))), ((by have hx := NB322_290.out; exact fS hx (fS hx (fS hx (fS hx (fS hx (fS hx (fS hx (fS hx (hHeld.2.2.2.2.2.2.2))))))))))⟩ (fun hHeld => ?_)
  clear hK K
  refine pu 9 3 HT_ ?_
  refine done_ (done_of HT_.out (by kernel_rfl)) ?_
  try go_wp2_with (first | ((with_reducible refine gate_load (t := 52) rfl ?_); refine load_row3 (t := 52) (g := gb290) ?hg BK290.out ?ho ?hb Tryd.underlying52 rfl ?hs ?_; (case hg => rfl); (case ho => refine ⟨_, rfl, ?_⟩; first | (with_reducible rfl) | (go_simp; done)); (case hb => (with_reducible repeat (first | refine blk_drewN ?_ _ | refine blk_drew ?_ | refine blk_alloc ?_ _)); with_reducible exact BK290.out); (case hs => kernel_rfl)) | ((with_reducible refine gate_load (t := 52) rfl ?_); refine load_row3 (t := 52) (g := gb322) ?hg BK322.out ?ho ?hb Tryd.underlying52 rfl ?hs ?_; (case hg => rfl); (case ho => refine ⟨_, rfl, ?_⟩; first | (with_reducible rfl) | (go_simp; done)); (case hb => (with_reducible repeat (first | refine blk_drewN ?_ _ | refine blk_drew ?_ | refine blk_alloc ?_ _)); with_reducible exact BK322.out); (case hs => kernel_rfl)))
  refine bodyPost_ret (results_ct rfl _ _ gb290 52 #[.int .i64 t315, .int .i64 (wrap64 (t317 + 1)), .int .i64 x9_28, .int .i64 t319, .int .i64 t321, .int .i64 x323005_51, .int .i64 t302, .bool t303] (0, 0) _ rfl (by (with_reducible repeat (first | refine blk_drewN ?_ _ | refine blk_drew ?_ | refine blk_alloc ?_ _)); refine blk_put (cs := #[.int .i64 t315, .int .i64 (wrap64 (t317 + 1)), .int .i64 x9_28, .int .i64 t319, .int .i64 t321, .int .i64 x323005_51, .int .i64 t302, .bool x291007_2]) ?_ 7 _ rfl; (with_reducible repeat (first | refine blk_drewN ?_ _ | refine blk_drew ?_ | refine blk_alloc ?_ _)); refine blk_put (cs := #[.int .i64 t315, .int .i64 (wrap64 (t317 + 1)), .int .i64 x9_28, .int .i64 t319, .int .i64 t321, .int .i64 x323005_51, .int .i64 x291006_2, .bool x291007_2]) ?_ 6 _ rfl; (with_reducible repeat (first | refine blk_drewN ?_ _ | refine blk_drew ?_ | refine blk_alloc ?_ _)); refine blk_put (cs := #[.int .i64 t315, .int .i64 (wrap64 (t317 + 1)), .int .i64 x9_28, .int .i64 t319, .int .i64 t321, .int .i64 x291005_2, .int .i64 x291006_2, .bool x291007_2]) ?_ 5 _ rfl; (with_reducible repeat (first | refine blk_drewN ?_ _ | refine blk_drew ?_ | refine blk_alloc ?_ _)); refine blk_put (cs := #[.int .i64 t315, .int .i64 (wrap64 (t317 + 1)), .int .i64 x9_28, .int .i64 t319, .int .i64 x291004_2, .int .i64 x291005_2, .int .i64 x291006_2, .bool x291007_2]) ?_ 4 _ rfl; (with_reducible repeat (first | refine blk_drewN ?_ _ | refine blk_drew ?_ | refine blk_alloc ?_ _)); refine blk_put (cs := #[.int .i64 t315, .int .i64 (wrap64 (t317 + 1)), .int .i64 x9_28, .int .i64 x291003_2, .int .i64 x291004_2, .int .i64 x291005_2, .int .i64 x291006_2, .bool x291007_2]) ?_ 3 _ rfl; (with_reducible repeat (first | refine blk_drewN ?_ _ | refine blk_drew ?_ | refine blk_alloc ?_ _)); refine blk_put (cs := #[.int .i64 t315, .int .i64 (wrap64 (t317 + 1)), .int .i64 x291002_2, .int .i64 x291003_2, .int .i64 x291004_2, .int .i64 x291005_2, .int .i64 x291006_2, .bool x291007_2]) ?_ 2 _ rfl; (with_reducible repeat (first | refine blk_drewN ?_ _ | refine blk_drew ?_ | refine blk_alloc ?_ _)); refine blk_put (cs := #[.int .i64 t315, .int .i64 x291001_2, .int .i64 x291002_2, .int .i64 x291003_2, .int .i64 x291004_2, .int .i64 x291005_2, .int .i64 x291006_2, .bool x291007_2]) ?_ 1 _ rfl; (with_reducible repeat (first | refine blk_drewN ?_ _ | refine blk_drew ?_ | refine blk_alloc ?_ _)); refine blk_put (cs := #[.int .i64 x291000_2, .int .i64 x291001_2, .int .i64 x291002_2, .int .i64 x291003_2, .int .i64 x291004_2, .int .i64 x291005_2, .int .i64 x291006_2, .bool x291007_2]) ?_ 0 _ rfl; (with_reducible repeat (first | refine blk_drewN ?_ _ | refine blk_drew ?_ | refine blk_alloc ?_ _)); exact BK290.out) Tryd.underlying52 rfl (by kernel_rfl)) rfl ?_
  exact ⟨by first | rfl | (simp [errW_none, errW_some] <;> rfl) | (simp [*, errW_none, errW_some] <;> rfl), by repeat (first | (with_reducible first | exact HB.out | apply below_alloc | apply pw_below_drewN | apply below_drew1 | refine below_set ?_ GE290.out | refine below_set ?_ GE322.out) | exact HB.out)⟩

end Go.Proofs.YtghdkpcpgpfgcaaDoor.XStb
