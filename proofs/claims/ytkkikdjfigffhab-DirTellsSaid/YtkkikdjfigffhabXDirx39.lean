-- By a program of this work (xprint.py) over the translation; Lean checks it.
import Derived.Test.YtkkikdjfigffhabXDirx0
import Derived.Test.YtkkikdjfigffhabXDirx3
import Derived.Test.YtkkikdjfigffhabXDirx4
import Derived.Test.YtkkikdjfigffhabXDirx19
import Derived.Test.YtkkikdjfigffhabXDirx21
import Derived.Test.YtkkikdjfigffhabXDirx23
import Derived.Test.YtkkikdjfigffhabXDirx24
import Derived.Test.YtkkikdjfigffhabXDirx25
import Derived.Test.YtkkikdjfigffhabXDirx26
import Derived.Test.YtkkikdjfigffhabXDirx28
import Derived.Test.YtkkikdjfigffhabXDirx33
import Derived.Test.YtkkikdjfigffhabXDirx34
import Derived.Test.YtkkikdjfigffhabXDirx35
import Derived.Test.YtkkikdjfigffhabXDirx36
import Derived.Test.YtkkikdjfigffhabXDirx37
import Derived.Test.YtkkikdjfigffhabXDirx38
namespace Go.Proofs.Ytkkikdjfigffhab.XDir
open Go.RowKit Go.Proofs.YtkkikdjfigffhabW.PrintWords Go.Proofs.YtkkikdjfigffhabW.PrintLast Go.Proofs.YtkkikdjfigffhabW.PrintMore
attribute [local go_sem] max2_int min2_int max_two min_two max_three min_three max_four min_four   -- for this text's walks alone
set_option linter.unusedVariables false
set_option linter.unusedSimpArgs false

/-! ### newsreellaw10_DirTells: function 9 -/
mutual
def newsreellaw10_DirTells.j0 : Nat → Int → Bool → List (S77) → List (S77) → List (S69) → Int → ByteArray → ByteArray → Int → Option (Bool)
  | 0, _, _, _, _, _, _, _, _, _ => none
  | k + 1, x2, x28, x398000, x398001, x398002, x399000, x399001, x399002, x399003 => if x28 = true then ((newsreellaw10_awake.f k).bind fun t400 => (some t400)) else ((dir_Do.f k x398000 x398001 x398002 x399000 x399001 x399002 x399003).bind fun bt401 => ((newsreelref10_Do.f k x398000 x398001 x398002 x399000 x399001 x399002 x399003).bind fun bt412 => ((dir_Find.f x398000 x398001 x398002 x399001).bind fun bt423 => ((newsreelref10_At.f k x398000 x399001).bind fun t425 => (if (bt423.2 != (decide (t425 ≥ 0))) = true then (newsreellaw10_DirTells.j1 k x2 bt401.2.2.2 bt412.2.2.2 true x398000 x398001 x398002 x399000 x399001 x399002 x399003 bt401.1 bt401.2.1 bt401.2.2.1 bt412.1 bt412.2.1 bt412.2.2.1) else (if bt423.2 = true then (if 0 ≤ t425 then (if t425 < (x398000.length : Int) then (if bt423.1 = ((rd_T77 x398000 t425).f1) then (newsreellaw10_DirTells.j1 k x2 bt401.2.2.2 bt412.2.2.2 false x398000 x398001 x398002 x399000 x399001 x399002 x399003 bt401.1 bt401.2.1 bt401.2.2.1 bt412.1 bt412.2.1 bt412.2.2.1) else (newsreellaw10_DirTells.j1 k x2 bt401.2.2.2 bt412.2.2.2 true x398000 x398001 x398002 x399000 x399001 x399002 x399003 bt401.1 bt401.2.1 bt401.2.2.1 bt412.1 bt412.2.1 bt412.2.2.1)) else (none)) else (none)) else (newsreellaw10_DirTells.j1 k x2 bt401.2.2.2 bt412.2.2.2 (bt423.1 != 0) x398000 x398001 x398002 x399000 x399001 x399002 x399003 bt401.1 bt401.2.1 bt401.2.2.1 bt412.1 bt412.2.1 bt412.2.2.1)))))))
def newsreellaw10_DirTells.j1 : Nat → Int → Int → Int → Bool → List (S77) → List (S77) → List (S69) → Int → ByteArray → ByteArray → Int → List (S77) → List (S77) → List (S69) → List (S77) → List (S77) → List (S69) → Option (Bool)
  | 0, _, _, _, _, _, _, _, _, _, _, _, _, _, _, _, _, _ => none
  | k + 1, x2, x8, x10, x78, x398000, x398001, x398002, x399000, x399001, x399002, x399003, x412000, x412001, x412002, x423000, x423001, x423002 => if x78 = true then (some false) else ((dir_Name.f k x399001).bind fun t427 => ((newsreelref10_Name.f k x399001).bind fun t428 => (if (t427 == t428) = true then ((dir_Right.f k x398000 x398001 x398002).bind fun t429 => ((newsreelref10_Right.f k x398000 x398001 x398002).bind fun t430 => (if (t429 == t430) = true then ((newsreelref10_Same.f k x412000 x412001 x412002 x423000 x423001 x423002).bind fun t431 => (if t431 = true then (if x8 = x10 then ((dir_Sync.f k x398000 x398001 x398002).bind fun bt432 => ((newsreelref10_Sync.f k x398000 x398001 x398002).bind fun bt441 => ((newsreelref10_Same.f k bt432.1 bt432.2.1 bt432.2.2 bt441.1 bt441.2.1 bt441.2.2).bind fun t450 => (if t450 = true then ((dir_Crash.f k x398000 x398001 x398002 x2).bind fun bt451 => ((newsreelref10_Crash.f k x398000 x398001 x398002 x2).bind fun bt460 => ((newsreelref10_Same.f k bt451.1 bt451.2.1 bt451.2.2 bt460.1 bt460.2.1 bt460.2.2).bind fun t469 => (if t469 = true then ((newsreellaw10_awake.f k).bind fun t470 => (some t470)) else (some false))))) else (some false))))) else (some false)) else (some false))) else (some false)))) else (some false))))
end
def newsreellaw10_DirTells.f (k : Nat) (l0_0 : List (S77)) (l0_1 : List (S77)) (l0_2 : List (S69)) (a1_0 : Int) (a1_1 : ByteArray) (a1_2 : ByteArray) (a1_3 : Int) (a2 : Int) : Option (Bool) := (newsreelref10_Few.f k l0_0 l0_1 l0_2).bind fun t399 => (if t399 = true then (if (a1_1.size : Int) > 100 then (newsreellaw10_DirTells.j0 k a2 true l0_0 l0_1 l0_2 a1_0 a1_1 a1_2 a1_3) else (newsreellaw10_DirTells.j0 k a2 (decide ((a1_2.size : Int) > 100)) l0_0 l0_1 l0_2 a1_0 a1_1 a1_2 a1_3)) else (newsreellaw10_DirTells.j0 k a2 true l0_0 l0_1 l0_2 a1_0 a1_1 a1_2 a1_3))
theorem newsreellaw10_DirTells.mono_l : ∀ k, (∀ y0 y1 y2 y3 y4 y5 y6 y7 y8, LeO (newsreellaw10_DirTells.j0 k y0 y1 y2 y3 y4 y5 y6 y7 y8) (newsreellaw10_DirTells.j0 (k + 1) y0 y1 y2 y3 y4 y5 y6 y7 y8)) ∧ (∀ y0 y1 y2 y3 y4 y5 y6 y7 y8 y9 y10 y11 y12 y13 y14 y15 y16, LeO (newsreellaw10_DirTells.j1 k y0 y1 y2 y3 y4 y5 y6 y7 y8 y9 y10 y11 y12 y13 y14 y15 y16) (newsreellaw10_DirTells.j1 (k + 1) y0 y1 y2 y3 y4 y5 y6 y7 y8 y9 y10 y11 y12 y13 y14 y15 y16))
  | 0 => ⟨fun _ _ _ _ _ _ _ _ _ r h => by simp [newsreellaw10_DirTells.j0] at h, fun _ _ _ _ _ _ _ _ _ _ _ _ _ _ _ _ _ r h => by simp [newsreellaw10_DirTells.j1] at h⟩
  | k + 1 => by
    obtain ⟨ih0, ih1⟩ := newsreellaw10_DirTells.mono_l k
    refine ⟨?_, ?_⟩
    · intro y0 y1 y2 y3 y4 y5 y6 y7 y8
      unfold newsreellaw10_DirTells.j0
      repeat' first
      | (with_reducible exact ih0 _ _ _ _ _ _ _ _ _)
      | (with_reducible exact ih1 _ _ _ _ _ _ _ _ _ _ _ _ _ _ _ _ _)
      | (with_reducible exact dir_Crash.mono _ _ _ _ _)
      | (with_reducible exact dir_Do.mono _ _ _ _ _ _ _ _)
      | (with_reducible exact dir_Name.mono _ _)
      | (with_reducible exact dir_Right.mono _ _ _ _)
      | (with_reducible exact dir_Sync.mono _ _ _ _)
      | (with_reducible exact newsreellaw10_awake.mono _)
      | (with_reducible exact newsreelref10_At.mono _ _ _)
      | (with_reducible exact newsreelref10_Crash.mono _ _ _ _ _)
      | (with_reducible exact newsreelref10_Do.mono _ _ _ _ _ _ _ _)
      | (with_reducible exact newsreelref10_Few.mono _ _ _ _)
      | (with_reducible exact newsreelref10_Name.mono _ _)
      | (with_reducible exact newsreelref10_Right.mono _ _ _ _)
      | (with_reducible exact newsreelref10_Same.mono _ _ _ _ _ _ _)
      | (with_reducible exact newsreelref10_Sync.mono _ _ _ _)
      | (with_reducible exact LeO.refl _)
      | (with_reducible exact LeO.none _)
      | (with_reducible refine LeO.ite ?_ ?_)
      | (with_reducible refine LeO.bind ?_ (fun _ => ?_))
      | exact ih0 _ _ _ _ _ _ _ _ _
      | exact ih1 _ _ _ _ _ _ _ _ _ _ _ _ _ _ _ _ _
      | exact dir_Crash.mono _ _ _ _ _
      | exact dir_Do.mono _ _ _ _ _ _ _ _
      | exact dir_Name.mono _ _
      | exact dir_Right.mono _ _ _ _
      | exact dir_Sync.mono _ _ _ _
      | exact newsreellaw10_awake.mono _
      | exact newsreelref10_At.mono _ _ _
      | exact newsreelref10_Crash.mono _ _ _ _ _
      | exact newsreelref10_Do.mono _ _ _ _ _ _ _ _
      | exact newsreelref10_Few.mono _ _ _ _
      | exact newsreelref10_Name.mono _ _
      | exact newsreelref10_Right.mono _ _ _ _
      | exact newsreelref10_Same.mono _ _ _ _ _ _ _
      | exact newsreelref10_Sync.mono _ _ _ _
      | exact LeO.none _
      | refine LeO.ite ?_ ?_
      | refine LeO.bind ?_ (fun _ => ?_)
    · intro y0 y1 y2 y3 y4 y5 y6 y7 y8 y9 y10 y11 y12 y13 y14 y15 y16
      unfold newsreellaw10_DirTells.j1
      repeat' first
      | (with_reducible exact ih0 _ _ _ _ _ _ _ _ _)
      | (with_reducible exact ih1 _ _ _ _ _ _ _ _ _ _ _ _ _ _ _ _ _)
      | (with_reducible exact dir_Crash.mono _ _ _ _ _)
      | (with_reducible exact dir_Do.mono _ _ _ _ _ _ _ _)
      | (with_reducible exact dir_Name.mono _ _)
      | (with_reducible exact dir_Right.mono _ _ _ _)
      | (with_reducible exact dir_Sync.mono _ _ _ _)
      | (with_reducible exact newsreellaw10_awake.mono _)
      | (with_reducible exact newsreelref10_At.mono _ _ _)
      | (with_reducible exact newsreelref10_Crash.mono _ _ _ _ _)
      | (with_reducible exact newsreelref10_Do.mono _ _ _ _ _ _ _ _)
      | (with_reducible exact newsreelref10_Few.mono _ _ _ _)
      | (with_reducible exact newsreelref10_Name.mono _ _)
      | (with_reducible exact newsreelref10_Right.mono _ _ _ _)
      | (with_reducible exact newsreelref10_Same.mono _ _ _ _ _ _ _)
      | (with_reducible exact newsreelref10_Sync.mono _ _ _ _)
      | (with_reducible exact LeO.refl _)
      | (with_reducible exact LeO.none _)
      | (with_reducible refine LeO.ite ?_ ?_)
      | (with_reducible refine LeO.bind ?_ (fun _ => ?_))
      | exact ih0 _ _ _ _ _ _ _ _ _
      | exact ih1 _ _ _ _ _ _ _ _ _ _ _ _ _ _ _ _ _
      | exact dir_Crash.mono _ _ _ _ _
      | exact dir_Do.mono _ _ _ _ _ _ _ _
      | exact dir_Name.mono _ _
      | exact dir_Right.mono _ _ _ _
      | exact dir_Sync.mono _ _ _ _
      | exact newsreellaw10_awake.mono _
      | exact newsreelref10_At.mono _ _ _
      | exact newsreelref10_Crash.mono _ _ _ _ _
      | exact newsreelref10_Do.mono _ _ _ _ _ _ _ _
      | exact newsreelref10_Few.mono _ _ _ _
      | exact newsreelref10_Name.mono _ _
      | exact newsreelref10_Right.mono _ _ _ _
      | exact newsreelref10_Same.mono _ _ _ _ _ _ _
      | exact newsreelref10_Sync.mono _ _ _ _
      | exact LeO.none _
      | refine LeO.ite ?_ ?_
      | refine LeO.bind ?_ (fun _ => ?_)
theorem newsreellaw10_DirTells.mono : ∀ a0 a1 a2 a3 a4 a5 a6 a7 k, LeO (newsreellaw10_DirTells.f k a0 a1 a2 a3 a4 a5 a6 a7) (newsreellaw10_DirTells.f (k + 1) a0 a1 a2 a3 a4 a5 a6 a7) := by
  intro a0 a1 a2 a3 a4 a5 a6 a7 k
  obtain ⟨ih0, ih1⟩ := newsreellaw10_DirTells.mono_l k
  unfold newsreellaw10_DirTells.f
  repeat' first
      | (with_reducible exact ih0 _ _ _ _ _ _ _ _ _)
      | (with_reducible exact ih1 _ _ _ _ _ _ _ _ _ _ _ _ _ _ _ _ _)
      | (with_reducible exact dir_Crash.mono _ _ _ _ _)
      | (with_reducible exact dir_Do.mono _ _ _ _ _ _ _ _)
      | (with_reducible exact dir_Name.mono _ _)
      | (with_reducible exact dir_Right.mono _ _ _ _)
      | (with_reducible exact dir_Sync.mono _ _ _ _)
      | (with_reducible exact newsreellaw10_awake.mono _)
      | (with_reducible exact newsreelref10_At.mono _ _ _)
      | (with_reducible exact newsreelref10_Crash.mono _ _ _ _ _)
      | (with_reducible exact newsreelref10_Do.mono _ _ _ _ _ _ _ _)
      | (with_reducible exact newsreelref10_Few.mono _ _ _ _)
      | (with_reducible exact newsreelref10_Name.mono _ _)
      | (with_reducible exact newsreelref10_Right.mono _ _ _ _)
      | (with_reducible exact newsreelref10_Same.mono _ _ _ _ _ _ _)
      | (with_reducible exact newsreelref10_Sync.mono _ _ _ _)
      | (with_reducible exact LeO.refl _)
      | (with_reducible exact LeO.none _)
      | (with_reducible refine LeO.ite ?_ ?_)
      | (with_reducible refine LeO.bind ?_ (fun _ => ?_))
      | exact ih0 _ _ _ _ _ _ _ _ _
      | exact ih1 _ _ _ _ _ _ _ _ _ _ _ _ _ _ _ _ _
      | exact dir_Crash.mono _ _ _ _ _
      | exact dir_Do.mono _ _ _ _ _ _ _ _
      | exact dir_Name.mono _ _
      | exact dir_Right.mono _ _ _ _
      | exact dir_Sync.mono _ _ _ _
      | exact newsreellaw10_awake.mono _
      | exact newsreelref10_At.mono _ _ _
      | exact newsreelref10_Crash.mono _ _ _ _ _
      | exact newsreelref10_Do.mono _ _ _ _ _ _ _ _
      | exact newsreelref10_Few.mono _ _ _ _
      | exact newsreelref10_Name.mono _ _
      | exact newsreelref10_Right.mono _ _ _ _
      | exact newsreelref10_Same.mono _ _ _ _ _ _ _
      | exact newsreelref10_Sync.mono _ _ _ _
      | exact LeO.none _
      | refine LeO.ite ?_ ?_
      | refine LeO.bind ?_ (fun _ => ?_)
def newsreellaw10_DirTells.T9 : Bool × List (List Nat × List Nat) := (true, [([], []), ([0], [0]), ([1], [1]), ([], []), ([3], [3]), ([4, 2], [4]), ([2, 5], [2, 5]), ([6, 5], [6]), ([7], [7]), ([8, 7, 7], [7, 8]), ([7], [7]), ([10, 9, 7], [7, 10]), ([9, 11, 7], [7, 9, 11]), ([7, 12], [7, 12]), ([13, 11], [13]), ([14], [14]), ([14], [14]), ([15, 16, 14, 14], [14, 15, 16]), ([14, 17], [14, 17]), ([18, 17], [18]), ([19], [19]), ([19], [19]), ([20, 21, 19], [19, 20, 21]), ([19, 22], [19, 22]), ([23, 19], [23]), ([24], [24]), ([25, 24, 24], [24, 25]), ([24], [24]), ([27, 26, 24], [24, 27]), ([26, 28, 28, 24], [24, 26, 28]), ([24, 29], [24, 29]), ([30, 29], [30]), ([31], [31]), ([31], [31]), ([32, 33, 31, 31], [31, 32, 33]), ([31], [31]), ([31], [31]), ([35, 36, 34, 31], [31, 35, 36]), ([34, 37, 37, 31], [31, 34, 37]), ([31, 38], [31, 38]), ([39, 38], [39]), ([40, 40], [40]), ([40, 41], [40, 41]), ([42, 41, 0, 1, 2, 3, 4, 5, 6, 7, 8, 9, 10, 11, 12, 13, 14, 15, 16, 17, 18, 19, 20, 21, 22, 23, 24, 25, 26, 27, 28, 29, 30, 31, 32, 33, 34, 35, 36, 37, 38, 39, 40, 41, 42], [42])])
def newsreellaw10_DirTells.B9 : List Nat := [0, 1, 3, 0, 8, 31, 63, 127, 255, 511, 255, 2047, 4095, 8191, 16383, 32767, 32767, 131071, 262143, 524287, 1048575, 1048575, 4194303, 8388607, 16777215, 33554431, 67108863, 33554431, 268435455, 536870911, 1073741823, 2147483647, 4294967295, 4294967295, 17179869183, 4294967295, 4294967295, 137438953471, 274877906943, 549755813887, 1099511627775, 2199023255551, 4398046511103, 8796093022207]
theorem newsreellaw10_DirTells.tab9 : rtab .any (opsOf Try.f9 9) = newsreellaw10_DirTells.T9 := by kernel_rfl
theorem newsreellaw10_DirTells.bits9 : waitsOk newsreellaw10_DirTells.T9.2 newsreellaw10_DirTells.B9 = true := by kernel_rfl
set_option maxHeartbeats 8000000 in
set_option maxRecDepth 100000 in
theorem newsreellaw10_DirTells.calls (k : Nat) (A0_0 : Option Addr) (c0_0 : Nat) (l0_0 : List (S77)) (A0_1 : Option Addr) (c0_1 : Nat) (l0_1 : List (S77)) (A0_2 : Option Addr) (c0_2 : Nat) (l0_2 : List (S69)) (a1_0 : Int) (a1_1 : ByteArray) (a1_2 : ByteArray) (a1_3 : Int) (a2 : Int) (r : Bool) (w : World) (hr0_0 : Kd.C k77 w A0_0 l0_0.length l0_0) (hc0_0 : l0_0.length ≤ c0_0) (hr0_1 : Kd.C k77 w A0_1 l0_1.length l0_1) (hc0_1 : l0_1.length ≤ c0_1) (hr0_2 : Kd.C k69 w A0_2 l0_2.length l0_2) (hc0_2 : l0_2.length ≤ c0_2) (ht_ : r = true) (h : newsreellaw10_DirTells.f k l0_0 l0_1 l0_2 a1_0 a1_1 a1_2 a1_3 a2 = some r) :
    Calls Try.prog 9 #[.agg #[.slice A0_0 l0_0.length c0_0, .slice A0_1 l0_1.length c0_1, .slice A0_2 l0_2.length c0_2], .agg #[.int .i64 a1_0, .string a1_1, .string a1_2, .int .i64 a1_3], .int .i64 a2] w fun e w' => e = .returned (.bool r) ∧ Below w.heap.size w w' := by
  have hu67 := Try.underlying67
  have hu69 := Try.underlying69
  have HR0_0 := Aside0.mk hr0_0
  have HC0_0 := Aside0.mk hc0_0
  clear hr0_0 hc0_0
  have HR0_1 := Aside0.mk hr0_1
  have HC0_1 := Aside0.mk hc0_1
  clear hr0_1 hc0_1
  have HR0_2 := Aside0.mk hr0_2
  have HC0_2 := Aside0.mk hc0_2
  clear hr0_2 hc0_2
  have HB := Aside0.mk (Below.refl w.heap.size w)
  have H : ((newsreelref10_Few.f k l0_0 l0_1 l0_2).bind fun t399 => (if t399 = true then (if (a1_1.size : Int) > 100 then (newsreellaw10_DirTells.j0 k a2 true l0_0 l0_1 l0_2 a1_0 a1_1 a1_2 a1_3) else (newsreellaw10_DirTells.j0 k a2 (decide ((a1_2.size : Int) > 100)) l0_0 l0_1 l0_2 a1_0 a1_1 a1_2 a1_3)) else (newsreellaw10_DirTells.j0 k a2 true l0_0 l0_1 l0_2 a1_0 a1_1 a1_2 a1_3))) = some r := h
  clear h
  have HC4 := Aside0.mk H
  clear H
  go_enter Try.func9, Try.ntmps9
  go_upto_region 1 with (first | ((with_reducible refine gate_load (t := 69) rfl ?_); refine load_row3 (t := 69) (g := gb398) ?hg BK398.out ?ho ?hb Try.underlying69 rfl ?hs ?_; (case hg => rfl); (case ho => refine ⟨_, rfl, ?_⟩; first | (with_reducible rfl) | (go_simp; done)); (case hb => (with_reducible repeat (first | refine blk_drewN ?_ _ | refine blk_drew ?_ | refine blk_alloc ?_ _)); with_reducible exact BK398.out); (case hs => kernel_rfl)) | ((with_reducible refine gate_dst (N := 3) rfl ?_); (try (refine gate_guard (by rfl) ?_; dsimp only)); refine box_event ?hg (N := 3) ?hd (cs := #[.slice A0_0 l0_0.length c0_0, .slice A0_1 l0_1.length c0_1, .slice A0_2 l0_2.length c0_2]) (t := 67) ?hr ?_; (case hd => rfl); (case hg => rfl); (case hr => first | (go_simp; done) | (go_simp; rfl)); intro gb397 hg w5 hbox hb; have n0_ := Aside0.mk (below_step (below_y HB.out) hb); have n1_ := Aside0.mk (hbox); have n2_ := Aside0.mk ((by rw [hg]; exact (below_size (below_y HB.out)) : w.heap.size ≤ gb397)); have n3_ := Aside0.mk ((by rw [hg]; exact (below_size (below_y HB.out)) : w.heap.size ≤ gb397)); clear HB; have HB := n0_; have BK397 := n1_; have GW397 := n2_; have GE397 := n3_; clear n0_ n1_ n2_ n3_; clear hb hbox hg) | ((with_reducible refine gate_dst (N := 4) rfl ?_); (try (refine gate_guard (by rfl) ?_; dsimp only)); refine box_event ?hg (N := 4) ?hd (cs := #[.int .i64 a1_0, .string a1_1, .string a1_2, .int .i64 a1_3]) (t := 69) ?hr ?_; (case hd => rfl); (case hg => rfl); (case hr => first | (go_simp; done) | (go_simp; rfl)); intro gb398 hg w6 hbox hb; have n0_ := Aside0.mk (blk_below (blk_y BK397.out) hb); have n1_ := Aside0.mk (below_step (below_y HB.out) hb); have n2_ := Aside0.mk (hbox); have n3_ := Aside0.mk ((by rw [hg]; exact (below_size (below_y HB.out)) : w.heap.size ≤ gb398)); have n4_ := Aside0.mk ((by rw [hg]; exact (below_size (below_y HB.out)) : w.heap.size ≤ gb398)); have n5_ := Aside0.mk ((by rw [hg]; exact Nat.ne_of_lt (blk_lt (blk_y BK397.out)) : gb397 ≠ gb398)); have n6_ := Aside0.mk ((by rw [hg]; exact Nat.ne_of_gt (blk_lt (blk_y BK397.out)) : gb398 ≠ gb397)); clear BK397; clear HB; have BK397 := n0_; have HB := n1_; have BK398 := n2_; have GW398 := n3_; have GE398 := n4_; have NB397_398 := n5_; have NB398_397 := n6_; clear n0_ n1_ n2_ n3_ n4_ n5_ n6_; clear hb hbox hg))
  (try simp only [Act.put, List.setIfInBounds_toArray, List.set_cons_zero, List.set_cons_succ])
  go_cut [28] (fun v28 wc => ∃ (kq : Nat) (x28_3 : Bool), v28 = .bool x28_3 ∧ Aside0 (newsreellaw10_DirTells.j0 kq a2 x28_3 l0_0 l0_1 l0_2 a1_0 a1_1 a1_2 a1_3 = some r) ∧ Aside0 (kq ≤ k) ∧ Aside0 (wc.heap[gb397]? = some (.cells #[(.slice A0_0 l0_0.length c0_0), (.slice A0_1 l0_1.length c0_1), (.slice A0_2 l0_2.length c0_2)] 67 (0, 0))) ∧ Aside0 (wc.heap[gb398]? = some (.cells #[.int .i64 a1_0, .string a1_1, .string a1_2, .int .i64 a1_3] 69 (0, 0))) ∧ Aside0 (Below w.heap.size w wc))
  case first =>
    have H := HC4.out
    clear HC4
    replace H := Option.bind_eq_some_iff.mp H
    obtain ⟨t399, A70, H⟩ := H
    replace H : (if t399 = true then (if (a1_1.size : Int) > 100 then (newsreellaw10_DirTells.j0 k a2 true l0_0 l0_1 l0_2 a1_0 a1_1 a1_2 a1_3) else (newsreellaw10_DirTells.j0 k a2 (decide ((a1_2.size : Int) > 100)) l0_0 l0_1 l0_2 a1_0 a1_1 a1_2 a1_3)) else (newsreellaw10_DirTells.j0 k a2 true l0_0 l0_1 l0_2 a1_0 a1_1 a1_2 a1_3)) = some r := H
    have A7 := Aside0.mk A70
    clear A70
    by_cases c8 : t399 = true
    · subst c8
      have H1 : (if (a1_1.size : Int) > 100 then (newsreellaw10_DirTells.j0 k a2 true l0_0 l0_1 l0_2 a1_0 a1_1 a1_2 a1_3) else (newsreellaw10_DirTells.j0 k a2 (decide ((a1_2.size : Int) > 100)) l0_0 l0_1 l0_2 a1_0 a1_1 a1_2 a1_3)) = some r := by rw [if_pos rfl] at H; exact H
      clear H
      have H := H1
      clear H1
      by_cases c9 : (a1_1.size : Int) > 100
      · rw [if_pos c9] at H
        have c9b0 : decide (100 < (a1_1.size : Int)) = true := decide_eq_true c9
        have c9b1 : decide (100 < a1_1.size) = true := decide_eq_true (by omega)
        clear c9
        (first | rw [c9b0] | (simp only [i64_w, i32_w]; rw [c9b0]) | skip)
        as_aux_lemma =>
          have H' := Aside0.mk H
          clear H
          have hnb10 := NB397_398.out
          have hnc10 := NB398_397.out
          have hcz11_0 := bc BK397.out 0 (.slice A0_0 l0_0.length c0_0) rfl
          have hcz11_1 := bc BK397.out 1 (.slice A0_1 l0_1.length c0_1) rfl
          have hcz11_2 := bc BK397.out 2 (.slice A0_2 l0_2.length c0_2) rfl
          have hfz11_0 := blk_frozen BK397.out 0
          have hfz11_1 := blk_frozen BK397.out 1
          have hfz11_2 := blk_frozen BK397.out 2
          go_wp2_with (first | ((with_reducible refine gate_load (t := 69) rfl ?_); refine load_row3 (t := 69) (g := gb398) ?hg BK398.out ?ho ?hb Try.underlying69 rfl ?hs ?_; (case hg => rfl); (case ho => refine ⟨_, rfl, ?_⟩; first | (with_reducible rfl) | (go_simp; done)); (case hb => (with_reducible repeat (first | refine blk_drewN ?_ _ | refine blk_drew ?_ | refine blk_alloc ?_ _)); with_reducible exact BK398.out); (case hs => kernel_rfl)) | ((with_reducible refine gate_callee (f := 40) rfl ?_); refine goesL_ (some 15) rfl rfl Try.func40 (by kernel_rfl) rfl #[.agg #[.slice A0_0 l0_0.length c0_0, .slice A0_1 l0_1.length c0_1, .slice A0_2 l0_2.length c0_2]] rfl (by (try simp only [List.map_toArray, List.map_cons, List.map_nil]); first | done | rfl | (simp only [List.length_drop, List.length_take]; rfl)) ?_; (with_reducible refine (newsreelref10_Few.calls k _ _ l0_0 _ _ l0_1 _ _ l0_2 true _ ?side1 ?side2 ?side3 ?side4 ?side5 ?side6 A7.out).mono ?_); (case side1 => repeat (first | exact (Kd.C_below HR0_0.out HB.out) | exact HR0_0.out | (with_reducible refine Kd.C_alloc ?_ _) | (with_reducible refine Kd.C_drewN ?_ _) | (with_reducible refine Kd.C_drew ?_))); (case side2 => exact HC0_0.out); (case side3 => repeat (first | exact (Kd.C_below HR0_1.out HB.out) | exact HR0_1.out | (with_reducible refine Kd.C_alloc ?_ _) | (with_reducible refine Kd.C_drewN ?_ _) | (with_reducible refine Kd.C_drew ?_))); (case side4 => exact HC0_1.out); (case side5 => repeat (first | exact (Kd.C_below HR0_2.out HB.out) | exact HR0_2.out | (with_reducible refine Kd.C_alloc ?_ _) | (with_reducible refine Kd.C_drewN ?_ _) | (with_reducible refine Kd.C_drew ?_))); (case side6 => exact HC0_2.out); rintro e w12 ⟨rfl, hb⟩; refine ⟨_, rfl, ?_⟩; have n0_ := Aside0.mk (blk_below (blk_y BK397.out) hb); have n1_ := Aside0.mk (blk_below (blk_y BK398.out) hb); have n2_ := Aside0.mk (below_step (below_y HB.out) hb); clear BK397; clear BK398; clear HB; have BK397 := n0_; have BK398 := n1_; have HB := n2_; clear n0_ n1_ n2_; (try clear hb); (try clear hb2); (try clear hk); (try clear hi); have hcz13_0 := bc BK398.out 0 (.int .i64 a1_0) rfl; have hcz13_1 := bc BK398.out 1 (.string a1_1) rfl; have hcz13_2 := bc BK398.out 2 (.string a1_2) rfl; have hcz13_3 := bc BK398.out 3 (.int .i64 a1_3) rfl; have hfz13_0 := blk_frozen BK398.out 0; have hfz13_1 := blk_frozen BK398.out 1; have hfz13_2 := blk_frozen BK398.out 2; have hfz13_3 := blk_frozen BK398.out 3))
          go_meet
          case rel => exact ⟨_, (true), (by first | rfl | (simp; done) | (simp [*]; done)), H', ⟨by first | omega | exact Nat.le_refl _⟩, ⟨by (with_reducible repeat (first | refine blk_drewN ?_ _ | refine blk_drew ?_ | refine blk_alloc ?_ _)); exact BK397.out⟩, ⟨by (with_reducible repeat (first | refine blk_drewN ?_ _ | refine blk_drew ?_ | refine blk_alloc ?_ _)); exact BK398.out⟩, ⟨by repeat (first | (with_reducible first | exact HB.out | apply below_alloc | apply pw_below_drewN | apply below_drew1 | refine below_set ?_ GE397.out | refine below_set ?_ GE398.out) | exact HB.out)⟩⟩
      · rw [if_neg c9] at H
        have c9b0 : decide (100 < (a1_1.size : Int)) = false := decide_eq_false c9
        have c9b1 : decide (100 < a1_1.size) = false := decide_eq_false (by omega)
        clear c9
        (first | rw [c9b0] | (simp only [i64_w, i32_w]; rw [c9b0]) | skip)
        as_aux_lemma =>
          have H' := Aside0.mk H
          clear H
          have hnb14 := NB397_398.out
          have hnc14 := NB398_397.out
          have hcz15_0 := bc BK397.out 0 (.slice A0_0 l0_0.length c0_0) rfl
          have hcz15_1 := bc BK397.out 1 (.slice A0_1 l0_1.length c0_1) rfl
          have hcz15_2 := bc BK397.out 2 (.slice A0_2 l0_2.length c0_2) rfl
          have hfz15_0 := blk_frozen BK397.out 0
          have hfz15_1 := blk_frozen BK397.out 1
          have hfz15_2 := blk_frozen BK397.out 2
          go_wp2_with (first | ((with_reducible refine gate_load (t := 69) rfl ?_); refine load_row3 (t := 69) (g := gb398) ?hg BK398.out ?ho ?hb Try.underlying69 rfl ?hs ?_; (case hg => rfl); (case ho => refine ⟨_, rfl, ?_⟩; first | (with_reducible rfl) | (go_simp; done)); (case hb => (with_reducible repeat (first | refine blk_drewN ?_ _ | refine blk_drew ?_ | refine blk_alloc ?_ _)); with_reducible exact BK398.out); (case hs => kernel_rfl)) | ((with_reducible refine gate_callee (f := 40) rfl ?_); refine goesL_ (some 15) rfl rfl Try.func40 (by kernel_rfl) rfl #[.agg #[.slice A0_0 l0_0.length c0_0, .slice A0_1 l0_1.length c0_1, .slice A0_2 l0_2.length c0_2]] rfl (by (try simp only [List.map_toArray, List.map_cons, List.map_nil]); first | done | rfl | (simp only [List.length_drop, List.length_take]; rfl)) ?_; (with_reducible refine (newsreelref10_Few.calls k _ _ l0_0 _ _ l0_1 _ _ l0_2 true _ ?side1 ?side2 ?side3 ?side4 ?side5 ?side6 A7.out).mono ?_); (case side1 => repeat (first | exact (Kd.C_below HR0_0.out HB.out) | exact HR0_0.out | (with_reducible refine Kd.C_alloc ?_ _) | (with_reducible refine Kd.C_drewN ?_ _) | (with_reducible refine Kd.C_drew ?_))); (case side2 => exact HC0_0.out); (case side3 => repeat (first | exact (Kd.C_below HR0_1.out HB.out) | exact HR0_1.out | (with_reducible refine Kd.C_alloc ?_ _) | (with_reducible refine Kd.C_drewN ?_ _) | (with_reducible refine Kd.C_drew ?_))); (case side4 => exact HC0_1.out); (case side5 => repeat (first | exact (Kd.C_below HR0_2.out HB.out) | exact HR0_2.out | (with_reducible refine Kd.C_alloc ?_ _) | (with_reducible refine Kd.C_drewN ?_ _) | (with_reducible refine Kd.C_drew ?_))); (case side6 => exact HC0_2.out); rintro e w16 ⟨rfl, hb⟩; refine ⟨_, rfl, ?_⟩; have n0_ := Aside0.mk (blk_below (blk_y BK397.out) hb); have n1_ := Aside0.mk (blk_below (blk_y BK398.out) hb); have n2_ := Aside0.mk (below_step (below_y HB.out) hb); clear BK397; clear BK398; clear HB; have BK397 := n0_; have BK398 := n1_; have HB := n2_; clear n0_ n1_ n2_; (try clear hb); (try clear hb2); (try clear hk); (try clear hi); have hcz17_0 := bc BK398.out 0 (.int .i64 a1_0) rfl; have hcz17_1 := bc BK398.out 1 (.string a1_1) rfl; have hcz17_2 := bc BK398.out 2 (.string a1_2) rfl; have hcz17_3 := bc BK398.out 3 (.int .i64 a1_3) rfl; have hfz17_0 := blk_frozen BK398.out 0; have hfz17_1 := blk_frozen BK398.out 1; have hfz17_2 := blk_frozen BK398.out 2; have hfz17_3 := blk_frozen BK398.out 3))
          go_meet
          case rel => exact ⟨_, (decide ((a1_2.size : Int) > 100)), (by first | rfl | (simp; done) | (simp [*]; done)), H', ⟨by first | omega | exact Nat.le_refl _⟩, ⟨by (with_reducible repeat (first | refine blk_drewN ?_ _ | refine blk_drew ?_ | refine blk_alloc ?_ _)); exact BK397.out⟩, ⟨by (with_reducible repeat (first | refine blk_drewN ?_ _ | refine blk_drew ?_ | refine blk_alloc ?_ _)); exact BK398.out⟩, ⟨by repeat (first | (with_reducible first | exact HB.out | apply below_alloc | apply pw_below_drewN | apply below_drew1 | refine below_set ?_ GE397.out | refine below_set ?_ GE398.out) | exact HB.out)⟩⟩
    · replace c8 := Bool.eq_false_iff.mpr c8
      subst c8
      have H1 : (newsreellaw10_DirTells.j0 k a2 true l0_0 l0_1 l0_2 a1_0 a1_1 a1_2 a1_3) = some r := by rw [if_neg (show ¬ (false = true) by decide)] at H; exact H
      clear H
      have H := H1
      clear H1
      as_aux_lemma =>
        have H' := Aside0.mk H
        clear H
        have hnb18 := NB397_398.out
        have hnc18 := NB398_397.out
        have hcz19_0 := bc BK397.out 0 (.slice A0_0 l0_0.length c0_0) rfl
        have hcz19_1 := bc BK397.out 1 (.slice A0_1 l0_1.length c0_1) rfl
        have hcz19_2 := bc BK397.out 2 (.slice A0_2 l0_2.length c0_2) rfl
        have hfz19_0 := blk_frozen BK397.out 0
        have hfz19_1 := blk_frozen BK397.out 1
        have hfz19_2 := blk_frozen BK397.out 2
        go_wp2_with (first | ((with_reducible refine gate_load (t := 69) rfl ?_); refine load_row3 (t := 69) (g := gb398) ?hg BK398.out ?ho ?hb Try.underlying69 rfl ?hs ?_; (case hg => rfl); (case ho => refine ⟨_, rfl, ?_⟩; first | (with_reducible rfl) | (go_simp; done)); (case hb => (with_reducible repeat (first | refine blk_drewN ?_ _ | refine blk_drew ?_ | refine blk_alloc ?_ _)); with_reducible exact BK398.out); (case hs => kernel_rfl)) | ((with_reducible refine gate_callee (f := 40) rfl ?_); refine goesL_ (some 15) rfl rfl Try.func40 (by kernel_rfl) rfl #[.agg #[.slice A0_0 l0_0.length c0_0, .slice A0_1 l0_1.length c0_1, .slice A0_2 l0_2.length c0_2]] rfl (by (try simp only [List.map_toArray, List.map_cons, List.map_nil]); first | done | rfl | (simp only [List.length_drop, List.length_take]; rfl)) ?_; (with_reducible refine (newsreelref10_Few.calls k _ _ l0_0 _ _ l0_1 _ _ l0_2 false _ ?side1 ?side2 ?side3 ?side4 ?side5 ?side6 A7.out).mono ?_); (case side1 => repeat (first | exact (Kd.C_below HR0_0.out HB.out) | exact HR0_0.out | (with_reducible refine Kd.C_alloc ?_ _) | (with_reducible refine Kd.C_drewN ?_ _) | (with_reducible refine Kd.C_drew ?_))); (case side2 => exact HC0_0.out); (case side3 => repeat (first | exact (Kd.C_below HR0_1.out HB.out) | exact HR0_1.out | (with_reducible refine Kd.C_alloc ?_ _) | (with_reducible refine Kd.C_drewN ?_ _) | (with_reducible refine Kd.C_drew ?_))); (case side4 => exact HC0_1.out); (case side5 => repeat (first | exact (Kd.C_below HR0_2.out HB.out) | exact HR0_2.out | (with_reducible refine Kd.C_alloc ?_ _) | (with_reducible refine Kd.C_drewN ?_ _) | (with_reducible refine Kd.C_drew ?_))); (case side6 => exact HC0_2.out); rintro e w20 ⟨rfl, hb⟩; refine ⟨_, rfl, ?_⟩; have n0_ := Aside0.mk (blk_below (blk_y BK397.out) hb); have n1_ := Aside0.mk (blk_below (blk_y BK398.out) hb); have n2_ := Aside0.mk (below_step (below_y HB.out) hb); clear BK397; clear BK398; clear HB; have BK397 := n0_; have BK398 := n1_; have HB := n2_; clear n0_ n1_ n2_; (try clear hb); (try clear hb2); (try clear hk); (try clear hi)))
        go_meet
        case rel => exact ⟨_, (true), (by first | rfl | (simp; done) | (simp [*]; done)), H', ⟨by first | omega | exact Nat.le_refl _⟩, ⟨by (with_reducible repeat (first | refine blk_drewN ?_ _ | refine blk_drew ?_ | refine blk_alloc ?_ _)); exact BK397.out⟩, ⟨by (with_reducible repeat (first | refine blk_drewN ?_ _ | refine blk_drew ?_ | refine blk_alloc ?_ _)); exact BK398.out⟩, ⟨by repeat (first | (with_reducible first | exact HB.out | apply below_alloc | apply pw_below_drewN | apply below_drew1 | refine below_set ?_ GE397.out | refine below_set ?_ GE398.out) | exact HB.out)⟩⟩
  clear HC4
  try clear c1
  try clear p2
  try clear c4
  try clear c8
  try clear c9
  try clear c9b0
  try clear c9b1
  try clear c10
  try clear c14
  try clear c18
  try clear hcz11_0
  try clear hcz11_1
  try clear hcz11_2
  try clear hcz13_0
  try clear hcz13_1
  try clear hcz13_2
  try clear hcz13_3
  try clear hcz15_0
  try clear hcz15_1
  try clear hcz15_2
  try clear hcz17_0
  try clear hcz17_1
  try clear hcz17_2
  try clear hcz17_3
  try clear hcz19_0
  try clear hcz19_1
  try clear hcz19_2
  try clear hfz11_0
  try clear hfz11_1
  try clear hfz11_2
  try clear hfz13_0
  try clear hfz13_1
  try clear hfz13_2
  try clear hfz13_3
  try clear hfz15_0
  try clear hfz15_1
  try clear hfz15_2
  try clear hfz17_0
  try clear hfz17_1
  try clear hfz17_2
  try clear hfz17_3
  try clear hfz19_0
  try clear hfz19_1
  try clear hfz19_2
  obtain ⟨kq, x28_3, rfl, HA, HJ3, BK397, BK398, HB⟩ := hcut
  rcases kq with _ | kj3
  · exact absurd HA.out (by simp [newsreellaw10_DirTells.j0])
  have H := HA.out
  clear HA
  simp only [newsreellaw10_DirTells.j0] at H
  by_cases c21 : x28_3 = true
  · subst c21
    have H1 : ((newsreellaw10_awake.f kj3).bind fun t400 => (some t400)) = some r := by rw [if_pos rfl] at H; exact H
    clear H
    have H := H1
    clear H1
    replace H := Option.bind_eq_some_iff.mp H
    obtain ⟨t400, A220, H⟩ := H
    replace H : (some t400) = some r := H
    have A22 := Aside0.mk A220
    clear A220
    as_aux_lemma =>
      obtain rfl := Option.some.inj H
      go_wp2_with (first | ((with_reducible refine gate_load (t := 69) rfl ?_); refine load_row3 (t := 69) (g := gb398) ?hg BK398.out ?ho ?hb Try.underlying69 rfl ?hs ?_; (case hg => rfl); (case ho => refine ⟨_, rfl, ?_⟩; first | (with_reducible rfl) | (go_simp; done)); (case hb => (with_reducible repeat (first | refine blk_drewN ?_ _ | refine blk_drew ?_ | refine blk_alloc ?_ _)); with_reducible exact BK398.out); (case hs => kernel_rfl)) | ((with_reducible refine gate_callee (f := 41) rfl ?_); refine goesL_ (some 29) rfl rfl Try.func41 (by kernel_rfl) rfl #[] rfl (by (try simp only [List.map_toArray, List.map_cons, List.map_nil]); first | done | rfl | (simp only [List.length_drop, List.length_take]; rfl)) ?_; (with_reducible refine (newsreellaw10_awake.calls kj3  t400 _ A22.out).mono ?_); rintro e w23 ⟨rfl, hb⟩; refine ⟨_, rfl, ?_⟩; have n0_ := Aside0.mk (blk_below (blk_y BK397.out) hb); have n1_ := Aside0.mk (blk_below (blk_y BK398.out) hb); have n2_ := Aside0.mk (below_step (below_y HB.out) hb); clear BK397; clear BK398; clear HB; have BK397 := n0_; have BK398 := n1_; have HB := n2_; clear n0_ n1_ n2_; (try clear hb); (try clear hb2); (try clear hk); (try clear hi)))
      go_ret
      exact ⟨by first | rfl | (simp [errW_none, errW_some] <;> rfl) | (simp [*, errW_none, errW_some] <;> rfl), by repeat (first | (with_reducible first | exact HB.out | apply below_alloc | apply pw_below_drewN | apply below_drew1 | refine below_set ?_ GE397.out | refine below_set ?_ GE398.out) | exact HB.out)⟩
  replace c21 := Bool.eq_false_iff.mpr c21
  subst c21
  have H1 : ((dir_Do.f kj3 l0_0 l0_1 l0_2 a1_0 a1_1 a1_2 a1_3).bind fun bt401 => ((newsreelref10_Do.f kj3 l0_0 l0_1 l0_2 a1_0 a1_1 a1_2 a1_3).bind fun bt412 => ((dir_Find.f l0_0 l0_1 l0_2 a1_1).bind fun bt423 => ((newsreelref10_At.f kj3 l0_0 a1_1).bind fun t425 => (if (bt423.2 != (decide (t425 ≥ 0))) = true then (newsreellaw10_DirTells.j1 kj3 a2 bt401.2.2.2 bt412.2.2.2 true l0_0 l0_1 l0_2 a1_0 a1_1 a1_2 a1_3 bt401.1 bt401.2.1 bt401.2.2.1 bt412.1 bt412.2.1 bt412.2.2.1) else (if bt423.2 = true then (if 0 ≤ t425 then (if t425 < (l0_0.length : Int) then (if bt423.1 = ((rd_T77 l0_0 t425).f1) then (newsreellaw10_DirTells.j1 kj3 a2 bt401.2.2.2 bt412.2.2.2 false l0_0 l0_1 l0_2 a1_0 a1_1 a1_2 a1_3 bt401.1 bt401.2.1 bt401.2.2.1 bt412.1 bt412.2.1 bt412.2.2.1) else (newsreellaw10_DirTells.j1 kj3 a2 bt401.2.2.2 bt412.2.2.2 true l0_0 l0_1 l0_2 a1_0 a1_1 a1_2 a1_3 bt401.1 bt401.2.1 bt401.2.2.1 bt412.1 bt412.2.1 bt412.2.2.1)) else (none)) else (none)) else (newsreellaw10_DirTells.j1 kj3 a2 bt401.2.2.2 bt412.2.2.2 (bt423.1 != 0) l0_0 l0_1 l0_2 a1_0 a1_1 a1_2 a1_3 bt401.1 bt401.2.1 bt401.2.2.1 bt412.1 bt412.2.1 bt412.2.2.1))))))) = some r := by rw [if_neg (show ¬ (false = true) by decide)] at H; exact H
  clear H
  have H := H1
  clear H1
  replace H := Option.bind_eq_some_iff.mp H
  obtain ⟨⟨t401, t404, t407, t410⟩, A240, H⟩ := H
  replace H : ((newsreelref10_Do.f kj3 l0_0 l0_1 l0_2 a1_0 a1_1 a1_2 a1_3).bind fun bt412 => ((dir_Find.f l0_0 l0_1 l0_2 a1_1).bind fun bt423 => ((newsreelref10_At.f kj3 l0_0 a1_1).bind fun t425 => (if (bt423.2 != (decide (t425 ≥ 0))) = true then (newsreellaw10_DirTells.j1 kj3 a2 t410 bt412.2.2.2 true l0_0 l0_1 l0_2 a1_0 a1_1 a1_2 a1_3 t401 t404 t407 bt412.1 bt412.2.1 bt412.2.2.1) else (if bt423.2 = true then (if 0 ≤ t425 then (if t425 < (l0_0.length : Int) then (if bt423.1 = ((rd_T77 l0_0 t425).f1) then (newsreellaw10_DirTells.j1 kj3 a2 t410 bt412.2.2.2 false l0_0 l0_1 l0_2 a1_0 a1_1 a1_2 a1_3 t401 t404 t407 bt412.1 bt412.2.1 bt412.2.2.1) else (newsreellaw10_DirTells.j1 kj3 a2 t410 bt412.2.2.2 true l0_0 l0_1 l0_2 a1_0 a1_1 a1_2 a1_3 t401 t404 t407 bt412.1 bt412.2.1 bt412.2.2.1)) else (none)) else (none)) else (newsreellaw10_DirTells.j1 kj3 a2 t410 bt412.2.2.2 (bt423.1 != 0) l0_0 l0_1 l0_2 a1_0 a1_1 a1_2 a1_3 t401 t404 t407 bt412.1 bt412.2.1 bt412.2.2.1)))))) = some r := H
  have A24 := Aside0.mk A240
  clear A240
  replace H := Option.bind_eq_some_iff.mp H
  obtain ⟨⟨t412, t415, t418, t421⟩, A250, H⟩ := H
  replace H : ((dir_Find.f l0_0 l0_1 l0_2 a1_1).bind fun bt423 => ((newsreelref10_At.f kj3 l0_0 a1_1).bind fun t425 => (if (bt423.2 != (decide (t425 ≥ 0))) = true then (newsreellaw10_DirTells.j1 kj3 a2 t410 t421 true l0_0 l0_1 l0_2 a1_0 a1_1 a1_2 a1_3 t401 t404 t407 t412 t415 t418) else (if bt423.2 = true then (if 0 ≤ t425 then (if t425 < (l0_0.length : Int) then (if bt423.1 = ((rd_T77 l0_0 t425).f1) then (newsreellaw10_DirTells.j1 kj3 a2 t410 t421 false l0_0 l0_1 l0_2 a1_0 a1_1 a1_2 a1_3 t401 t404 t407 t412 t415 t418) else (newsreellaw10_DirTells.j1 kj3 a2 t410 t421 true l0_0 l0_1 l0_2 a1_0 a1_1 a1_2 a1_3 t401 t404 t407 t412 t415 t418)) else (none)) else (none)) else (newsreellaw10_DirTells.j1 kj3 a2 t410 t421 (bt423.1 != 0) l0_0 l0_1 l0_2 a1_0 a1_1 a1_2 a1_3 t401 t404 t407 t412 t415 t418))))) = some r := H
  have A25 := Aside0.mk A250
  clear A250
  replace H := Option.bind_eq_some_iff.mp H
  obtain ⟨⟨t423, t424⟩, A260, H⟩ := H
  replace H : ((newsreelref10_At.f kj3 l0_0 a1_1).bind fun t425 => (if (t424 != (decide (t425 ≥ 0))) = true then (newsreellaw10_DirTells.j1 kj3 a2 t410 t421 true l0_0 l0_1 l0_2 a1_0 a1_1 a1_2 a1_3 t401 t404 t407 t412 t415 t418) else (if t424 = true then (if 0 ≤ t425 then (if t425 < (l0_0.length : Int) then (if t423 = ((rd_T77 l0_0 t425).f1) then (newsreellaw10_DirTells.j1 kj3 a2 t410 t421 false l0_0 l0_1 l0_2 a1_0 a1_1 a1_2 a1_3 t401 t404 t407 t412 t415 t418) else (newsreellaw10_DirTells.j1 kj3 a2 t410 t421 true l0_0 l0_1 l0_2 a1_0 a1_1 a1_2 a1_3 t401 t404 t407 t412 t415 t418)) else (none)) else (none)) else (newsreellaw10_DirTells.j1 kj3 a2 t410 t421 (t423 != 0) l0_0 l0_1 l0_2 a1_0 a1_1 a1_2 a1_3 t401 t404 t407 t412 t415 t418)))) = some r := H
  have A26 := Aside0.mk A260
  clear A260
  replace H := Option.bind_eq_some_iff.mp H
  obtain ⟨t425, A270, H⟩ := H
  replace H : (if (t424 != (decide (t425 ≥ 0))) = true then (newsreellaw10_DirTells.j1 kj3 a2 t410 t421 true l0_0 l0_1 l0_2 a1_0 a1_1 a1_2 a1_3 t401 t404 t407 t412 t415 t418) else (if t424 = true then (if 0 ≤ t425 then (if t425 < (l0_0.length : Int) then (if t423 = ((rd_T77 l0_0 t425).f1) then (newsreellaw10_DirTells.j1 kj3 a2 t410 t421 false l0_0 l0_1 l0_2 a1_0 a1_1 a1_2 a1_3 t401 t404 t407 t412 t415 t418) else (newsreellaw10_DirTells.j1 kj3 a2 t410 t421 true l0_0 l0_1 l0_2 a1_0 a1_1 a1_2 a1_3 t401 t404 t407 t412 t415 t418)) else (none)) else (none)) else (newsreellaw10_DirTells.j1 kj3 a2 t410 t421 (t423 != 0) l0_0 l0_1 l0_2 a1_0 a1_1 a1_2 a1_3 t401 t404 t407 t412 t415 t418))) = some r := H
  have A27 := Aside0.mk A270
  clear A270
  have HC28 := Aside0.mk H
  clear H
  have hnb29 := NB397_398.out
  have hnc29 := NB398_397.out
  have hcz30_0 := bc BK397.out 0 (.slice A0_0 l0_0.length c0_0) rfl
  have hcz30_1 := bc BK397.out 1 (.slice A0_1 l0_1.length c0_1) rfl
  have hcz30_2 := bc BK397.out 2 (.slice A0_2 l0_2.length c0_2) rfl
  have hfz30_0 := blk_frozen BK397.out 0
  have hfz30_1 := blk_frozen BK397.out 1
  have hfz30_2 := blk_frozen BK397.out 2
  have hcz31_0 := bc BK398.out 0 (.int .i64 a1_0) rfl
  have hcz31_1 := bc BK398.out 1 (.string a1_1) rfl
  have hcz31_2 := bc BK398.out 2 (.string a1_2) rfl
  have hcz31_3 := bc BK398.out 3 (.int .i64 a1_3) rfl
  have hfz31_0 := blk_frozen BK398.out 0
  have hfz31_1 := blk_frozen BK398.out 1
  have hfz31_2 := blk_frozen BK398.out 2
  have hfz31_3 := blk_frozen BK398.out 3
  go_upto_region 7 with (first | ((with_reducible refine gate_load (t := 69) rfl ?_); refine load_row3 (t := 69) (g := gb398) ?hg BK398.out ?ho ?hb Try.underlying69 rfl ?hs ?_; (case hg => rfl); (case ho => refine ⟨_, rfl, ?_⟩; first | (with_reducible rfl) | (go_simp; done)); (case hb => (with_reducible repeat (first | refine blk_drewN ?_ _ | refine blk_drew ?_ | refine blk_alloc ?_ _)); with_reducible exact BK398.out); (case hs => kernel_rfl)) | ((with_reducible refine gate_callee (f := 42) rfl ?_); refine goesL_ (some 33) rfl rfl Try.func42 (by kernel_rfl) rfl #[.agg #[.slice A0_0 l0_0.length c0_0, .slice A0_1 l0_1.length c0_1, .slice A0_2 l0_2.length c0_2], .agg #[.int .i64 a1_0, .string a1_1, .string a1_2, .int .i64 a1_3]] rfl (by (try simp only [List.map_toArray, List.map_cons, List.map_nil]); first | done | rfl | (simp only [List.length_drop, List.length_take]; rfl)) ?_; (with_reducible refine (dir_Do.calls kj3 _ _ l0_0 _ _ l0_1 _ _ l0_2 a1_0 a1_1 a1_2 a1_3 t401 t404 t407 t410 _ ?side1 ?side2 ?side3 ?side4 ?side5 ?side6 A24.out).mono ?_); (case side1 => repeat (first | exact (Kd.C_below HR0_0.out HB.out) | exact HR0_0.out | (with_reducible refine Kd.C_alloc ?_ _) | (with_reducible refine Kd.C_drewN ?_ _) | (with_reducible refine Kd.C_drew ?_))); (case side2 => exact HC0_0.out); (case side3 => repeat (first | exact (Kd.C_below HR0_1.out HB.out) | exact HR0_1.out | (with_reducible refine Kd.C_alloc ?_ _) | (with_reducible refine Kd.C_drewN ?_ _) | (with_reducible refine Kd.C_drew ?_))); (case side4 => exact HC0_1.out); (case side5 => repeat (first | exact (Kd.C_below HR0_2.out HB.out) | exact HR0_2.out | (with_reducible refine Kd.C_alloc ?_ _) | (with_reducible refine Kd.C_drewN ?_ _) | (with_reducible refine Kd.C_drew ?_))); (case side6 => exact HC0_2.out); rintro e w32 ⟨v402, v405, v408, rfl, ho0, ho1, ho2, hb⟩; refine ⟨_, rfl, ?_⟩; have n0_ := Aside0.mk (Kd.R_lower ho0 (below_size (below_y HB.out))); have n1_ := Aside0.mk (Kd.R_lower ho1 (below_size (below_y HB.out))); have n2_ := Aside0.mk (Kd.R_lower (Kd.R_newB ho2 (blk_y BK398.out)) (below_size (below_y HB.out))); have n3_ := Aside0.mk (blk_below (blk_y BK397.out) hb); have n4_ := Aside0.mk (blk_below (blk_y BK398.out) hb); have n5_ := Aside0.mk (below_step (below_y HB.out) hb); clear BK397; clear BK398; clear HB; have HO403 := n0_; have HO406 := n1_; have HO409 := n2_; have BK397 := n3_; have BK398 := n4_; have HB := n5_; clear n0_ n1_ n2_ n3_ n4_ n5_; (try clear hb); (try clear hb2); (try clear hk); (try clear hi); (try clear ho0); (try clear ho1); (try clear ho2)) | ((with_reducible refine gate_dst (N := 7) rfl ?_); (try (refine gate_guard (by rfl) ?_; dsimp only)); refine box_event ?hg (N := 7) ?hd (cs := #[.slice none 0 0, .slice none 0 0, .slice none 0 0]) (t := 67) ?hr ?_; (case hd => rfl); (case hg => rfl); (case hr => first | (go_simp; done) | (go_simp; rfl)); intro gb411 hg w33 hbox hb; have n0_ := Aside0.mk (Kd.R_below (Kd.R_y HO403.out) hb); have n1_ := Aside0.mk (Kd.R_below (Kd.R_y HO406.out) hb); have n2_ := Aside0.mk (Kd.R_below (Kd.R_y HO409.out) hb); have n3_ := Aside0.mk (blk_below (blk_y BK397.out) hb); have n4_ := Aside0.mk (blk_below (blk_y BK398.out) hb); have n5_ := Aside0.mk (below_step (below_y HB.out) hb); have n6_ := Aside0.mk (hbox); have n7_ := Aside0.mk ((by rw [hg]; exact (below_size (below_y HB.out)) : w.heap.size ≤ gb411)); have n8_ := Aside0.mk ((by rw [hg]; exact (below_size (below_y HB.out)) : w.heap.size ≤ gb411)); have n9_ := Aside0.mk ((by rw [hg]; exact Nat.ne_of_lt (blk_lt (blk_y BK397.out)) : gb397 ≠ gb411)); have n10_ := Aside0.mk ((by rw [hg]; exact Nat.ne_of_gt (blk_lt (blk_y BK397.out)) : gb411 ≠ gb397)); have n11_ := Aside0.mk ((by rw [hg]; exact Nat.ne_of_lt (blk_lt (blk_y BK398.out)) : gb398 ≠ gb411)); have n12_ := Aside0.mk ((by rw [hg]; exact Nat.ne_of_gt (blk_lt (blk_y BK398.out)) : gb411 ≠ gb398)); clear HO403; clear HO406; clear HO409; clear BK397; clear BK398; clear HB; have HO403 := n0_; have HO406 := n1_; have HO409 := n2_; have BK397 := n3_; have BK398 := n4_; have HB := n5_; have BK411 := n6_; have GW411 := n7_; have GE411 := n8_; have NB397_411 := n9_; have NB411_397 := n10_; have NB398_411 := n11_; have NB411_398 := n12_; clear n0_ n1_ n2_ n3_ n4_ n5_ n6_ n7_ n8_ n9_ n10_ n11_ n12_; clear hb hbox hg; obtain ⟨Ao34, co34, eo34⟩ := Kd.R_slice HO403.out; subst eo34; have hnb35 := NB411_397.out; have hnc35 := NB397_411.out; have hnb36 := NB411_398.out; have hnc36 := NB398_411.out; have hcz37_0 := bc BK411.out 0 (.slice none 0 0) rfl; have hcz37_1 := bc BK411.out 1 (.slice none 0 0) rfl; have hcz37_2 := bc BK411.out 2 (.slice none 0 0) rfl; have hfz37_0 := blk_frozen BK411.out 0; have hfz37_1 := blk_frozen BK411.out 1; have hfz37_2 := blk_frozen BK411.out 2; obtain ⟨Ao38, co38, eo38⟩ := Kd.R_slice HO406.out; subst eo38; obtain ⟨Ao39, co39, eo39⟩ := Kd.R_slice HO409.out; subst eo39) | ((with_reducible refine gate_store (t := 67) (p := 7) rfl ?_); refine store_event (t := 67) (p := 7) (v := ?vo_w40) (w1 := (((w33.setCell ⟨gb411, 0, none⟩ (.slice Ao34 t401.length co34)).setCell ⟨gb411, 1, none⟩ (.slice Ao38 t404.length co38)).setCell ⟨gb411, 2, none⟩ (.slice Ao39 t407.length co39))) ?hg ?ho ?hn ?hr ?_; (case ho => rfl); (case hg => rfl); (case hn => rfl); (case hr => first | (go_simp; done) | (go_simp; rfl)); intro w40 hw; have n0_ : Aside0 (Kd.R k77 77 w40 w.heap.size (fun k_ => some k_ ≠ (.slice Ao38 t404.length co38 : Value).ownBlock) (.slice Ao34 t401.length co34) t401) := ⟨(by rw [hw]; exact (by (with_reducible repeat (first | apply Kd.R_alloc | apply Kd.R_drewN | apply Kd.R_drew)); exact Kd.R_mono (Kd.R_far (p := ⟨gb411, 2, none⟩) (Kd.R_far (p := ⟨gb411, 1, none⟩) (Kd.R_far (p := ⟨gb411, 0, none⟩) (Kd.R_types HO403.out BK411.out (by decide)) (fun _ hk => hk.2) (.slice Ao34 t401.length co34)) (fun _ hk => hk.2) (.slice Ao38 t404.length co38)) (fun _ hk => hk.2) (.slice Ao39 t407.length co39)) (fun _ hk => hk.1)))⟩; have n1_ : Aside0 (Kd.R k77 77 w40 w.heap.size (fun k_ => some k_ ≠ (.slice Ao34 t401.length co34 : Value).ownBlock) (.slice Ao38 t404.length co38) t404) := ⟨(by rw [hw]; exact (by (with_reducible repeat (first | apply Kd.R_alloc | apply Kd.R_drewN | apply Kd.R_drew)); exact Kd.R_mono (Kd.R_far (p := ⟨gb411, 2, none⟩) (Kd.R_far (p := ⟨gb411, 1, none⟩) (Kd.R_far (p := ⟨gb411, 0, none⟩) (Kd.R_types HO406.out BK411.out (by decide)) (fun _ hk => hk.2) (.slice Ao34 t401.length co34)) (fun _ hk => hk.2) (.slice Ao38 t404.length co38)) (fun _ hk => hk.2) (.slice Ao39 t407.length co39)) (fun _ hk => hk.1)))⟩; have n2_ : Aside0 (Kd.R k69 69 w40 w.heap.size (fun k_ => k_ ≠ gb398) (.slice Ao39 t407.length co39) t407) := ⟨(by rw [hw]; exact (by (with_reducible repeat (first | apply Kd.R_alloc | apply Kd.R_drewN | apply Kd.R_drew)); exact Kd.R_mono (Kd.R_far (p := ⟨gb411, 2, none⟩) (Kd.R_far (p := ⟨gb411, 1, none⟩) (Kd.R_far (p := ⟨gb411, 0, none⟩) (Kd.R_types HO409.out BK411.out (by decide)) (fun _ hk => hk.2) (.slice Ao34 t401.length co34)) (fun _ hk => hk.2) (.slice Ao38 t404.length co38)) (fun _ hk => hk.2) (.slice Ao39 t407.length co39)) (fun _ hk => hk.1.2)))⟩; have n3_ : Aside0 (w40.heap[gb397]? = some (.cells #[.slice A0_0 l0_0.length c0_0, .slice A0_1 l0_1.length c0_1, .slice A0_2 l0_2.length c0_2] 67 (0, 0))) := ⟨(by rw [hw]; exact (by (iterate 3 ((with_reducible repeat (first | refine blk_drewN ?_ _ | refine blk_drew ?_ | refine blk_alloc ?_ _)); refine blk_far ?_ NB397_411.out _)); (with_reducible repeat (first | refine blk_drewN ?_ _ | refine blk_drew ?_ | refine blk_alloc ?_ _)); exact BK397.out))⟩; have n4_ : Aside0 (w40.heap[gb398]? = some (.cells #[.int .i64 a1_0, .string a1_1, .string a1_2, .int .i64 a1_3] 69 (0, 0))) := ⟨(by rw [hw]; exact (by (iterate 3 ((with_reducible repeat (first | refine blk_drewN ?_ _ | refine blk_drew ?_ | refine blk_alloc ?_ _)); refine blk_far ?_ NB398_411.out _)); (with_reducible repeat (first | refine blk_drewN ?_ _ | refine blk_drew ?_ | refine blk_alloc ?_ _)); exact BK398.out))⟩; have n5_ : Aside0 (w40.heap[gb411]? = some (.cells #[.slice Ao34 t401.length co34, .slice Ao38 t404.length co38, .slice Ao39 t407.length co39] 67 (0, 0))) := ⟨(by rw [hw]; exact (by (with_reducible repeat (first | refine blk_drewN ?_ _ | refine blk_drew ?_ | refine blk_alloc ?_ _)); refine blk_put (cs := #[.slice Ao34 t401.length co34, .slice Ao38 t404.length co38, .slice none 0 0]) ?_ 2 _ rfl; (with_reducible repeat (first | refine blk_drewN ?_ _ | refine blk_drew ?_ | refine blk_alloc ?_ _)); refine blk_put (cs := #[.slice Ao34 t401.length co34, .slice none 0 0, .slice none 0 0]) ?_ 1 _ rfl; (with_reducible repeat (first | refine blk_drewN ?_ _ | refine blk_drew ?_ | refine blk_alloc ?_ _)); refine blk_put (cs := #[.slice none 0 0, .slice none 0 0, .slice none 0 0]) ?_ 0 _ rfl; (with_reducible repeat (first | refine blk_drewN ?_ _ | refine blk_drew ?_ | refine blk_alloc ?_ _)); exact BK411.out))⟩; have n6_ : Aside0 (Below w.heap.size w w40) := ⟨(by rw [hw]; exact (below_y HB.out))⟩; clear hw; clear HO403; clear HO406; clear HO409; clear BK397; clear BK398; clear BK411; clear HB; have HO403 := n0_; have HO406 := n1_; have HO409 := n2_; have BK397 := n3_; have BK398 := n4_; have BK411 := n5_; have HB := n6_; clear n0_ n1_ n2_ n3_ n4_ n5_ n6_; have hcz41_0 := bc BK397.out 0 (.slice A0_0 l0_0.length c0_0) rfl; have hcz41_1 := bc BK397.out 1 (.slice A0_1 l0_1.length c0_1) rfl; have hcz41_2 := bc BK397.out 2 (.slice A0_2 l0_2.length c0_2) rfl; have hfz41_0 := blk_frozen BK397.out 0; have hfz41_1 := blk_frozen BK397.out 1; have hfz41_2 := blk_frozen BK397.out 2; have hcz42_0 := bc BK398.out 0 (.int .i64 a1_0) rfl; have hcz42_1 := bc BK398.out 1 (.string a1_1) rfl; have hcz42_2 := bc BK398.out 2 (.string a1_2) rfl; have hcz42_3 := bc BK398.out 3 (.int .i64 a1_3) rfl; have hfz42_0 := blk_frozen BK398.out 0; have hfz42_1 := blk_frozen BK398.out 1; have hfz42_2 := blk_frozen BK398.out 2; have hfz42_3 := blk_frozen BK398.out 3) | ((with_reducible refine gate_callee (f := 43) rfl ?_); refine goesL_ (some 39) rfl rfl Try.func43 (by kernel_rfl) rfl #[.agg #[.slice A0_0 l0_0.length c0_0, .slice A0_1 l0_1.length c0_1, .slice A0_2 l0_2.length c0_2], .agg #[.int .i64 a1_0, .string a1_1, .string a1_2, .int .i64 a1_3]] rfl (by (try simp only [List.map_toArray, List.map_cons, List.map_nil]); first | done | rfl | (simp only [List.length_drop, List.length_take]; rfl)) ?_; (with_reducible refine (newsreelref10_Do.calls kj3 _ _ l0_0 (fun k_ => k_ < w.heap.size) _ _ l0_1 _ _ l0_2 a1_0 a1_1 a1_2 a1_3 t412 t415 t418 t421 _ ?side1 ?side2 ?side3 ?side4 ?side5 A25.out).mono ?_); (case side1 => repeat (first | exact (Kd.C_below HR0_0.out HB.out) | exact HR0_0.out | (with_reducible refine Kd.C_alloc ?_ _) | (with_reducible refine Kd.C_drewN ?_ _) | (with_reducible refine Kd.C_drew ?_))); (case side2 => exact HC0_0.out); (case side3 => exact Kd.V_mk HC0_1.out (Kd.F_below (Kd.C_F k77_heap HR0_1.out) (below_y HB.out))); (case side4 => repeat (first | exact (Kd.C_below HR0_2.out HB.out) | exact HR0_2.out | (with_reducible refine Kd.C_alloc ?_ _) | (with_reducible refine Kd.C_drewN ?_ _) | (with_reducible refine Kd.C_drew ?_))); (case side5 => exact HC0_2.out); rintro e w43 ⟨v413, v416, v419, rfl, ho0, ho1, ho2, hb⟩; refine ⟨_, rfl, ?_⟩; have n0_ := Aside0.mk (Kd.R_elder' (Kd.R_y HO403.out) (Kd.R_base ho0) hb); have n1_ := Aside0.mk (Kd.R_elder' (Kd.R_y HO406.out) (Kd.R_base ho0) hb); have n2_ := Aside0.mk (Kd.R_elder' (Kd.R_y HO409.out) (Kd.R_base ho2) hb); have n3_ := Aside0.mk (Kd.R_lower (Kd.R_new' (Kd.R_new' (Kd.R_mono (ok' := fun k_ => True) ho0 (fun _ hk_ => trivial)) (Kd.R_lt (Kd.R_y HO403.out))) (Kd.R_lt (Kd.R_y HO406.out))) (below_size (below_y HB.out))); have n4_ := Aside0.mk (Kd.V_lower (Kd.V_mono (ok' := fun k_ => some k_ ≠ (v413 : Value).ownBlock ∧ some k_ ≠ (v419 : Value).ownBlock ∧ some k_ ≠ (.slice Ao34 t401.length co34 : Value).ownBlock ∧ some k_ ≠ (.slice Ao38 t404.length co38 : Value).ownBlock ∧ some k_ ≠ (.slice Ao39 t407.length co39 : Value).ownBlock ∧ k_ ≠ gb397 ∧ k_ ≠ gb398 ∧ k_ ≠ gb411) ho1 (fun k_ hk_ => ⟨hk_.2.1, hk_.2.2, Or.elim hk_.1 (fun hs_ => fun e_ => Nat.not_le.2 hs_ (Kd.R_base HO403.out k_ e_.symm)) (fun hn_ => (Kd.fresh' (Kd.R_lt (Kd.R_y HO403.out)) k_ hn_)), Or.elim hk_.1 (fun hs_ => fun e_ => Nat.not_le.2 hs_ (Kd.R_base HO406.out k_ e_.symm)) (fun hn_ => (Kd.fresh' (Kd.R_lt (Kd.R_y HO406.out)) k_ hn_)), Or.elim hk_.1 (fun hs_ => fun e_ => Nat.not_le.2 hs_ (Kd.R_base HO409.out k_ e_.symm)) (fun hn_ => (Kd.fresh' (Kd.R_lt (Kd.R_y HO409.out)) k_ hn_)), Or.elim hk_.1 (fun hs_ => fun e_ => Nat.not_le.2 hs_ (by rw [e_]; exact GW397.out)) (fun hn_ => (Kd.freshB (blk_y BK397.out) k_ hn_)), Or.elim hk_.1 (fun hs_ => fun e_ => Nat.not_le.2 hs_ (by rw [e_]; exact GW398.out)) (fun hn_ => (Kd.freshB (blk_y BK398.out) k_ hn_)), Or.elim hk_.1 (fun hs_ => fun e_ => Nat.not_le.2 hs_ (by rw [e_]; exact GW411.out)) (fun hn_ => (Kd.freshB (blk_y BK411.out) k_ hn_))⟩)) (below_size (below_y HB.out))); have n5_ := Aside0.mk (Kd.R_lower (Kd.R_newB (Kd.R_new' (Kd.R_mono (ok' := fun k_ => True) ho2 (fun _ hk_ => trivial)) (Kd.R_lt (Kd.R_y HO409.out))) (blk_y BK398.out)) (below_size (below_y HB.out))); have n6_ := Aside0.mk (blk_below (blk_y BK397.out) hb); have n7_ := Aside0.mk (blk_below (blk_y BK398.out) hb); have n8_ := Aside0.mk (blk_below (blk_y BK411.out) hb); have n9_ := Aside0.mk (below_step (below_y HB.out) hb); clear HO403; clear HO406; clear HO409; clear BK397; clear BK398; clear BK411; clear HB; have HO403 := n0_; have HO406 := n1_; have HO409 := n2_; have HO414 := n3_; have HO417 := n4_; have HO420 := n5_; have BK397 := n6_; have BK398 := n7_; have BK411 := n8_; have HB := n9_; clear n0_ n1_ n2_ n3_ n4_ n5_ n6_ n7_ n8_ n9_; (try clear hb); (try clear hb2); (try clear hk); (try clear hi); (try clear ho0); (try clear ho1); (try clear ho2)) | ((with_reducible refine gate_dst (N := 9) rfl ?_); (try (refine gate_guard (by rfl) ?_; dsimp only)); refine box_event ?hg (N := 9) ?hd (cs := #[.slice none 0 0, .slice none 0 0, .slice none 0 0]) (t := 67) ?hr ?_; (case hd => rfl); (case hg => rfl); (case hr => first | (go_simp; done) | (go_simp; rfl)); intro gb422 hg w44 hbox hb; have n0_ := Aside0.mk (Kd.R_below (Kd.R_y HO403.out) hb); have n1_ := Aside0.mk (Kd.R_below (Kd.R_y HO406.out) hb); have n2_ := Aside0.mk (Kd.R_below (Kd.R_y HO409.out) hb); have n3_ := Aside0.mk (Kd.R_below (Kd.R_y HO414.out) hb); have n4_ := Aside0.mk (Kd.V_below (Kd.V_elderB (Kd.V_y HO417.out) gb422 (Nat.le_of_eq hg.symm)) hb); have n5_ := Aside0.mk (Kd.R_below (Kd.R_y HO420.out) hb); have n6_ := Aside0.mk (blk_below (blk_y BK397.out) hb); have n7_ := Aside0.mk (blk_below (blk_y BK398.out) hb); have n8_ := Aside0.mk (blk_below (blk_y BK411.out) hb); have n9_ := Aside0.mk (below_step (below_y HB.out) hb); have n10_ := Aside0.mk (hbox); have n11_ := Aside0.mk ((by rw [hg]; exact (below_size (below_y HB.out)) : w.heap.size ≤ gb422)); have n12_ := Aside0.mk ((by rw [hg]; exact (below_size (below_y HB.out)) : w.heap.size ≤ gb422)); have n13_ := Aside0.mk ((by rw [hg]; exact Nat.ne_of_lt (blk_lt (blk_y BK397.out)) : gb397 ≠ gb422)); have n14_ := Aside0.mk ((by rw [hg]; exact Nat.ne_of_gt (blk_lt (blk_y BK397.out)) : gb422 ≠ gb397)); have n15_ := Aside0.mk ((by rw [hg]; exact Nat.ne_of_lt (blk_lt (blk_y BK398.out)) : gb398 ≠ gb422)); have n16_ := Aside0.mk ((by rw [hg]; exact Nat.ne_of_gt (blk_lt (blk_y BK398.out)) : gb422 ≠ gb398)); have n17_ := Aside0.mk ((by rw [hg]; exact Nat.ne_of_lt (blk_lt (blk_y BK411.out)) : gb411 ≠ gb422)); have n18_ := Aside0.mk ((by rw [hg]; exact Nat.ne_of_gt (blk_lt (blk_y BK411.out)) : gb422 ≠ gb411)); clear HO403; clear HO406; clear HO409; clear HO414; clear HO417; clear HO420; clear BK397; clear BK398; clear BK411; clear HB; have HO403 := n0_; have HO406 := n1_; have HO409 := n2_; have HO414 := n3_; have HO417 := n4_; have HO420 := n5_; have BK397 := n6_; have BK398 := n7_; have BK411 := n8_; have HB := n9_; have BK422 := n10_; have GW422 := n11_; have GE422 := n12_; have NB397_422 := n13_; have NB422_397 := n14_; have NB398_422 := n15_; have NB422_398 := n16_; have NB411_422 := n17_; have NB422_411 := n18_; clear n0_ n1_ n2_ n3_ n4_ n5_ n6_ n7_ n8_ n9_ n10_ n11_ n12_ n13_ n14_ n15_ n16_ n17_ n18_; clear hb hbox hg; obtain ⟨Ao45, co45, eo45⟩ := Kd.R_slice HO414.out; subst eo45; have hnb46 := NB422_397.out; have hnc46 := NB397_422.out; have hnb47 := NB422_398.out; have hnc47 := NB398_422.out; have hnb48 := NB422_411.out; have hnc48 := NB411_422.out; have hcz49_0 := bc BK422.out 0 (.slice none 0 0) rfl; have hcz49_1 := bc BK422.out 1 (.slice none 0 0) rfl; have hcz49_2 := bc BK422.out 2 (.slice none 0 0) rfl; have hfz49_0 := blk_frozen BK422.out 0; have hfz49_1 := blk_frozen BK422.out 1; have hfz49_2 := blk_frozen BK422.out 2; obtain ⟨Ao50, co50, eo50⟩ := Kd.V_slice HO417.out; subst eo50; obtain ⟨Ao51, co51, eo51⟩ := Kd.R_slice HO420.out; subst eo51; have hcz52_0 := bc BK397.out 0 (.slice A0_0 l0_0.length c0_0) rfl; have hcz52_1 := bc BK397.out 1 (.slice A0_1 l0_1.length c0_1) rfl; have hcz52_2 := bc BK397.out 2 (.slice A0_2 l0_2.length c0_2) rfl; have hfz52_0 := blk_frozen BK397.out 0; have hfz52_1 := blk_frozen BK397.out 1; have hfz52_2 := blk_frozen BK397.out 2; have hcz53_0 := bc BK398.out 0 (.int .i64 a1_0) rfl; have hcz53_1 := bc BK398.out 1 (.string a1_1) rfl; have hcz53_2 := bc BK398.out 2 (.string a1_2) rfl; have hcz53_3 := bc BK398.out 3 (.int .i64 a1_3) rfl; have hfz53_0 := blk_frozen BK398.out 0; have hfz53_1 := blk_frozen BK398.out 1; have hfz53_2 := blk_frozen BK398.out 2; have hfz53_3 := blk_frozen BK398.out 3) | ((with_reducible refine gate_callee (f := 44) rfl ?_); refine goesL_ (some 46) rfl rfl Try.func44 (by kernel_rfl) rfl #[.agg #[.slice A0_0 l0_0.length c0_0, .slice A0_1 l0_1.length c0_1, .slice A0_2 l0_2.length c0_2], .string a1_1] rfl (by (try simp only [List.map_toArray, List.map_cons, List.map_nil]); first | done | rfl | (simp only [List.length_drop, List.length_take]; rfl)) ?_; (with_reducible refine (dir_Find.calls _ _ l0_0 _ _ l0_1 _ _ l0_2 a1_1 t423 t424 _ ?side1 ?side2 ?side3 ?side4 ?side5 ?side6 A26.out).mono ?_); (case side1 => exact Kd.C_below HR0_0.out (below_y HB.out)); (case side2 => exact HC0_0.out); (case side3 => exact Kd.C_below HR0_1.out (below_y HB.out)); (case side4 => exact HC0_1.out); (case side5 => exact Kd.C_below HR0_2.out (below_y HB.out)); (case side6 => exact HC0_2.out); rintro e w54 ⟨rfl, hb⟩; refine ⟨_, rfl, ?_⟩; have n0_ := Aside0.mk (Kd.R_below (by (with_reducible repeat (first | apply Kd.R_alloc | apply Kd.R_drewN | apply Kd.R_drew)); exact (Kd.R_mono (Kd.R_far (p := ⟨gb422, 2, none⟩) (Kd.R_far (p := ⟨gb422, 1, none⟩) (Kd.R_far (p := ⟨gb422, 0, none⟩) (Kd.R_types HO403.out BK422.out (by decide)) (fun _ hk => hk.2) (.slice Ao45 t412.length co45)) (fun _ hk => hk.2) (.slice Ao50 t415.length co50)) (fun _ hk => hk.2) (.slice Ao51 t418.length co51)) (fun _ h_ => h_.1))) hb); have n1_ := Aside0.mk (Kd.R_below (by (with_reducible repeat (first | apply Kd.R_alloc | apply Kd.R_drewN | apply Kd.R_drew)); exact (Kd.R_mono (Kd.R_far (p := ⟨gb422, 2, none⟩) (Kd.R_far (p := ⟨gb422, 1, none⟩) (Kd.R_far (p := ⟨gb422, 0, none⟩) (Kd.R_types HO406.out BK422.out (by decide)) (fun _ hk => hk.2) (.slice Ao45 t412.length co45)) (fun _ hk => hk.2) (.slice Ao50 t415.length co50)) (fun _ hk => hk.2) (.slice Ao51 t418.length co51)) (fun _ h_ => h_.1))) hb); have n2_ := Aside0.mk (Kd.R_below (by (with_reducible repeat (first | apply Kd.R_alloc | apply Kd.R_drewN | apply Kd.R_drew)); exact (Kd.R_mono (Kd.R_far (p := ⟨gb422, 2, none⟩) (Kd.R_far (p := ⟨gb422, 1, none⟩) (Kd.R_far (p := ⟨gb422, 0, none⟩) (Kd.R_types HO409.out BK422.out (by decide)) (fun _ hk => hk.2) (.slice Ao45 t412.length co45)) (fun _ hk => hk.2) (.slice Ao50 t415.length co50)) (fun _ hk => hk.2) (.slice Ao51 t418.length co51)) (fun _ h_ => h_.1))) hb); have n3_ := Aside0.mk (Kd.R_below (by (with_reducible repeat (first | apply Kd.R_alloc | apply Kd.R_drewN | apply Kd.R_drew)); exact (Kd.R_mono (Kd.R_far (p := ⟨gb422, 2, none⟩) (Kd.R_far (p := ⟨gb422, 1, none⟩) (Kd.R_far (p := ⟨gb422, 0, none⟩) (Kd.R_types HO414.out BK422.out (by decide)) (fun _ hk => hk.2) (.slice Ao45 t412.length co45)) (fun _ hk => hk.2) (.slice Ao50 t415.length co50)) (fun _ hk => hk.2) (.slice Ao51 t418.length co51)) (fun _ h_ => h_.1))) hb); have n4_ := Aside0.mk (Kd.V_below (by (with_reducible repeat (first | apply Kd.V_alloc | apply Kd.V_drewN | apply Kd.V_drew)); exact (Kd.V_mono (Kd.V_far (p := ⟨gb422, 2, none⟩) (Kd.V_far (p := ⟨gb422, 1, none⟩) (Kd.V_far (p := ⟨gb422, 0, none⟩) (Kd.V_mono HO417.out (fun k_ hk => (⟨hk, hk.2⟩ : _ ∧ k_ ≠ gb422))) (fun _ hk => hk.2) (.slice Ao45 t412.length co45)) (fun _ hk => hk.2) (.slice Ao50 t415.length co50)) (fun _ hk => hk.2) (.slice Ao51 t418.length co51)) (fun _ h_ => h_.1))) hb); have n5_ := Aside0.mk (Kd.R_below (by (with_reducible repeat (first | apply Kd.R_alloc | apply Kd.R_drewN | apply Kd.R_drew)); exact (Kd.R_mono (Kd.R_far (p := ⟨gb422, 2, none⟩) (Kd.R_far (p := ⟨gb422, 1, none⟩) (Kd.R_far (p := ⟨gb422, 0, none⟩) (Kd.R_types HO420.out BK422.out (by decide)) (fun _ hk => hk.2) (.slice Ao45 t412.length co45)) (fun _ hk => hk.2) (.slice Ao50 t415.length co50)) (fun _ hk => hk.2) (.slice Ao51 t418.length co51)) (fun _ h_ => h_.1))) hb); have n6_ := Aside0.mk (blk_below (g := gb397) (o := .cells #[.slice A0_0 l0_0.length c0_0, .slice A0_1 l0_1.length c0_1, .slice A0_2 l0_2.length c0_2] 67 (0, 0)) (by (iterate 3 ((with_reducible repeat (first | refine blk_drewN ?_ _ | refine blk_drew ?_ | refine blk_alloc ?_ _)); refine blk_far ?_ NB397_422.out _)); (with_reducible repeat (first | refine blk_drewN ?_ _ | refine blk_drew ?_ | refine blk_alloc ?_ _)); exact BK397.out) hb); have n7_ := Aside0.mk (blk_below (g := gb398) (o := .cells #[.int .i64 a1_0, .string a1_1, .string a1_2, .int .i64 a1_3] 69 (0, 0)) (by (iterate 3 ((with_reducible repeat (first | refine blk_drewN ?_ _ | refine blk_drew ?_ | refine blk_alloc ?_ _)); refine blk_far ?_ NB398_422.out _)); (with_reducible repeat (first | refine blk_drewN ?_ _ | refine blk_drew ?_ | refine blk_alloc ?_ _)); exact BK398.out) hb); have n8_ := Aside0.mk (blk_below (g := gb411) (o := .cells #[.slice Ao34 t401.length co34, .slice Ao38 t404.length co38, .slice Ao39 t407.length co39] 67 (0, 0)) (by (iterate 3 ((with_reducible repeat (first | refine blk_drewN ?_ _ | refine blk_drew ?_ | refine blk_alloc ?_ _)); refine blk_far ?_ NB411_422.out _)); (with_reducible repeat (first | refine blk_drewN ?_ _ | refine blk_drew ?_ | refine blk_alloc ?_ _)); exact BK411.out) hb); have n9_ := Aside0.mk (blk_below (g := gb422) (o := .cells #[.slice Ao45 t412.length co45, .slice Ao50 t415.length co50, .slice Ao51 t418.length co51] 67 (0, 0)) (by (with_reducible repeat (first | refine blk_drewN ?_ _ | refine blk_drew ?_ | refine blk_alloc ?_ _)); refine blk_put (cs := #[.slice Ao45 t412.length co45, .slice Ao50 t415.length co50, .slice none 0 0]) ?_ 2 _ rfl; (with_reducible repeat (first | refine blk_drewN ?_ _ | refine blk_drew ?_ | refine blk_alloc ?_ _)); refine blk_put (cs := #[.slice Ao45 t412.length co45, .slice none 0 0, .slice none 0 0]) ?_ 1 _ rfl; (with_reducible repeat (first | refine blk_drewN ?_ _ | refine blk_drew ?_ | refine blk_alloc ?_ _)); refine blk_put (cs := #[.slice none 0 0, .slice none 0 0, .slice none 0 0]) ?_ 0 _ rfl; (with_reducible repeat (first | refine blk_drewN ?_ _ | refine blk_drew ?_ | refine blk_alloc ?_ _)); exact BK422.out) hb); have n10_ := Aside0.mk (below_step (below_y HB.out) hb); clear HO403; clear HO406; clear HO409; clear HO414; clear HO417; clear HO420; clear BK397; clear BK398; clear BK411; clear BK422; clear HB; have HO403 := n0_; have HO406 := n1_; have HO409 := n2_; have HO414 := n3_; have HO417 := n4_; have HO420 := n5_; have BK397 := n6_; have BK398 := n7_; have BK411 := n8_; have BK422 := n9_; have HB := n10_; clear n0_ n1_ n2_ n3_ n4_ n5_ n6_ n7_ n8_ n9_ n10_; (try clear hb); (try clear hb2); (try clear hk); (try clear hi); have hcz55_0 := bc BK397.out 0 (.slice A0_0 l0_0.length c0_0) rfl; have hcz55_1 := bc BK397.out 1 (.slice A0_1 l0_1.length c0_1) rfl; have hcz55_2 := bc BK397.out 2 (.slice A0_2 l0_2.length c0_2) rfl; have hfz55_0 := blk_frozen BK397.out 0; have hfz55_1 := blk_frozen BK397.out 1; have hfz55_2 := blk_frozen BK397.out 2; have hcz56_0 := bc BK398.out 0 (.int .i64 a1_0) rfl; have hcz56_1 := bc BK398.out 1 (.string a1_1) rfl; have hcz56_2 := bc BK398.out 2 (.string a1_2) rfl; have hcz56_3 := bc BK398.out 3 (.int .i64 a1_3) rfl; have hfz56_0 := blk_frozen BK398.out 0; have hfz56_1 := blk_frozen BK398.out 1; have hfz56_2 := blk_frozen BK398.out 2; have hfz56_3 := blk_frozen BK398.out 3) | ((with_reducible refine gate_callee (f := 45) rfl ?_); refine goesL_ (some 53) rfl rfl Try.func45 (by kernel_rfl) rfl #[.slice A0_0 l0_0.length c0_0, .string a1_1] rfl (by (try simp only [List.map_toArray, List.map_cons, List.map_nil]); first | done | rfl | (simp only [List.length_drop, List.length_take]; rfl)) ?_; (with_reducible refine (newsreelref10_At.calls kj3 _ _ l0_0 a1_1 t425 _ ?side1 ?side2 A27.out).mono ?_); (case side1 => repeat (first | exact (Kd.C_below HR0_0.out HB.out) | exact HR0_0.out | (with_reducible refine Kd.C_alloc ?_ _) | (with_reducible refine Kd.C_drewN ?_ _) | (with_reducible refine Kd.C_drew ?_))); (case side2 => exact HC0_0.out); rintro e w' ⟨rfl, ⟨nd, rfl⟩⟩; refine ⟨_, rfl, ?_⟩))
  (try simp only [Act.put, List.setIfInBounds_toArray, List.set_cons_zero, List.set_cons_succ])
  go_cut [78] (fun v78 wc => ∃ (kq : Nat) (x78_27 : Bool), v78 = .bool x78_27 ∧ Aside0 (newsreellaw10_DirTells.j1 kq a2 t410 t421 x78_27 l0_0 l0_1 l0_2 a1_0 a1_1 a1_2 a1_3 t401 t404 t407 t412 t415 t418 = some r) ∧ Aside0 (kq ≤ kj3) ∧ Aside0 (Kd.R k77 77 wc w.heap.size (fun k_ => some k_ ≠ ((.slice Ao38 t404.length co38) : Value).ownBlock ∧ some k_ ≠ ((.slice Ao45 t412.length co45) : Value).ownBlock) (.slice Ao34 t401.length co34) t401) ∧ Aside0 (Kd.R k77 77 wc w.heap.size (fun k_ => some k_ ≠ ((.slice Ao34 t401.length co34) : Value).ownBlock ∧ some k_ ≠ ((.slice Ao45 t412.length co45) : Value).ownBlock) (.slice Ao38 t404.length co38) t404) ∧ Aside0 (Kd.R k69 69 wc w.heap.size (fun k_ => some k_ ≠ ((.slice Ao51 t418.length co51) : Value).ownBlock ∧ k_ ≠ gb398) (.slice Ao39 t407.length co39) t407) ∧ Aside0 (Kd.R k77 77 wc w.heap.size (fun k_ => some k_ ≠ ((.slice Ao34 t401.length co34) : Value).ownBlock ∧ some k_ ≠ ((.slice Ao38 t404.length co38) : Value).ownBlock) (.slice Ao45 t412.length co45) t412) ∧ Aside0 (Kd.V k77 77 wc w.heap.size (fun k_ => some k_ ≠ ((.slice Ao34 t401.length co34) : Value).ownBlock ∧ some k_ ≠ ((.slice Ao38 t404.length co38) : Value).ownBlock ∧ some k_ ≠ ((.slice Ao39 t407.length co39) : Value).ownBlock ∧ some k_ ≠ ((.slice Ao45 t412.length co45) : Value).ownBlock ∧ some k_ ≠ ((.slice Ao51 t418.length co51) : Value).ownBlock ∧ k_ ≠ gb397 ∧ k_ ≠ gb398 ∧ k_ ≠ gb411 ∧ k_ ≠ gb422) (.slice Ao50 t415.length co50) t415) ∧ Aside0 (Kd.R k69 69 wc w.heap.size (fun k_ => some k_ ≠ ((.slice Ao39 t407.length co39) : Value).ownBlock ∧ k_ ≠ gb398) (.slice Ao51 t418.length co51) t418) ∧ Aside0 (wc.heap[gb397]? = some (.cells #[(.slice A0_0 l0_0.length c0_0), (.slice A0_1 l0_1.length c0_1), (.slice A0_2 l0_2.length c0_2)] 67 (0, 0))) ∧ Aside0 (wc.heap[gb398]? = some (.cells #[.int .i64 a1_0, .string a1_1, .string a1_2, .int .i64 a1_3] 69 (0, 0))) ∧ Aside0 (wc.heap[gb411]? = some (.cells #[(.slice Ao34 t401.length co34), (.slice Ao38 t404.length co38), (.slice Ao39 t407.length co39)] 67 (0, 0))) ∧ Aside0 (wc.heap[gb422]? = some (.cells #[(.slice Ao45 t412.length co45), (.slice Ao50 t415.length co50), (.slice Ao51 t418.length co51)] 67 (0, 0))) ∧ Aside0 (Below w.heap.size w wc))
  case first =>
    have H := HC28.out
    clear HC28
    by_cases c57 : (t424 != (decide (t425 ≥ 0))) = true
    · rw [if_pos c57] at H
      have c57b0 : (t424 != (decide (t425 ≥ 0))) = true := c57
      (try (have c57b1 : decide (t424 = (decide (t425 ≥ 0))) = false := by simpa using c57))
      (try (have c57b2 : (t424 == (decide (t425 ≥ 0))) = false := by simpa using c57))
      (try (have c57b3 : ¬ (t424 = (decide (t425 ≥ 0))) := by simpa using c57))
      clear c57
      (first | rw [c57b0] | (simp only [i64_w, i32_w]; rw [c57b0]) | skip)
      as_aux_lemma =>
        have H' := Aside0.mk H
        clear H
        go_wp2_with (first | ((with_reducible refine gate_load (t := 69) rfl ?_); refine load_row3 (t := 69) (g := gb398) ?hg BK398.out ?ho ?hb Try.underlying69 rfl ?hs ?_; (case hg => rfl); (case ho => refine ⟨_, rfl, ?_⟩; first | (with_reducible rfl) | (go_simp; done)); (case hb => (with_reducible repeat (first | refine blk_drewN ?_ _ | refine blk_drew ?_ | refine blk_alloc ?_ _)); with_reducible exact BK398.out); (case hs => kernel_rfl)))
        go_meet
        case rel => exact ⟨_, (true), (by first | rfl | (simp; done) | (simp [*]; done)), H', ⟨by have := HJ3.out; first | omega | exact Nat.le_refl _⟩, ⟨by (with_reducible repeat (first | apply Kd.R_alloc | apply Kd.R_drewN | apply Kd.R_drew)); exact HO403.out⟩, ⟨by (with_reducible repeat (first | apply Kd.R_alloc | apply Kd.R_drewN | apply Kd.R_drew)); exact HO406.out⟩, ⟨by (with_reducible repeat (first | apply Kd.R_alloc | apply Kd.R_drewN | apply Kd.R_drew)); exact Kd.R_mono HO409.out (fun _ hk => ⟨hk.2, hk.1⟩)⟩, ⟨by (with_reducible repeat (first | apply Kd.R_alloc | apply Kd.R_drewN | apply Kd.R_drew)); exact Kd.R_mono HO414.out (fun _ hk => ⟨hk.1.2, hk.2⟩)⟩, ⟨by (with_reducible repeat (first | apply Kd.V_alloc | apply Kd.V_drewN | apply Kd.V_drew)); exact Kd.V_mono HO417.out (fun _ hk => ⟨hk.1.2.2.1, ⟨hk.1.2.2.2.1, ⟨hk.1.2.2.2.2.1, ⟨hk.1.1, ⟨hk.1.2.1, ⟨hk.1.2.2.2.2.2.1, ⟨hk.1.2.2.2.2.2.2.1, ⟨hk.1.2.2.2.2.2.2.2, hk.2⟩⟩⟩⟩⟩⟩⟩⟩)⟩, ⟨by (with_reducible repeat (first | apply Kd.R_alloc | apply Kd.R_drewN | apply Kd.R_drew)); exact Kd.R_mono HO420.out (fun _ hk => ⟨hk.1.2, hk.2⟩)⟩, ⟨by (with_reducible repeat (first | refine blk_drewN ?_ _ | refine blk_drew ?_ | refine blk_alloc ?_ _)); exact BK397.out⟩, ⟨by (with_reducible repeat (first | refine blk_drewN ?_ _ | refine blk_drew ?_ | refine blk_alloc ?_ _)); exact BK398.out⟩, ⟨by (with_reducible repeat (first | refine blk_drewN ?_ _ | refine blk_drew ?_ | refine blk_alloc ?_ _)); exact BK411.out⟩, ⟨by (with_reducible repeat (first | refine blk_drewN ?_ _ | refine blk_drew ?_ | refine blk_alloc ?_ _)); exact BK422.out⟩, ⟨by repeat (first | (with_reducible first | exact HB.out | apply below_alloc | apply pw_below_drewN | apply below_drew1 | refine below_set ?_ GE397.out | refine below_set ?_ GE398.out | refine below_set ?_ GE411.out | refine below_set ?_ GE422.out) | exact HB.out)⟩⟩
    · rw [if_neg c57] at H
      have c57b0 : (t424 != (decide (t425 ≥ 0))) = false := by simpa using c57
      (try (have c57b1 : decide (t424 = (decide (t425 ≥ 0))) = true := by simpa using c57))
      (try (have c57b2 : (t424 == (decide (t425 ≥ 0))) = true := by simpa using c57))
      clear c57
      (first | rw [c57b0] | (simp only [i64_w, i32_w]; rw [c57b0]) | skip)
      by_cases c58 : t424 = true
      · subst c58
        have H1 : (if 0 ≤ t425 then (if t425 < (l0_0.length : Int) then (if t423 = ((rd_T77 l0_0 t425).f1) then (newsreellaw10_DirTells.j1 kj3 a2 t410 t421 false l0_0 l0_1 l0_2 a1_0 a1_1 a1_2 a1_3 t401 t404 t407 t412 t415 t418) else (newsreellaw10_DirTells.j1 kj3 a2 t410 t421 true l0_0 l0_1 l0_2 a1_0 a1_1 a1_2 a1_3 t401 t404 t407 t412 t415 t418)) else (none)) else (none)) = some r := by rw [if_pos rfl] at H; exact H
        clear H
        have H := H1
        clear H1
        by_cases c59 : 0 ≤ t425
        · rw [if_pos c59] at H
          have c59b0 : decide (0 ≤ t425) = true := decide_eq_true c59
          clear c59
          by_cases c60 : t425 < (l0_0.length : Int)
          · rw [if_pos c60] at H
            have c60b0 : decide (t425 < (l0_0.length : Int)) = true := decide_eq_true c60
            clear c60
            by_cases c61 : t423 = ((rd_T77 l0_0 t425).f1)
            · rw [if_pos c61] at H
              have c61b0 : (t423 == ((rd_T77 l0_0 t425).f1)) = true := beq_iff_eq.mpr c61
              have c61b1 : (t423 != ((rd_T77 l0_0 t425).f1)) = false := bne_eq_false_iff_eq.mpr c61
              clear c61
              as_aux_lemma =>
                have H' := Aside0.mk H
                clear H
                have hnb62 := NB397_398.out
                have hnc62 := NB398_397.out
                have hnb63 := NB397_411.out
                have hnc63 := NB411_397.out
                have hnb64 := NB397_422.out
                have hnc64 := NB422_397.out
                have hcz65_0 := bc BK397.out 0 (.slice A0_0 l0_0.length c0_0) rfl
                have hcz65_1 := bc BK397.out 1 (.slice A0_1 l0_1.length c0_1) rfl
                have hcz65_2 := bc BK397.out 2 (.slice A0_2 l0_2.length c0_2) rfl
                have hfz65_0 := blk_frozen BK397.out 0
                have hfz65_1 := blk_frozen BK397.out 1
                have hfz65_2 := blk_frozen BK397.out 2
                have p426 : 0 ≤ (t425 : Int) := of_decide_eq_true (by first | (with_reducible assumption) | assumption)
                have q426 : t425 < (l0_0.length : Int) := of_decide_eq_true (by first | (with_reducible assumption) | assumption)
                obtain ⟨ad426, e426, hx426_0, hx426_1⟩ := at_T77 HR0_0.out t425 p426 q426
                cases e426
                replace hx426_0 := (HB.out.cell (World.block_lt_of_cell? w _ hx426_0)).trans hx426_0
                replace hx426_1 := (HB.out.cell (World.block_lt_of_cell? w _ hx426_1)).trans hx426_1
                replace p426 := eq_true p426
                replace q426 := eq_true q426
                go_wp2_with (first | ((with_reducible refine gate_load (t := 69) rfl ?_); refine load_row3 (t := 69) (g := gb398) ?hg BK398.out ?ho ?hb Try.underlying69 rfl ?hs ?_; (case hg => rfl); (case ho => refine ⟨_, rfl, ?_⟩; first | (with_reducible rfl) | (go_simp; done)); (case hb => (with_reducible repeat (first | refine blk_drewN ?_ _ | refine blk_drew ?_ | refine blk_alloc ?_ _)); with_reducible exact BK398.out); (case hs => kernel_rfl)))
                go_meet
                case rel => exact ⟨_, (false), (by first | rfl | (simp; done) | (simp [*]; done)), H', ⟨by have := HJ3.out; first | omega | exact Nat.le_refl _⟩, ⟨by (with_reducible repeat (first | apply Kd.R_alloc | apply Kd.R_drewN | apply Kd.R_drew)); exact HO403.out⟩, ⟨by (with_reducible repeat (first | apply Kd.R_alloc | apply Kd.R_drewN | apply Kd.R_drew)); exact HO406.out⟩, ⟨by (with_reducible repeat (first | apply Kd.R_alloc | apply Kd.R_drewN | apply Kd.R_drew)); exact Kd.R_mono HO409.out (fun _ hk => ⟨hk.2, hk.1⟩)⟩, ⟨by (with_reducible repeat (first | apply Kd.R_alloc | apply Kd.R_drewN | apply Kd.R_drew)); exact Kd.R_mono HO414.out (fun _ hk => ⟨hk.1.2, hk.2⟩)⟩, ⟨by (with_reducible repeat (first | apply Kd.V_alloc | apply Kd.V_drewN | apply Kd.V_drew)); exact Kd.V_mono HO417.out (fun _ hk => ⟨hk.1.2.2.1, ⟨hk.1.2.2.2.1, ⟨hk.1.2.2.2.2.1, ⟨hk.1.1, ⟨hk.1.2.1, ⟨hk.1.2.2.2.2.2.1, ⟨hk.1.2.2.2.2.2.2.1, ⟨hk.1.2.2.2.2.2.2.2, hk.2⟩⟩⟩⟩⟩⟩⟩⟩)⟩, ⟨by (with_reducible repeat (first | apply Kd.R_alloc | apply Kd.R_drewN | apply Kd.R_drew)); exact Kd.R_mono HO420.out (fun _ hk => ⟨hk.1.2, hk.2⟩)⟩, ⟨by (with_reducible repeat (first | refine blk_drewN ?_ _ | refine blk_drew ?_ | refine blk_alloc ?_ _)); exact BK397.out⟩, ⟨by (with_reducible repeat (first | refine blk_drewN ?_ _ | refine blk_drew ?_ | refine blk_alloc ?_ _)); exact BK398.out⟩, ⟨by (with_reducible repeat (first | refine blk_drewN ?_ _ | refine blk_drew ?_ | refine blk_alloc ?_ _)); exact BK411.out⟩, ⟨by (with_reducible repeat (first | refine blk_drewN ?_ _ | refine blk_drew ?_ | refine blk_alloc ?_ _)); exact BK422.out⟩, ⟨by repeat (first | (with_reducible first | exact HB.out | apply below_alloc | apply pw_below_drewN | apply below_drew1 | refine below_set ?_ GE397.out | refine below_set ?_ GE398.out | refine below_set ?_ GE411.out | refine below_set ?_ GE422.out) | exact HB.out)⟩⟩
            · rw [if_neg c61] at H
              have c61b0 : (t423 == ((rd_T77 l0_0 t425).f1)) = false := beq_eq_false_iff_ne.mpr c61
              have c61b1 : (t423 != ((rd_T77 l0_0 t425).f1)) = true := bne_iff_ne.mpr c61
              as_aux_lemma =>
                have H' := Aside0.mk H
                clear H
                have hnb66 := NB397_398.out
                have hnc66 := NB398_397.out
                have hnb67 := NB397_411.out
                have hnc67 := NB411_397.out
                have hnb68 := NB397_422.out
                have hnc68 := NB422_397.out
                have hcz69_0 := bc BK397.out 0 (.slice A0_0 l0_0.length c0_0) rfl
                have hcz69_1 := bc BK397.out 1 (.slice A0_1 l0_1.length c0_1) rfl
                have hcz69_2 := bc BK397.out 2 (.slice A0_2 l0_2.length c0_2) rfl
                have hfz69_0 := blk_frozen BK397.out 0
                have hfz69_1 := blk_frozen BK397.out 1
                have hfz69_2 := blk_frozen BK397.out 2
                have p426 : 0 ≤ (t425 : Int) := of_decide_eq_true (by first | (with_reducible assumption) | assumption)
                have q426 : t425 < (l0_0.length : Int) := of_decide_eq_true (by first | (with_reducible assumption) | assumption)
                obtain ⟨ad426, e426, hx426_0, hx426_1⟩ := at_T77 HR0_0.out t425 p426 q426
                cases e426
                replace hx426_0 := (HB.out.cell (World.block_lt_of_cell? w _ hx426_0)).trans hx426_0
                replace hx426_1 := (HB.out.cell (World.block_lt_of_cell? w _ hx426_1)).trans hx426_1
                replace p426 := eq_true p426
                replace q426 := eq_true q426
                go_wp2_with (first | ((with_reducible refine gate_load (t := 69) rfl ?_); refine load_row3 (t := 69) (g := gb398) ?hg BK398.out ?ho ?hb Try.underlying69 rfl ?hs ?_; (case hg => rfl); (case ho => refine ⟨_, rfl, ?_⟩; first | (with_reducible rfl) | (go_simp; done)); (case hb => (with_reducible repeat (first | refine blk_drewN ?_ _ | refine blk_drew ?_ | refine blk_alloc ?_ _)); with_reducible exact BK398.out); (case hs => kernel_rfl)))
                go_meet
                case rel => exact ⟨_, (true), (by first | rfl | (simp; done) | (simp [*]; done)), H', ⟨by have := HJ3.out; first | omega | exact Nat.le_refl _⟩, ⟨by (with_reducible repeat (first | apply Kd.R_alloc | apply Kd.R_drewN | apply Kd.R_drew)); exact HO403.out⟩, ⟨by (with_reducible repeat (first | apply Kd.R_alloc | apply Kd.R_drewN | apply Kd.R_drew)); exact HO406.out⟩, ⟨by (with_reducible repeat (first | apply Kd.R_alloc | apply Kd.R_drewN | apply Kd.R_drew)); exact Kd.R_mono HO409.out (fun _ hk => ⟨hk.2, hk.1⟩)⟩, ⟨by (with_reducible repeat (first | apply Kd.R_alloc | apply Kd.R_drewN | apply Kd.R_drew)); exact Kd.R_mono HO414.out (fun _ hk => ⟨hk.1.2, hk.2⟩)⟩, ⟨by (with_reducible repeat (first | apply Kd.V_alloc | apply Kd.V_drewN | apply Kd.V_drew)); exact Kd.V_mono HO417.out (fun _ hk => ⟨hk.1.2.2.1, ⟨hk.1.2.2.2.1, ⟨hk.1.2.2.2.2.1, ⟨hk.1.1, ⟨hk.1.2.1, ⟨hk.1.2.2.2.2.2.1, ⟨hk.1.2.2.2.2.2.2.1, ⟨hk.1.2.2.2.2.2.2.2, hk.2⟩⟩⟩⟩⟩⟩⟩⟩)⟩, ⟨by (with_reducible repeat (first | apply Kd.R_alloc | apply Kd.R_drewN | apply Kd.R_drew)); exact Kd.R_mono HO420.out (fun _ hk => ⟨hk.1.2, hk.2⟩)⟩, ⟨by (with_reducible repeat (first | refine blk_drewN ?_ _ | refine blk_drew ?_ | refine blk_alloc ?_ _)); exact BK397.out⟩, ⟨by (with_reducible repeat (first | refine blk_drewN ?_ _ | refine blk_drew ?_ | refine blk_alloc ?_ _)); exact BK398.out⟩, ⟨by (with_reducible repeat (first | refine blk_drewN ?_ _ | refine blk_drew ?_ | refine blk_alloc ?_ _)); exact BK411.out⟩, ⟨by (with_reducible repeat (first | refine blk_drewN ?_ _ | refine blk_drew ?_ | refine blk_alloc ?_ _)); exact BK422.out⟩, ⟨by repeat (first | (with_reducible first | exact HB.out | apply below_alloc | apply pw_below_drewN | apply below_drew1 | refine below_set ?_ GE397.out | refine below_set ?_ GE398.out | refine below_set ?_ GE411.out | refine below_set ?_ GE422.out) | exact HB.out)⟩⟩
          · rw [if_neg c60] at H
            exact absurd H (by simp)
        · rw [if_neg c59] at H
          exact absurd H (by simp)
      · replace c58 := Bool.eq_false_iff.mpr c58
        subst c58
        have H1 : (newsreellaw10_DirTells.j1 kj3 a2 t410 t421 (t423 != 0) l0_0 l0_1 l0_2 a1_0 a1_1 a1_2 a1_3 t401 t404 t407 t412 t415 t418) = some r := by rw [if_neg (show ¬ (false = true) by decide)] at H; exact H
        clear H
        have H := H1
        clear H1
        as_aux_lemma =>
          have H' := Aside0.mk H
          clear H
          go_wp2_with (first | ((with_reducible refine gate_load (t := 69) rfl ?_); refine load_row3 (t := 69) (g := gb398) ?hg BK398.out ?ho ?hb Try.underlying69 rfl ?hs ?_; (case hg => rfl); (case ho => refine ⟨_, rfl, ?_⟩; first | (with_reducible rfl) | (go_simp; done)); (case hb => (with_reducible repeat (first | refine blk_drewN ?_ _ | refine blk_drew ?_ | refine blk_alloc ?_ _)); with_reducible exact BK398.out); (case hs => kernel_rfl)))
          go_meet
          case rel => exact ⟨_, ((t423 != 0)), (by first | rfl | (simp; done) | (simp [*]; done)), H', ⟨by have := HJ3.out; first | omega | exact Nat.le_refl _⟩, ⟨by (with_reducible repeat (first | apply Kd.R_alloc | apply Kd.R_drewN | apply Kd.R_drew)); exact HO403.out⟩, ⟨by (with_reducible repeat (first | apply Kd.R_alloc | apply Kd.R_drewN | apply Kd.R_drew)); exact HO406.out⟩, ⟨by (with_reducible repeat (first | apply Kd.R_alloc | apply Kd.R_drewN | apply Kd.R_drew)); exact Kd.R_mono HO409.out (fun _ hk => ⟨hk.2, hk.1⟩)⟩, ⟨by (with_reducible repeat (first | apply Kd.R_alloc | apply Kd.R_drewN | apply Kd.R_drew)); exact Kd.R_mono HO414.out (fun _ hk => ⟨hk.1.2, hk.2⟩)⟩, ⟨by (with_reducible repeat (first | apply Kd.V_alloc | apply Kd.V_drewN | apply Kd.V_drew)); exact Kd.V_mono HO417.out (fun _ hk => ⟨hk.1.2.2.1, ⟨hk.1.2.2.2.1, ⟨hk.1.2.2.2.2.1, ⟨hk.1.1, ⟨hk.1.2.1, ⟨hk.1.2.2.2.2.2.1, ⟨hk.1.2.2.2.2.2.2.1, ⟨hk.1.2.2.2.2.2.2.2, hk.2⟩⟩⟩⟩⟩⟩⟩⟩)⟩, ⟨by (with_reducible repeat (first | apply Kd.R_alloc | apply Kd.R_drewN | apply Kd.R_drew)); exact Kd.R_mono HO420.out (fun _ hk => ⟨hk.1.2, hk.2⟩)⟩, ⟨by (with_reducible repeat (first | refine blk_drewN ?_ _ | refine blk_drew ?_ | refine blk_alloc ?_ _)); exact BK397.out⟩, ⟨by (with_reducible repeat (first | refine blk_drewN ?_ _ | refine blk_drew ?_ | refine blk_alloc ?_ _)); exact BK398.out⟩, ⟨by (with_reducible repeat (first | refine blk_drewN ?_ _ | refine blk_drew ?_ | refine blk_alloc ?_ _)); exact BK411.out⟩, ⟨by (with_reducible repeat (first | refine blk_drewN ?_ _ | refine blk_drew ?_ | refine blk_alloc ?_ _)); exact BK422.out⟩, ⟨by repeat (first | (with_reducible first | exact HB.out | apply below_alloc | apply pw_below_drewN | apply below_drew1 | refine below_set ?_ GE397.out | refine below_set ?_ GE398.out | refine below_set ?_ GE411.out | refine below_set ?_ GE422.out) | exact HB.out)⟩⟩
  clear HC28
  try clear c1
  try clear c2
  try clear p2
  try clear c3
  try clear c4
  try clear p4
  try clear q4
  try clear hx4
  try clear c5
  try clear c6
  try clear c8
  try clear c9
  try clear c9b0
  try clear c9b1
  try clear c10
  try clear c14
  try clear c18
  try clear c21
  try clear c29
  try clear c35
  try clear c36
  try clear c40
  try clear c41
  try clear c42
  try clear p42
  try clear q42
  try clear hx42
  try clear c43
  try clear c44
  try clear c45
  try clear c46
  try clear c47
  try clear c48
  try clear c57
  try clear c57b0
  try clear c57b1
  try clear c57b2
  try clear c58
  try clear c59
  try clear c59b0
  try clear c60
  try clear c60b0
  try clear c61
  try clear c61b0
  try clear c61b1
  try clear c62
  try clear c63
  try clear c64
  try clear c66
  try clear c67
  try clear c68
  try clear hcz11_0
  try clear hcz11_1
  try clear hcz11_2
  try clear hcz13_0
  try clear hcz13_1
  try clear hcz13_2
  try clear hcz13_3
  try clear hcz15_0
  try clear hcz15_1
  try clear hcz15_2
  try clear hcz17_0
  try clear hcz17_1
  try clear hcz17_2
  try clear hcz17_3
  try clear hcz19_0
  try clear hcz19_1
  try clear hcz19_2
  try clear hcz30_0
  try clear hcz30_1
  try clear hcz30_2
  try clear hcz31_0
  try clear hcz31_1
  try clear hcz31_2
  try clear hcz31_3
  try clear hcz37_0
  try clear hcz37_1
  try clear hcz37_2
  try clear hcz41_0
  try clear hcz41_1
  try clear hcz41_2
  try clear hcz42_0
  try clear hcz42_1
  try clear hcz42_2
  try clear hcz42_3
  try clear hcz49_0
  try clear hcz49_1
  try clear hcz49_2
  try clear hcz52_0
  try clear hcz52_1
  try clear hcz52_2
  try clear hcz53_0
  try clear hcz53_1
  try clear hcz53_2
  try clear hcz53_3
  try clear hcz55_0
  try clear hcz55_1
  try clear hcz55_2
  try clear hcz56_0
  try clear hcz56_1
  try clear hcz56_2
  try clear hcz56_3
  try clear hcz65_0
  try clear hcz65_1
  try clear hcz65_2
  try clear hcz69_0
  try clear hcz69_1
  try clear hcz69_2
  try clear hfz11_0
  try clear hfz11_1
  try clear hfz11_2
  try clear hfz13_0
  try clear hfz13_1
  try clear hfz13_2
  try clear hfz13_3
  try clear hfz15_0
  try clear hfz15_1
  try clear hfz15_2
  try clear hfz17_0
  try clear hfz17_1
  try clear hfz17_2
  try clear hfz17_3
  try clear hfz19_0
  try clear hfz19_1
  try clear hfz19_2
  try clear hfz30_0
  try clear hfz30_1
  try clear hfz30_2
  try clear hfz31_0
  try clear hfz31_1
  try clear hfz31_2
  try clear hfz31_3
  try clear hfz37_0
  try clear hfz37_1
  try clear hfz37_2
  try clear hfz41_0
  try clear hfz41_1
  try clear hfz41_2
  try clear hfz42_0
  try clear hfz42_1
  try clear hfz42_2
  try clear hfz42_3
  try clear hfz49_0
  try clear hfz49_1
  try clear hfz49_2
  try clear hfz52_0
  try clear hfz52_1
  try clear hfz52_2
  try clear hfz53_0
  try clear hfz53_1
  try clear hfz53_2
  try clear hfz53_3
  try clear hfz55_0
  try clear hfz55_1
  try clear hfz55_2
  try clear hfz56_0
  try clear hfz56_1
  try clear hfz56_2
  try clear hfz56_3
  try clear hfz65_0
  try clear hfz65_1
  try clear hfz65_2
  try clear hfz69_0
  try clear hfz69_1
  try clear hfz69_2
  try clear hx426_0
  try clear hx426_1
  try clear p2
  try clear p426
  try clear q426
  obtain ⟨kq, x78_27, rfl, HA, HJ27, HO_412000, HO_412001, HO_412002, HO_423000, HO_423001, HO_423002, BK397, BK398, BK411, BK422, HB⟩ := hcut
  rcases kq with _ | kj27
  · exact absurd HA.out (by simp [newsreellaw10_DirTells.j1])
  have H := HA.out
  clear HA
  simp only [newsreellaw10_DirTells.j1] at H
  by_cases c70 : x78_27 = true
  · subst c70
    have H1 : (some false) = some r := by rw [if_pos rfl] at H; exact H
    clear H
    have H := H1
    clear H1
    as_aux_lemma =>
      cases (Option.some.inj H).trans ht_
  replace c70 := Bool.eq_false_iff.mpr c70
  subst c70
  have H1 : ((dir_Name.f kj27 a1_1).bind fun t427 => ((newsreelref10_Name.f kj27 a1_1).bind fun t428 => (if (t427 == t428) = true then ((dir_Right.f kj27 l0_0 l0_1 l0_2).bind fun t429 => ((newsreelref10_Right.f kj27 l0_0 l0_1 l0_2).bind fun t430 => (if (t429 == t430) = true then ((newsreelref10_Same.f kj27 t401 t404 t407 t412 t415 t418).bind fun t431 => (if t431 = true then (if t410 = t421 then ((dir_Sync.f kj27 l0_0 l0_1 l0_2).bind fun bt432 => ((newsreelref10_Sync.f kj27 l0_0 l0_1 l0_2).bind fun bt441 => ((newsreelref10_Same.f kj27 bt432.1 bt432.2.1 bt432.2.2 bt441.1 bt441.2.1 bt441.2.2).bind fun t450 => (if t450 = true then ((dir_Crash.f kj27 l0_0 l0_1 l0_2 a2).bind fun bt451 => ((newsreelref10_Crash.f kj27 l0_0 l0_1 l0_2 a2).bind fun bt460 => ((newsreelref10_Same.f kj27 bt451.1 bt451.2.1 bt451.2.2 bt460.1 bt460.2.1 bt460.2.2).bind fun t469 => (if t469 = true then ((newsreellaw10_awake.f kj27).bind fun t470 => (some t470)) else (some false))))) else (some false))))) else (some false)) else (some false))) else (some false)))) else (some false)))) = some r := by rw [if_neg (show ¬ (false = true) by decide)] at H; exact H
  clear H
  have H := H1
  clear H1
  replace H := Option.bind_eq_some_iff.mp H
  obtain ⟨t427, A710, H⟩ := H
  replace H : ((newsreelref10_Name.f kj27 a1_1).bind fun t428 => (if (t427 == t428) = true then ((dir_Right.f kj27 l0_0 l0_1 l0_2).bind fun t429 => ((newsreelref10_Right.f kj27 l0_0 l0_1 l0_2).bind fun t430 => (if (t429 == t430) = true then ((newsreelref10_Same.f kj27 t401 t404 t407 t412 t415 t418).bind fun t431 => (if t431 = true then (if t410 = t421 then ((dir_Sync.f kj27 l0_0 l0_1 l0_2).bind fun bt432 => ((newsreelref10_Sync.f kj27 l0_0 l0_1 l0_2).bind fun bt441 => ((newsreelref10_Same.f kj27 bt432.1 bt432.2.1 bt432.2.2 bt441.1 bt441.2.1 bt441.2.2).bind fun t450 => (if t450 = true then ((dir_Crash.f kj27 l0_0 l0_1 l0_2 a2).bind fun bt451 => ((newsreelref10_Crash.f kj27 l0_0 l0_1 l0_2 a2).bind fun bt460 => ((newsreelref10_Same.f kj27 bt451.1 bt451.2.1 bt451.2.2 bt460.1 bt460.2.1 bt460.2.2).bind fun t469 => (if t469 = true then ((newsreellaw10_awake.f kj27).bind fun t470 => (some t470)) else (some false))))) else (some false))))) else (some false)) else (some false))) else (some false)))) else (some false))) = some r := H
  have A71 := Aside0.mk A710
  clear A710
  replace H := Option.bind_eq_some_iff.mp H
  obtain ⟨t428, A720, H⟩ := H
  replace H : (if (t427 == t428) = true then ((dir_Right.f kj27 l0_0 l0_1 l0_2).bind fun t429 => ((newsreelref10_Right.f kj27 l0_0 l0_1 l0_2).bind fun t430 => (if (t429 == t430) = true then ((newsreelref10_Same.f kj27 t401 t404 t407 t412 t415 t418).bind fun t431 => (if t431 = true then (if t410 = t421 then ((dir_Sync.f kj27 l0_0 l0_1 l0_2).bind fun bt432 => ((newsreelref10_Sync.f kj27 l0_0 l0_1 l0_2).bind fun bt441 => ((newsreelref10_Same.f kj27 bt432.1 bt432.2.1 bt432.2.2 bt441.1 bt441.2.1 bt441.2.2).bind fun t450 => (if t450 = true then ((dir_Crash.f kj27 l0_0 l0_1 l0_2 a2).bind fun bt451 => ((newsreelref10_Crash.f kj27 l0_0 l0_1 l0_2 a2).bind fun bt460 => ((newsreelref10_Same.f kj27 bt451.1 bt451.2.1 bt451.2.2 bt460.1 bt460.2.1 bt460.2.2).bind fun t469 => (if t469 = true then ((newsreellaw10_awake.f kj27).bind fun t470 => (some t470)) else (some false))))) else (some false))))) else (some false)) else (some false))) else (some false)))) else (some false)) = some r := H
  have A72 := Aside0.mk A720
  clear A720
  by_cases c73 : (t427 == t428) = true
  rotate_left
  · rw [if_neg c73] at H
    have c73b0 : (t427 == t428) = false := by simpa using c73
    (try (have c73b1 : decide (t427 = t428) = false := by simpa using c73))
    (try (have c73b2 : (t427 == t428) = false := by simpa using c73))
    (try (have c73b3 : ¬ (t427 = t428) := by simpa using c73))
    clear c73
    as_aux_lemma =>
      cases (Option.some.inj H).trans ht_
  rw [if_pos c73] at H
  have c73b0 : (t427 == t428) = true := c73
  (try (have c73b1 : decide (t427 = t428) = true := by simpa using c73))
  (try (have c73b2 : (t427 == t428) = true := by simpa using c73))
  clear c73
  replace H := Option.bind_eq_some_iff.mp H
  obtain ⟨t429, A740, H⟩ := H
  replace H : ((newsreelref10_Right.f kj27 l0_0 l0_1 l0_2).bind fun t430 => (if (t429 == t430) = true then ((newsreelref10_Same.f kj27 t401 t404 t407 t412 t415 t418).bind fun t431 => (if t431 = true then (if t410 = t421 then ((dir_Sync.f kj27 l0_0 l0_1 l0_2).bind fun bt432 => ((newsreelref10_Sync.f kj27 l0_0 l0_1 l0_2).bind fun bt441 => ((newsreelref10_Same.f kj27 bt432.1 bt432.2.1 bt432.2.2 bt441.1 bt441.2.1 bt441.2.2).bind fun t450 => (if t450 = true then ((dir_Crash.f kj27 l0_0 l0_1 l0_2 a2).bind fun bt451 => ((newsreelref10_Crash.f kj27 l0_0 l0_1 l0_2 a2).bind fun bt460 => ((newsreelref10_Same.f kj27 bt451.1 bt451.2.1 bt451.2.2 bt460.1 bt460.2.1 bt460.2.2).bind fun t469 => (if t469 = true then ((newsreellaw10_awake.f kj27).bind fun t470 => (some t470)) else (some false))))) else (some false))))) else (some false)) else (some false))) else (some false))) = some r := H
  have A74 := Aside0.mk A740
  clear A740
  replace H := Option.bind_eq_some_iff.mp H
  obtain ⟨t430, A750, H⟩ := H
  replace H : (if (t429 == t430) = true then ((newsreelref10_Same.f kj27 t401 t404 t407 t412 t415 t418).bind fun t431 => (if t431 = true then (if t410 = t421 then ((dir_Sync.f kj27 l0_0 l0_1 l0_2).bind fun bt432 => ((newsreelref10_Sync.f kj27 l0_0 l0_1 l0_2).bind fun bt441 => ((newsreelref10_Same.f kj27 bt432.1 bt432.2.1 bt432.2.2 bt441.1 bt441.2.1 bt441.2.2).bind fun t450 => (if t450 = true then ((dir_Crash.f kj27 l0_0 l0_1 l0_2 a2).bind fun bt451 => ((newsreelref10_Crash.f kj27 l0_0 l0_1 l0_2 a2).bind fun bt460 => ((newsreelref10_Same.f kj27 bt451.1 bt451.2.1 bt451.2.2 bt460.1 bt460.2.1 bt460.2.2).bind fun t469 => (if t469 = true then ((newsreellaw10_awake.f kj27).bind fun t470 => (some t470)) else (some false))))) else (some false))))) else (some false)) else (some false))) else (some false)) = some r := H
  have A75 := Aside0.mk A750
  clear A750
  by_cases c76 : (t429 == t430) = true
  rotate_left
  · rw [if_neg c76] at H
    have c76b0 : (t429 == t430) = false := by simpa using c76
    (try (have c76b1 : decide (t429 = t430) = false := by simpa using c76))
    (try (have c76b2 : (t429 == t430) = false := by simpa using c76))
    (try (have c76b3 : ¬ (t429 = t430) := by simpa using c76))
    clear c76
    as_aux_lemma =>
      cases (Option.some.inj H).trans ht_
  rw [if_pos c76] at H
  have c76b0 : (t429 == t430) = true := c76
  (try (have c76b1 : decide (t429 = t430) = true := by simpa using c76))
  (try (have c76b2 : (t429 == t430) = true := by simpa using c76))
  clear c76
  replace H := Option.bind_eq_some_iff.mp H
  obtain ⟨t431, A770, H⟩ := H
  replace H : (if t431 = true then (if t410 = t421 then ((dir_Sync.f kj27 l0_0 l0_1 l0_2).bind fun bt432 => ((newsreelref10_Sync.f kj27 l0_0 l0_1 l0_2).bind fun bt441 => ((newsreelref10_Same.f kj27 bt432.1 bt432.2.1 bt432.2.2 bt441.1 bt441.2.1 bt441.2.2).bind fun t450 => (if t450 = true then ((dir_Crash.f kj27 l0_0 l0_1 l0_2 a2).bind fun bt451 => ((newsreelref10_Crash.f kj27 l0_0 l0_1 l0_2 a2).bind fun bt460 => ((newsreelref10_Same.f kj27 bt451.1 bt451.2.1 bt451.2.2 bt460.1 bt460.2.1 bt460.2.2).bind fun t469 => (if t469 = true then ((newsreellaw10_awake.f kj27).bind fun t470 => (some t470)) else (some false))))) else (some false))))) else (some false)) else (some false)) = some r := H
  have A77 := Aside0.mk A770
  clear A770
  by_cases c78 : t431 = true
  rotate_left
  · replace c78 := Bool.eq_false_iff.mpr c78
    subst c78
    have H1 : (some false) = some r := by rw [if_neg (show ¬ (false = true) by decide)] at H; exact H
    clear H
    have H := H1
    clear H1
    as_aux_lemma =>
      cases (Option.some.inj H).trans ht_
  subst c78
  have H1 : (if t410 = t421 then ((dir_Sync.f kj27 l0_0 l0_1 l0_2).bind fun bt432 => ((newsreelref10_Sync.f kj27 l0_0 l0_1 l0_2).bind fun bt441 => ((newsreelref10_Same.f kj27 bt432.1 bt432.2.1 bt432.2.2 bt441.1 bt441.2.1 bt441.2.2).bind fun t450 => (if t450 = true then ((dir_Crash.f kj27 l0_0 l0_1 l0_2 a2).bind fun bt451 => ((newsreelref10_Crash.f kj27 l0_0 l0_1 l0_2 a2).bind fun bt460 => ((newsreelref10_Same.f kj27 bt451.1 bt451.2.1 bt451.2.2 bt460.1 bt460.2.1 bt460.2.2).bind fun t469 => (if t469 = true then ((newsreellaw10_awake.f kj27).bind fun t470 => (some t470)) else (some false))))) else (some false))))) else (some false)) = some r := by rw [if_pos rfl] at H; exact H
  clear H
  have H := H1
  clear H1
  by_cases c79 : t410 = t421
  rotate_left
  · rw [if_neg c79] at H
    have c79b0 : (t410 == t421) = false := beq_eq_false_iff_ne.mpr c79
    have c79b1 : (t410 != t421) = true := bne_iff_ne.mpr c79
    as_aux_lemma =>
      cases (Option.some.inj H).trans ht_
  rw [if_pos c79] at H
  have c79b0 : (t410 == t421) = true := beq_iff_eq.mpr c79
  have c79b1 : (t410 != t421) = false := bne_eq_false_iff_eq.mpr c79
  clear c79
  replace H := Option.bind_eq_some_iff.mp H
  obtain ⟨⟨t432, t435, t438⟩, A800, H⟩ := H
  replace H : ((newsreelref10_Sync.f kj27 l0_0 l0_1 l0_2).bind fun bt441 => ((newsreelref10_Same.f kj27 t432 t435 t438 bt441.1 bt441.2.1 bt441.2.2).bind fun t450 => (if t450 = true then ((dir_Crash.f kj27 l0_0 l0_1 l0_2 a2).bind fun bt451 => ((newsreelref10_Crash.f kj27 l0_0 l0_1 l0_2 a2).bind fun bt460 => ((newsreelref10_Same.f kj27 bt451.1 bt451.2.1 bt451.2.2 bt460.1 bt460.2.1 bt460.2.2).bind fun t469 => (if t469 = true then ((newsreellaw10_awake.f kj27).bind fun t470 => (some t470)) else (some false))))) else (some false)))) = some r := H
  have A80 := Aside0.mk A800
  clear A800
  replace H := Option.bind_eq_some_iff.mp H
  obtain ⟨⟨t441, t444, t447⟩, A810, H⟩ := H
  replace H : ((newsreelref10_Same.f kj27 t432 t435 t438 t441 t444 t447).bind fun t450 => (if t450 = true then ((dir_Crash.f kj27 l0_0 l0_1 l0_2 a2).bind fun bt451 => ((newsreelref10_Crash.f kj27 l0_0 l0_1 l0_2 a2).bind fun bt460 => ((newsreelref10_Same.f kj27 bt451.1 bt451.2.1 bt451.2.2 bt460.1 bt460.2.1 bt460.2.2).bind fun t469 => (if t469 = true then ((newsreellaw10_awake.f kj27).bind fun t470 => (some t470)) else (some false))))) else (some false))) = some r := H
  have A81 := Aside0.mk A810
  clear A810
  replace H := Option.bind_eq_some_iff.mp H
  obtain ⟨t450, A820, H⟩ := H
  replace H : (if t450 = true then ((dir_Crash.f kj27 l0_0 l0_1 l0_2 a2).bind fun bt451 => ((newsreelref10_Crash.f kj27 l0_0 l0_1 l0_2 a2).bind fun bt460 => ((newsreelref10_Same.f kj27 bt451.1 bt451.2.1 bt451.2.2 bt460.1 bt460.2.1 bt460.2.2).bind fun t469 => (if t469 = true then ((newsreellaw10_awake.f kj27).bind fun t470 => (some t470)) else (some false))))) else (some false)) = some r := H
  have A82 := Aside0.mk A820
  clear A820
  by_cases c83 : t450 = true
  rotate_left
  · replace c83 := Bool.eq_false_iff.mpr c83
    subst c83
    have H1 : (some false) = some r := by rw [if_neg (show ¬ (false = true) by decide)] at H; exact H
    clear H
    have H := H1
    clear H1
    as_aux_lemma =>
      cases (Option.some.inj H).trans ht_
  subst c83
  have H1 : ((dir_Crash.f kj27 l0_0 l0_1 l0_2 a2).bind fun bt451 => ((newsreelref10_Crash.f kj27 l0_0 l0_1 l0_2 a2).bind fun bt460 => ((newsreelref10_Same.f kj27 bt451.1 bt451.2.1 bt451.2.2 bt460.1 bt460.2.1 bt460.2.2).bind fun t469 => (if t469 = true then ((newsreellaw10_awake.f kj27).bind fun t470 => (some t470)) else (some false))))) = some r := by rw [if_pos rfl] at H; exact H
  clear H
  have H := H1
  clear H1
  replace H := Option.bind_eq_some_iff.mp H
  obtain ⟨⟨t451, t454, t457⟩, A840, H⟩ := H
  replace H : ((newsreelref10_Crash.f kj27 l0_0 l0_1 l0_2 a2).bind fun bt460 => ((newsreelref10_Same.f kj27 t451 t454 t457 bt460.1 bt460.2.1 bt460.2.2).bind fun t469 => (if t469 = true then ((newsreellaw10_awake.f kj27).bind fun t470 => (some t470)) else (some false)))) = some r := H
  have A84 := Aside0.mk A840
  clear A840
  replace H := Option.bind_eq_some_iff.mp H
  obtain ⟨⟨t460, t463, t466⟩, A850, H⟩ := H
  replace H : ((newsreelref10_Same.f kj27 t451 t454 t457 t460 t463 t466).bind fun t469 => (if t469 = true then ((newsreellaw10_awake.f kj27).bind fun t470 => (some t470)) else (some false))) = some r := H
  have A85 := Aside0.mk A850
  clear A850
  replace H := Option.bind_eq_some_iff.mp H
  obtain ⟨t469, A860, H⟩ := H
  replace H : (if t469 = true then ((newsreellaw10_awake.f kj27).bind fun t470 => (some t470)) else (some false)) = some r := H
  have A86 := Aside0.mk A860
  clear A860
  by_cases c87 : t469 = true
  rotate_left
  · replace c87 := Bool.eq_false_iff.mpr c87
    subst c87
    have H1 : (some false) = some r := by rw [if_neg (show ¬ (false = true) by decide)] at H; exact H
    clear H
    have H := H1
    clear H1
    as_aux_lemma =>
      cases (Option.some.inj H).trans ht_
  subst c87
  have H1 : ((newsreellaw10_awake.f kj27).bind fun t470 => (some t470)) = some r := by rw [if_pos rfl] at H; exact H
  clear H
  have H := H1
  clear H1
  replace H := Option.bind_eq_some_iff.mp H
  obtain ⟨t470, A880, H⟩ := H
  replace H : (some t470) = some r := H
  have A88 := Aside0.mk A880
  clear A880
  as_aux_lemma =>
    obtain rfl := Option.some.inj H
    try go_wp2_with (first | ((with_reducible refine gate_load (t := 69) rfl ?_); refine load_row3 (t := 69) (g := gb398) ?hg BK398.out ?ho ?hb Try.underlying69 rfl ?hs ?_; (case hg => rfl); (case ho => refine ⟨_, rfl, ?_⟩; first | (with_reducible rfl) | (go_simp; done)); (case hb => (with_reducible repeat (first | refine blk_drewN ?_ _ | refine blk_drew ?_ | refine blk_alloc ?_ _)); with_reducible exact BK398.out); (case hs => kernel_rfl)))
    have n0_ := Aside0.mk (Kd.R_drew HO_412000.out)
    have n1_ := Aside0.mk (Kd.R_drew HO_412001.out)
    have n2_ := Aside0.mk (Kd.R_drew HO_412002.out)
    have n3_ := Aside0.mk (Kd.R_drew HO_423000.out)
    have n4_ := Aside0.mk (Kd.V_drew HO_423001.out)
    have n5_ := Aside0.mk (Kd.R_drew HO_423002.out)
    have n6_ := Aside0.mk (blk_drew BK397.out)
    have n7_ := Aside0.mk (blk_drew BK398.out)
    have n8_ := Aside0.mk (blk_drew BK411.out)
    have n9_ := Aside0.mk (blk_drew BK422.out)
    try (have HBd_ := Aside0.mk (below_drew1 (pw_below_drewN HB.out nd)))
    have n10_ := Aside0.mk (below_drew1 HB.out)
    clear HO_412000
    clear HO_412001
    clear HO_412002
    clear HO_423000
    clear HO_423001
    clear HO_423002
    clear BK397
    clear BK398
    clear BK411
    clear BK422
    clear HB
    have HO_412000 := n0_
    have HO_412001 := n1_
    have HO_412002 := n2_
    have HO_423000 := n3_
    have HO_423001 := n4_
    have HO_423002 := n5_
    have BK397 := n6_
    have BK398 := n7_
    have BK411 := n8_
    have BK422 := n9_
    have HB := n10_
    clear n0_ n1_ n2_ n3_ n4_ n5_ n6_ n7_ n8_ n9_ n10_
    refine start_ (n := 44) (S := fun w' => w'.cell? ⟨gb398, 0, none⟩ = some (.int .i64 a1_0) ∧ w'.cell? ⟨gb398, 1, none⟩ = some (.string a1_1) ∧ w'.cell? ⟨gb398, 2, none⟩ = some (.string a1_2) ∧ w'.cell? ⟨gb398, 3, none⟩ = some (.int .i64 a1_3) ∧ w'.cell? ⟨gb397, 0, none⟩ = some (.slice A0_0 l0_0.length c0_0) ∧ w'.cell? ⟨gb397, 1, none⟩ = some (.slice A0_1 l0_1.length c0_1) ∧ w'.cell? ⟨gb397, 2, none⟩ = some (.slice A0_2 l0_2.length c0_2) ∧ w'.cell? ⟨gb411, 0, none⟩ = some (.slice Ao34 t401.length co34) ∧ w'.cell? ⟨gb411, 1, none⟩ = some (.slice Ao38 t404.length co38) ∧ w'.cell? ⟨gb411, 2, none⟩ = some (.slice Ao39 t407.length co39) ∧ w'.cell? ⟨gb422, 0, none⟩ = some (.slice Ao45 t412.length co45) ∧ w'.cell? ⟨gb422, 1, none⟩ = some (.slice Ao50 t415.length co50) ∧ w'.cell? ⟨gb422, 2, none⟩ = some (.slice Ao51 t418.length co51)) (ds := []) #[false, false, false, false, false, false, false, false, false, false, false, false, false, false, false, false, false, false, false, false, false, false, false, false, false, false, false, false, false, false, false, false, false, false, false, false, false, false, false, false, false, false, false, false] (by kernel_rfl) rfl rfl ⟨(blk_cell BK398.out 0).trans rfl, (blk_cell BK398.out 1).trans rfl, (blk_cell BK398.out 2).trans rfl, (blk_cell BK398.out 3).trans rfl, (blk_cell BK397.out 0).trans rfl, (blk_cell BK397.out 1).trans rfl, (blk_cell BK397.out 2).trans rfl, (blk_cell BK411.out 0).trans rfl, (blk_cell BK411.out 1).trans rfl, (blk_cell BK411.out 2).trans rfl, (blk_cell BK422.out 0).trans rfl, (blk_cell BK422.out 1).trans rfl, (blk_cell BK422.out 2).trans rfl⟩ (fun hHeld => ?_); refine with_tabW newsreellaw10_DirTells.tab9 newsreellaw10_DirTells.bits9 (fun HT_ HW_ => ?_)
    generalize wc.drew = w89 at HO_412000 HO_412001 HO_412002 HO_423000 HO_423001 HO_423002 BK397 BK398 BK411 BK422 HB hHeld ⊢
    refine pure_ (i := 0) (N := some 79) (v := ?_) (a' := ?_) #[true, false, false, false, false, false, false, false, false, false, false, false, false, false, false, false, false, false, false, false, false, false, false, false, false, false, false, false, false, false, false, false, false, false, false, false, false, false, false, false, false, false, false, false] rfl rfl (any_of HT_.out (by kernel_rfl)) (fun _ _ _ h => h) (Or.inl ⟨by rfl, ?_⟩) ?_ ?_
    rotate_left
    · intro w'
      go_simp
      with_reducible rfl
    rotate_left
    · simp only [Act.put, List.setIfInBounds_toArray, List.set_cons_zero, List.set_cons_succ, i64_w, i32_w]
      rfl
    refine pure_ (i := 3) (N := some 82) (v := ?_) (a' := ?_) #[true, false, false, true, false, false, false, false, false, false, false, false, false, false, false, false, false, false, false, false, false, false, false, false, false, false, false, false, false, false, false, false, false, false, false, false, false, false, false, false, false, false, false, false] rfl rfl (any_of HT_.out (by kernel_rfl)) (fun _ _ _ h => h) (Or.inl ⟨by rfl, ?_⟩) ?_ ?_
    rotate_left
    · intro w'
      go_simp
      with_reducible rfl
    rotate_left
    · simp only [Act.put, List.setIfInBounds_toArray, List.set_cons_zero, List.set_cons_succ, i64_w, i32_w]
      rfl
    refine take_ (i := 1) (N := some 80) (v := ?_) (a' := ?_) #[true, true, false, true, false, false, false, false, false, false, false, false, false, false, false, false, false, false, false, false, false, false, false, false, false, false, false, false, false, false, false, false, false, false, false, false, false, false, false, false, false, false, false, false] rfl rfl (take_ofW HT_.out HW_.out (by kernel_rfl)) (fun _ _ _ h => h) (Or.inl ⟨by rfl, ?_⟩) hHeld ?_ ?_
    rotate_left
    · rintro w' ⟨s0, s1, s2, s3, s4, s5, s6, s7, s8, s9, s10, s11, s12⟩
      go_simp
      with_reducible rfl
    rotate_left
    · simp only [Act.put, List.setIfInBounds_toArray, List.set_cons_zero, List.set_cons_succ, i64_w, i32_w]
      rfl
    refine take_ (i := 4) (N := some 83) (v := ?_) (a' := ?_) #[true, true, false, true, true, false, false, false, false, false, false, false, false, false, false, false, false, false, false, false, false, false, false, false, false, false, false, false, false, false, false, false, false, false, false, false, false, false, false, false, false, false, false, false] rfl rfl (take_ofW HT_.out HW_.out (by kernel_rfl)) (fun _ _ _ h => h) (Or.inl ⟨by rfl, ?_⟩) hHeld ?_ ?_
    rotate_left
    · rintro w' ⟨s0, s1, s2, s3, s4, s5, s6, s7, s8, s9, s10, s11, s12⟩
      go_simp
      with_reducible rfl
    rotate_left
    · simp only [Act.put, List.setIfInBounds_toArray, List.set_cons_zero, List.set_cons_succ, i64_w, i32_w]
      rfl
    refine one_ (i := 2) (N := some 81) #[true, true, true, true, true, false, false, false, false, false, false, false, false, false, false, false, false, false, false, false, false, false, false, false, false, false, false, false, false, false, false, false, false, false, false, false, false, false, false, false, false, false, false, false] rfl rfl (one_of HT_.out (by kernel_rfl)) (by decide) (fun K hK => ?_)
    refine goes_ Try.func46 (by kernel_rfl) rfl #[.string a1_1] (by rfl) rfl rfl (by (try simp only [List.map_toArray, List.map_cons, List.map_nil]); first | done | rfl | (simp only [List.length_drop, List.length_take]; rfl)) ?_
    with_reducible refine (dir_Name.calls kj27 a1_1 t427 _ A71.out).mono ?_
    rintro e w' ⟨rfl, ⟨nd, rfl⟩⟩
    refine ⟨_, rfl, ?_⟩
    refine hK.out _ _ ⟨(blk_cell BK398.out 0).trans rfl, (blk_cell BK398.out 1).trans rfl, (blk_cell BK398.out 2).trans rfl, (blk_cell BK398.out 3).trans rfl, (blk_cell BK397.out 0).trans rfl, (blk_cell BK397.out 1).trans rfl, (blk_cell BK397.out 2).trans rfl, (blk_cell BK411.out 0).trans rfl, (blk_cell BK411.out 1).trans rfl, (blk_cell BK411.out 2).trans rfl, (blk_cell BK422.out 0).trans rfl, (blk_cell BK422.out 1).trans rfl, (blk_cell BK422.out 2).trans rfl⟩ (fun hHeld => ?_)
    clear hK K
    refine norm_ (a' := ?_) ?_ ?_
    rotate_left
    · show Act.put _ (some 81) _ = _
      simp only [Act.put, List.setIfInBounds_toArray, List.set_cons_zero, List.set_cons_succ, i64_w, i32_w]
      rfl
    refine one_ (i := 5) (N := some 84) #[true, true, true, true, true, true, false, false, false, false, false, false, false, false, false, false, false, false, false, false, false, false, false, false, false, false, false, false, false, false, false, false, false, false, false, false, false, false, false, false, false, false, false, false] rfl rfl (one_of HT_.out (by kernel_rfl)) (by decide) (fun K hK => ?_)
    refine goes_ Try.func47 (by kernel_rfl) rfl #[.string a1_1] (by rfl) rfl rfl (by (try simp only [List.map_toArray, List.map_cons, List.map_nil]); first | done | rfl | (simp only [List.length_drop, List.length_take]; rfl)) ?_
    with_reducible refine (newsreelref10_Name.calls kj27 a1_1 t428 _ A72.out).mono ?_
    rintro e w' ⟨rfl, ⟨nd, rfl⟩⟩
    refine ⟨_, rfl, ?_⟩
    refine hK.out _ _ ⟨(blk_cell BK398.out 0).trans rfl, (blk_cell BK398.out 1).trans rfl, (blk_cell BK398.out 2).trans rfl, (blk_cell BK398.out 3).trans rfl, (blk_cell BK397.out 0).trans rfl, (blk_cell BK397.out 1).trans rfl, (blk_cell BK397.out 2).trans rfl, (blk_cell BK411.out 0).trans rfl, (blk_cell BK411.out 1).trans rfl, (blk_cell BK411.out 2).trans rfl, (blk_cell BK422.out 0).trans rfl, (blk_cell BK422.out 1).trans rfl, (blk_cell BK422.out 2).trans rfl⟩ (fun hHeld => ?_)
    clear hK K
    refine norm_ (a' := ?_) ?_ ?_
    rotate_left
    · show Act.put _ (some 84) _ = _
      simp only [Act.put, List.setIfInBounds_toArray, List.set_cons_zero, List.set_cons_succ, i64_w, i32_w]
      rfl
    refine pure_ (i := 6) (N := some 85) (v := ?_) (a' := ?_) #[true, true, true, true, true, true, true, false, false, false, false, false, false, false, false, false, false, false, false, false, false, false, false, false, false, false, false, false, false, false, false, false, false, false, false, false, false, false, false, false, false, false, false, false] rfl rfl (any_of HT_.out (by kernel_rfl)) (fun _ _ _ h => h) (Or.inl ⟨by rfl, ?_⟩) ?_ ?_
    rotate_left
    · intro w'
      go_simp
      with_reducible rfl
    rotate_left
    · simp only [Act.put, List.setIfInBounds_toArray, List.set_cons_zero, List.set_cons_succ, i64_w, i32_w]
      rfl
    refine pure_ (i := 7) (N := some 86) (v := ?_) (a' := ?_) #[true, true, true, true, true, true, true, true, false, false, false, false, false, false, false, false, false, false, false, false, false, false, false, false, false, false, false, false, false, false, false, false, false, false, false, false, false, false, false, false, false, false, false, false] rfl rfl (any_of HT_.out (by kernel_rfl)) (fun _ _ _ h => h) (Or.inl ⟨by rfl, ?_⟩) ?_ ?_
    rotate_left
    · intro w'
      go_simp
      with_reducible rfl
    rotate_left
    · simp only [Act.put, List.setIfInBounds_toArray, List.set_cons_zero, List.set_cons_succ, i64_w, i32_w]
      rfl
    refine take_ (i := 8) (N := some 87) (v := ?_) (a' := ?_) #[true, true, true, true, true, true, true, true, true, false, false, false, false, false, false, false, false, false, false, false, false, false, false, false, false, false, false, false, false, false, false, false, false, false, false, false, false, false, false, false, false, false, false, false] rfl rfl (take_ofW HT_.out HW_.out (by kernel_rfl)) (fun _ _ _ h => h) (Or.inl ⟨by rfl, ?_⟩) hHeld ?_ ?_
    rotate_left
    · rintro w' ⟨s0, s1, s2, s3, s4, s5, s6, s7, s8, s9, s10, s11, s12⟩
      go_simp
      with_reducible rfl
    rotate_left
    · simp only [Act.put, List.setIfInBounds_toArray, List.set_cons_zero, List.set_cons_succ, i64_w, i32_w]
      rfl
    refine take_ (i := 10) (N := some 89) (v := ?_) (a' := ?_) #[true, true, true, true, true, true, true, true, true, false, true, false, false, false, false, false, false, false, false, false, false, false, false, false, false, false, false, false, false, false, false, false, false, false, false, false, false, false, false, false, false, false, false, false] rfl rfl (take_ofW HT_.out HW_.out (by kernel_rfl)) (fun _ _ _ h => h) (Or.inl ⟨by rfl, ?_⟩) hHeld ?_ ?_
    rotate_left
    · rintro w' ⟨s0, s1, s2, s3, s4, s5, s6, s7, s8, s9, s10, s11, s12⟩
      go_simp
      with_reducible rfl
    rotate_left
    · simp only [Act.put, List.setIfInBounds_toArray, List.set_cons_zero, List.set_cons_succ, i64_w, i32_w]
      rfl
    refine one_ (i := 9) (N := some 88) #[true, true, true, true, true, true, true, true, true, true, true, false, false, false, false, false, false, false, false, false, false, false, false, false, false, false, false, false, false, false, false, false, false, false, false, false, false, false, false, false, false, false, false, false] rfl rfl (one_of HT_.out (by kernel_rfl)) (by decide) (fun K hK => ?_)
    refine goes_ Try.func48 (by kernel_rfl) rfl #[.agg #[.slice A0_0 l0_0.length c0_0, .slice A0_1 l0_1.length c0_1, .slice A0_2 l0_2.length c0_2]] (by rfl) rfl rfl (by (try simp only [List.map_toArray, List.map_cons, List.map_nil]); first | done | rfl | (simp only [List.length_drop, List.length_take]; rfl)) ?_
    with_reducible refine (dir_Right.calls kj27 _ _ l0_0 _ _ l0_1 _ _ l0_2 t429 _ ?side1 ?side2 ?side3 ?side4 ?side5 ?side6 A74.out).mono ?_
    (case side1 => exact Kd.C_y (Kd.C_below HR0_0.out (below_y HB.out)))
    (case side2 => exact HC0_0.out)
    (case side3 => exact Kd.C_y (Kd.C_below HR0_1.out (below_y HB.out)))
    (case side4 => exact HC0_1.out)
    (case side5 => exact Kd.C_y (Kd.C_below HR0_2.out (below_y HB.out)))
    (case side6 => exact HC0_2.out)
    rintro e w90 ⟨rfl, hb⟩
    have hbk_w90 := Aside0.mk hb
    refine ⟨_, rfl, ?_⟩
    have n0_ := Aside0.mk (Kd.R_below (Kd.R_y HO_412000.out) hb)
    have n1_ := Aside0.mk (Kd.R_below (Kd.R_y HO_412001.out) hb)
    have n2_ := Aside0.mk (Kd.R_below (Kd.R_y HO_412002.out) hb)
    have n3_ := Aside0.mk (Kd.R_below (Kd.R_y HO_423000.out) hb)
    have n4_ := Aside0.mk (Kd.V_below (Kd.V_y HO_423001.out) hb)
    have n5_ := Aside0.mk (Kd.R_below (Kd.R_y HO_423002.out) hb)
    have n6_ := Aside0.mk (blk_below (blk_y BK397.out) hb)
    have n7_ := Aside0.mk (blk_below (blk_y BK398.out) hb)
    have n8_ := Aside0.mk (blk_below (blk_y BK411.out) hb)
    have n9_ := Aside0.mk (blk_below (blk_y BK422.out) hb)
    have n10_ := Aside0.mk (below_step (below_y HB.out) hb)
    clear HO_412000
    clear HO_412001
    clear HO_412002
    clear HO_423000
    clear HO_423001
    clear HO_423002
    clear BK397
    clear BK398
    clear BK411
    clear BK422
    clear HB
    have HO_412000 := n0_
    have HO_412001 := n1_
    have HO_412002 := n2_
    have HO_423000 := n3_
    have HO_423001 := n4_
    have HO_423002 := n5_
    have BK397 := n6_
    have BK398 := n7_
    have BK411 := n8_
    have BK422 := n9_
    have HB := n10_
    clear n0_ n1_ n2_ n3_ n4_ n5_ n6_ n7_ n8_ n9_ n10_
    (try clear hb)
    (try clear hb2)
    (try clear hk)
    (try clear hi)
    refine hK.out _ _ ⟨(blk_cell BK398.out 0).trans rfl, (blk_cell BK398.out 1).trans rfl, (blk_cell BK398.out 2).trans rfl, (blk_cell BK398.out 3).trans rfl, (blk_cell BK397.out 0).trans rfl, (blk_cell BK397.out 1).trans rfl, (blk_cell BK397.out 2).trans rfl, (blk_cell BK411.out 0).trans rfl, (blk_cell BK411.out 1).trans rfl, (blk_cell BK411.out 2).trans rfl, (blk_cell BK422.out 0).trans rfl, (blk_cell BK422.out 1).trans rfl, (blk_cell BK422.out 2).trans rfl⟩ (fun hHeld => ?_)
    clear hK K
    refine norm_ (a' := ?_) ?_ ?_
    rotate_left
    · show Act.put _ (some 88) _ = _
      simp only [Act.put, List.setIfInBounds_toArray, List.set_cons_zero, List.set_cons_succ, i64_w, i32_w]
      rfl
    refine one_ (i := 11) (N := some 90) #[true, true, true, true, true, true, true, true, true, true, true, true, false, false, false, false, false, false, false, false, false, false, false, false, false, false, false, false, false, false, false, false, false, false, false, false, false, false, false, false, false, false, false, false] rfl rfl (one_of HT_.out (by kernel_rfl)) (by decide) (fun K hK => ?_)
    refine goes_ Try.func49 (by kernel_rfl) rfl #[.agg #[.slice A0_0 l0_0.length c0_0, .slice A0_1 l0_1.length c0_1, .slice A0_2 l0_2.length c0_2]] (by rfl) rfl rfl (by (try simp only [List.map_toArray, List.map_cons, List.map_nil]); first | done | rfl | (simp only [List.length_drop, List.length_take]; rfl)) ?_
    with_reducible refine (newsreelref10_Right.calls kj27 _ _ l0_0 _ _ l0_1 _ _ l0_2 t430 _ ?side1 ?side2 ?side3 ?side4 ?side5 ?side6 A75.out).mono ?_
    (case side1 => repeat (first | exact (Kd.C_below HR0_0.out HB.out) | exact HR0_0.out | (with_reducible refine Kd.C_alloc ?_ _) | (with_reducible refine Kd.C_drewN ?_ _) | (with_reducible refine Kd.C_drew ?_)))
    (case side2 => exact HC0_0.out)
    (case side3 => repeat (first | exact (Kd.C_below HR0_1.out HB.out) | exact HR0_1.out | (with_reducible refine Kd.C_alloc ?_ _) | (with_reducible refine Kd.C_drewN ?_ _) | (with_reducible refine Kd.C_drew ?_)))
    (case side4 => exact HC0_1.out)
    (case side5 => repeat (first | exact (Kd.C_below HR0_2.out HB.out) | exact HR0_2.out | (with_reducible refine Kd.C_alloc ?_ _) | (with_reducible refine Kd.C_drewN ?_ _) | (with_reducible refine Kd.C_drew ?_)))
    (case side6 => exact HC0_2.out)
    rintro e w91 ⟨rfl, hb⟩
    have hbk_w91 := Aside0.mk hb
    refine ⟨_, rfl, ?_⟩
    have n0_ := Aside0.mk (Kd.R_below (Kd.R_y HO_412000.out) hb)
    have n1_ := Aside0.mk (Kd.R_below (Kd.R_y HO_412001.out) hb)
    have n2_ := Aside0.mk (Kd.R_below (Kd.R_y HO_412002.out) hb)
    have n3_ := Aside0.mk (Kd.R_below (Kd.R_y HO_423000.out) hb)
    have n4_ := Aside0.mk (Kd.V_below (Kd.V_y HO_423001.out) hb)
    have n5_ := Aside0.mk (Kd.R_below (Kd.R_y HO_423002.out) hb)
    have n6_ := Aside0.mk (blk_below (blk_y BK397.out) hb)
    have n7_ := Aside0.mk (blk_below (blk_y BK398.out) hb)
    have n8_ := Aside0.mk (blk_below (blk_y BK411.out) hb)
    have n9_ := Aside0.mk (blk_below (blk_y BK422.out) hb)
    have n10_ := Aside0.mk (below_step (below_y HB.out) hb)
    clear HO_412000
    clear HO_412001
    clear HO_412002
    clear HO_423000
    clear HO_423001
    clear HO_423002
    clear BK397
    clear BK398
    clear BK411
    clear BK422
    clear HB
    have HO_412000 := n0_
    have HO_412001 := n1_
    have HO_412002 := n2_
    have HO_423000 := n3_
    have HO_423001 := n4_
    have HO_423002 := n5_
    have BK397 := n6_
    have BK398 := n7_
    have BK411 := n8_
    have BK422 := n9_
    have HB := n10_
    clear n0_ n1_ n2_ n3_ n4_ n5_ n6_ n7_ n8_ n9_ n10_
    (try clear hb)
    (try clear hb2)
    (try clear hk)
    (try clear hi)
    refine hK.out _ _ ⟨(blk_cell BK398.out 0).trans rfl, (blk_cell BK398.out 1).trans rfl, (blk_cell BK398.out 2).trans rfl, (blk_cell BK398.out 3).trans rfl, (blk_cell BK397.out 0).trans rfl, (blk_cell BK397.out 1).trans rfl, (blk_cell BK397.out 2).trans rfl, (blk_cell BK411.out 0).trans rfl, (blk_cell BK411.out 1).trans rfl, (blk_cell BK411.out 2).trans rfl, (blk_cell BK422.out 0).trans rfl, (blk_cell BK422.out 1).trans rfl, (blk_cell BK422.out 2).trans rfl⟩ (fun hHeld => ?_)
    clear hK K
    refine norm_ (a' := ?_) ?_ ?_
    rotate_left
    · show Act.put _ (some 90) _ = _
      simp only [Act.put, List.setIfInBounds_toArray, List.set_cons_zero, List.set_cons_succ, i64_w, i32_w]
      rfl
    refine pure_ (i := 12) (N := some 91) (v := ?_) (a' := ?_) #[true, true, true, true, true, true, true, true, true, true, true, true, true, false, false, false, false, false, false, false, false, false, false, false, false, false, false, false, false, false, false, false, false, false, false, false, false, false, false, false, false, false, false, false] rfl rfl (any_of HT_.out (by kernel_rfl)) (fun _ _ _ h => h) (Or.inl ⟨by rfl, ?_⟩) ?_ ?_
    rotate_left
    · intro w'
      go_simp
      with_reducible rfl
    rotate_left
    · simp only [Act.put, List.setIfInBounds_toArray, List.set_cons_zero, List.set_cons_succ, i64_w, i32_w]
      rfl
    refine pure_ (i := 13) (N := some 92) (v := ?_) (a' := ?_) #[true, true, true, true, true, true, true, true, true, true, true, true, true, true, false, false, false, false, false, false, false, false, false, false, false, false, false, false, false, false, false, false, false, false, false, false, false, false, false, false, false, false, false, false] rfl rfl (any_of HT_.out (by kernel_rfl)) (fun _ _ _ h => h) (Or.inl ⟨by rfl, ?_⟩) ?_ ?_
    rotate_left
    · intro w'
      go_simp
      with_reducible rfl
    rotate_left
    · simp only [Act.put, List.setIfInBounds_toArray, List.set_cons_zero, List.set_cons_succ, i64_w, i32_w]
      rfl
    refine pure_ (i := 14) (N := some 93) (v := ?_) (a' := ?_) #[true, true, true, true, true, true, true, true, true, true, true, true, true, true, true, false, false, false, false, false, false, false, false, false, false, false, false, false, false, false, false, false, false, false, false, false, false, false, false, false, false, false, false, false] rfl rfl (any_of HT_.out (by kernel_rfl)) (fun _ _ _ h => h) (Or.inl ⟨by rfl, ?_⟩) ?_ ?_
    rotate_left
    · intro w'
      go_simp
      with_reducible rfl
    rotate_left
    · simp only [Act.put, List.setIfInBounds_toArray, List.set_cons_zero, List.set_cons_succ, i64_w, i32_w]
      rfl
    refine take_ (i := 15) (N := some 94) (v := ?_) (a' := ?_) #[true, true, true, true, true, true, true, true, true, true, true, true, true, true, true, true, false, false, false, false, false, false, false, false, false, false, false, false, false, false, false, false, false, false, false, false, false, false, false, false, false, false, false, false] rfl rfl (take_ofW HT_.out HW_.out (by kernel_rfl)) (fun _ _ _ h => h) (Or.inl ⟨by rfl, ?_⟩) hHeld ?_ ?_
    rotate_left
    · rintro w' ⟨s0, s1, s2, s3, s4, s5, s6, s7, s8, s9, s10, s11, s12⟩
      go_simp
      with_reducible rfl
    rotate_left
    · simp only [Act.put, List.setIfInBounds_toArray, List.set_cons_zero, List.set_cons_succ, i64_w, i32_w]
      rfl
    refine take_ (i := 16) (N := some 95) (v := ?_) (a' := ?_) #[true, true, true, true, true, true, true, true, true, true, true, true, true, true, true, true, true, false, false, false, false, false, false, false, false, false, false, false, false, false, false, false, false, false, false, false, false, false, false, false, false, false, false, false] rfl rfl (take_ofW HT_.out HW_.out (by kernel_rfl)) (fun _ _ _ h => h) (Or.inl ⟨by rfl, ?_⟩) hHeld ?_ ?_
    rotate_left
    · rintro w' ⟨s0, s1, s2, s3, s4, s5, s6, s7, s8, s9, s10, s11, s12⟩
      go_simp
      with_reducible rfl
    rotate_left
    · simp only [Act.put, List.setIfInBounds_toArray, List.set_cons_zero, List.set_cons_succ, i64_w, i32_w]
      rfl
    refine one_ (i := 17) (N := some 96) #[true, true, true, true, true, true, true, true, true, true, true, true, true, true, true, true, true, true, false, false, false, false, false, false, false, false, false, false, false, false, false, false, false, false, false, false, false, false, false, false, false, false, false, false] rfl rfl (one_of HT_.out (by kernel_rfl)) (by decide) (fun K hK => ?_)
    refine goes_ Try.func50 (by kernel_rfl) rfl #[.agg #[.slice Ao34 t401.length co34, .slice Ao38 t404.length co38, .slice Ao39 t407.length co39], .agg #[.slice Ao45 t412.length co45, .slice Ao50 t415.length co50, .slice Ao51 t418.length co51]] (by rfl) rfl rfl (by (try simp only [List.map_toArray, List.map_cons, List.map_nil]); first | done | rfl | (simp only [List.length_drop, List.length_take]; rfl)) ?_
    with_reducible refine (newsreelref10_Same.calls kj27 _ _ t401 _ _ t404 _ _ t407 _ _ t412 _ _ t415 _ _ t418 true _ ?side1 ?side2 ?side3 ?side4 ?side5 ?side6 ?side7 ?side8 ?side9 ?side10 ?side11 ?side12 A77.out).mono ?_
    (case side1 => exact Kd.C_y (Kd.R_reads' HO_412000.out).2.2)
    (case side2 => exact (Kd.R_reads' HO_412000.out).2.1)
    (case side3 => exact Kd.C_y (Kd.R_reads' HO_412001.out).2.2)
    (case side4 => exact (Kd.R_reads' HO_412001.out).2.1)
    (case side5 => exact Kd.C_y (Kd.R_reads' HO_412002.out).2.2)
    (case side6 => exact (Kd.R_reads' HO_412002.out).2.1)
    (case side7 => exact Kd.C_y (Kd.R_reads' HO_423000.out).2.2)
    (case side8 => exact (Kd.R_reads' HO_423000.out).2.1)
    (case side9 => exact Kd.C_y (Kd.V_reads' HO_423001.out).2.2)
    (case side10 => exact (Kd.V_reads' HO_423001.out).2.1)
    (case side11 => exact Kd.C_y (Kd.R_reads' HO_423002.out).2.2)
    (case side12 => exact (Kd.R_reads' HO_423002.out).2.1)
    rintro e w92 ⟨rfl, hb⟩
    have hbk_w92 := Aside0.mk hb
    refine ⟨_, rfl, ?_⟩
    have n0_ := Aside0.mk (Kd.R_below (Kd.R_y HO_412000.out) hb)
    have n1_ := Aside0.mk (Kd.R_below (Kd.R_y HO_412001.out) hb)
    have n2_ := Aside0.mk (Kd.R_below (Kd.R_y HO_412002.out) hb)
    have n3_ := Aside0.mk (Kd.R_below (Kd.R_y HO_423000.out) hb)
    have n4_ := Aside0.mk (Kd.V_below (Kd.V_y HO_423001.out) hb)
    have n5_ := Aside0.mk (Kd.R_below (Kd.R_y HO_423002.out) hb)
    have n6_ := Aside0.mk (blk_below (blk_y BK397.out) hb)
    have n7_ := Aside0.mk (blk_below (blk_y BK398.out) hb)
    have n8_ := Aside0.mk (blk_below (blk_y BK411.out) hb)
    have n9_ := Aside0.mk (blk_below (blk_y BK422.out) hb)
    have n10_ := Aside0.mk (below_step (below_y HB.out) hb)
    clear HO_412000
    clear HO_412001
    clear HO_412002
    clear HO_423000
    clear HO_423001
    clear HO_423002
    clear BK397
    clear BK398
    clear BK411
    clear BK422
    clear HB
    have HO_412000 := n0_
    have HO_412001 := n1_
    have HO_412002 := n2_
    have HO_423000 := n3_
    have HO_423001 := n4_
    have HO_423002 := n5_
    have BK397 := n6_
    have BK398 := n7_
    have BK411 := n8_
    have BK422 := n9_
    have HB := n10_
    clear n0_ n1_ n2_ n3_ n4_ n5_ n6_ n7_ n8_ n9_ n10_
    (try clear hb)
    (try clear hb2)
    (try clear hk)
    (try clear hi)
    refine hK.out _ _ ⟨(blk_cell BK398.out 0).trans rfl, (blk_cell BK398.out 1).trans rfl, (blk_cell BK398.out 2).trans rfl, (blk_cell BK398.out 3).trans rfl, (blk_cell BK397.out 0).trans rfl, (blk_cell BK397.out 1).trans rfl, (blk_cell BK397.out 2).trans rfl, (blk_cell BK411.out 0).trans rfl, (blk_cell BK411.out 1).trans rfl, (blk_cell BK411.out 2).trans rfl, (blk_cell BK422.out 0).trans rfl, (blk_cell BK422.out 1).trans rfl, (blk_cell BK422.out 2).trans rfl⟩ (fun hHeld => ?_)
    clear hK K
    refine norm_ (a' := ?_) ?_ ?_
    rotate_left
    · show Act.put _ (some 96) _ = _
      simp only [Act.put, List.setIfInBounds_toArray, List.set_cons_zero, List.set_cons_succ, i64_w, i32_w]
      rfl
    refine pure_ (i := 18) (N := some 97) (v := ?_) (a' := ?_) #[true, true, true, true, true, true, true, true, true, true, true, true, true, true, true, true, true, true, true, false, false, false, false, false, false, false, false, false, false, false, false, false, false, false, false, false, false, false, false, false, false, false, false, false] rfl rfl (any_of HT_.out (by kernel_rfl)) (fun _ _ _ h => h) (Or.inl ⟨by rfl, ?_⟩) ?_ ?_
    rotate_left
    · intro w'
      go_simp
      with_reducible rfl
    rotate_left
    · simp only [Act.put, List.setIfInBounds_toArray, List.set_cons_zero, List.set_cons_succ, i64_w, i32_w]
      rfl
    refine pure_ (i := 19) (N := some 98) (v := ?_) (a' := ?_) #[true, true, true, true, true, true, true, true, true, true, true, true, true, true, true, true, true, true, true, true, false, false, false, false, false, false, false, false, false, false, false, false, false, false, false, false, false, false, false, false, false, false, false, false] rfl rfl (any_of HT_.out (by kernel_rfl)) (fun _ _ _ h => h) (Or.inl ⟨by rfl, ?_⟩) ?_ ?_
    rotate_left
    · intro w'
      go_simp
      with_reducible rfl
    rotate_left
    · simp only [Act.put, List.setIfInBounds_toArray, List.set_cons_zero, List.set_cons_succ, i64_w, i32_w]
      rfl
    refine pure_ (i := 20) (N := some 99) (v := ?_) (a' := ?_) #[true, true, true, true, true, true, true, true, true, true, true, true, true, true, true, true, true, true, true, true, true, false, false, false, false, false, false, false, false, false, false, false, false, false, false, false, false, false, false, false, false, false, false, false] rfl rfl (any_of HT_.out (by kernel_rfl)) (fun _ _ _ h => h) (Or.inl ⟨by rfl, ?_⟩) ?_ ?_
    rotate_left
    · intro w'
      go_simp
      with_reducible rfl
    rotate_left
    · simp only [Act.put, List.setIfInBounds_toArray, List.set_cons_zero, List.set_cons_succ, i64_w, i32_w]
      rfl
    refine pure_ (i := 21) (N := some 100) (v := ?_) (a' := ?_) #[true, true, true, true, true, true, true, true, true, true, true, true, true, true, true, true, true, true, true, true, true, true, false, false, false, false, false, false, false, false, false, false, false, false, false, false, false, false, false, false, false, false, false, false] rfl rfl (any_of HT_.out (by kernel_rfl)) (fun _ _ _ h => h) (Or.inl ⟨by rfl, ?_⟩) ?_ ?_
    rotate_left
    · intro w'
      go_simp
      with_reducible rfl
    rotate_left
    · simp only [Act.put, List.setIfInBounds_toArray, List.set_cons_zero, List.set_cons_succ, i64_w, i32_w]
      rfl
    refine pure_ (i := 22) (N := some 101) (v := ?_) (a' := ?_) #[true, true, true, true, true, true, true, true, true, true, true, true, true, true, true, true, true, true, true, true, true, true, true, false, false, false, false, false, false, false, false, false, false, false, false, false, false, false, false, false, false, false, false, false] rfl rfl (any_of HT_.out (by kernel_rfl)) (fun _ _ _ h => h) (Or.inl ⟨by rfl, ?_⟩) ?_ ?_
    rotate_left
    · intro w'
      go_simp
      with_reducible rfl
    rotate_left
    · simp only [Act.put, List.setIfInBounds_toArray, List.set_cons_zero, List.set_cons_succ, i64_w, i32_w]
      rfl
    refine pure_ (i := 23) (N := some 102) (v := ?_) (a' := ?_) #[true, true, true, true, true, true, true, true, true, true, true, true, true, true, true, true, true, true, true, true, true, true, true, true, false, false, false, false, false, false, false, false, false, false, false, false, false, false, false, false, false, false, false, false] rfl rfl (any_of HT_.out (by kernel_rfl)) (fun _ _ _ h => h) (Or.inl ⟨by rfl, ?_⟩) ?_ ?_
    rotate_left
    · intro w'
      go_simp
      with_reducible rfl
    rotate_left
    · simp only [Act.put, List.setIfInBounds_toArray, List.set_cons_zero, List.set_cons_succ, i64_w, i32_w]
      rfl
    refine pure_ (i := 24) (N := some 103) (v := ?_) (a' := ?_) #[true, true, true, true, true, true, true, true, true, true, true, true, true, true, true, true, true, true, true, true, true, true, true, true, true, false, false, false, false, false, false, false, false, false, false, false, false, false, false, false, false, false, false, false] rfl rfl (any_of HT_.out (by kernel_rfl)) (fun _ _ _ h => h) (Or.inl ⟨by rfl, ?_⟩) ?_ ?_
    rotate_left
    · intro w'
      go_simp
      with_reducible rfl
    rotate_left
    · simp only [Act.put, List.setIfInBounds_toArray, List.set_cons_zero, List.set_cons_succ, i64_w, i32_w]
      rfl
    refine take_ (i := 25) (N := some 104) (v := ?_) (a' := ?_) #[true, true, true, true, true, true, true, true, true, true, true, true, true, true, true, true, true, true, true, true, true, true, true, true, true, true, false, false, false, false, false, false, false, false, false, false, false, false, false, false, false, false, false, false] rfl rfl (take_ofW HT_.out HW_.out (by kernel_rfl)) (fun _ _ _ h => h) (Or.inl ⟨by rfl, ?_⟩) hHeld ?_ ?_
    rotate_left
    · rintro w' ⟨s0, s1, s2, s3, s4, s5, s6, s7, s8, s9, s10, s11, s12⟩
      go_simp
      with_reducible rfl
    rotate_left
    · simp only [Act.put, List.setIfInBounds_toArray, List.set_cons_zero, List.set_cons_succ, i64_w, i32_w]
      rfl
    refine take_ (i := 27) (N := some 106) (v := ?_) (a' := ?_) #[true, true, true, true, true, true, true, true, true, true, true, true, true, true, true, true, true, true, true, true, true, true, true, true, true, true, false, true, false, false, false, false, false, false, false, false, false, false, false, false, false, false, false, false] rfl rfl (take_ofW HT_.out HW_.out (by kernel_rfl)) (fun _ _ _ h => h) (Or.inl ⟨by rfl, ?_⟩) hHeld ?_ ?_
    rotate_left
    · rintro w' ⟨s0, s1, s2, s3, s4, s5, s6, s7, s8, s9, s10, s11, s12⟩
      go_simp
      with_reducible rfl
    rotate_left
    · simp only [Act.put, List.setIfInBounds_toArray, List.set_cons_zero, List.set_cons_succ, i64_w, i32_w]
      rfl
    refine one_ (i := 26) (N := some 105) #[true, true, true, true, true, true, true, true, true, true, true, true, true, true, true, true, true, true, true, true, true, true, true, true, true, true, true, true, false, false, false, false, false, false, false, false, false, false, false, false, false, false, false, false] rfl rfl (one_of HT_.out (by kernel_rfl)) (by decide) (fun K hK => ?_)
    refine goes_ Try.func51 (by kernel_rfl) rfl #[.agg #[.slice A0_0 l0_0.length c0_0, .slice A0_1 l0_1.length c0_1, .slice A0_2 l0_2.length c0_2]] (by rfl) rfl rfl (by (try simp only [List.map_toArray, List.map_cons, List.map_nil]); first | done | rfl | (simp only [List.length_drop, List.length_take]; rfl)) ?_
    with_reducible refine (dir_Sync.calls kj27 _ _ l0_0 _ _ l0_1 _ _ l0_2 t432 t435 t438 _ ?side1 ?side2 ?side3 ?side4 ?side5 ?side6 A80.out).mono ?_
    (case side1 => repeat (first | exact (Kd.C_below HR0_0.out HB.out) | exact HR0_0.out | (with_reducible refine Kd.C_alloc ?_ _) | (with_reducible refine Kd.C_drewN ?_ _) | (with_reducible refine Kd.C_drew ?_)))
    (case side2 => exact HC0_0.out)
    (case side3 => repeat (first | exact (Kd.C_below HR0_1.out HB.out) | exact HR0_1.out | (with_reducible refine Kd.C_alloc ?_ _) | (with_reducible refine Kd.C_drewN ?_ _) | (with_reducible refine Kd.C_drew ?_)))
    (case side4 => exact HC0_1.out)
    (case side5 => repeat (first | exact (Kd.C_below HR0_2.out HB.out) | exact HR0_2.out | (with_reducible refine Kd.C_alloc ?_ _) | (with_reducible refine Kd.C_drewN ?_ _) | (with_reducible refine Kd.C_drew ?_)))
    (case side6 => exact HC0_2.out)
    rintro e w93 ⟨v433, v436, v439, rfl, ho0, ho1, ho2, hb⟩
    refine ⟨_, rfl, ?_⟩
    have n0_ := Aside0.mk (Kd.R_mono (Kd.R_told (Kd.R_told (Kd.R_old (Kd.R_y HO_412000.out) hb) (Kd.R_base ho0)) (Kd.R_base ho1)) (fun _ h_ => h_.1))
    have n1_ := Aside0.mk (Kd.R_mono (Kd.R_told (Kd.R_told (Kd.R_old (Kd.R_y HO_412001.out) hb) (Kd.R_base ho0)) (Kd.R_base ho1)) (fun _ h_ => h_.1))
    have n2_ := Aside0.mk (Kd.R_elder' (Kd.R_y HO_412002.out) (Kd.R_base ho2) hb)
    have n3_ := Aside0.mk (Kd.R_mono (Kd.R_told (Kd.R_told (Kd.R_old (Kd.R_y HO_423000.out) hb) (Kd.R_base ho0)) (Kd.R_base ho1)) (fun _ h_ => h_.1))
    have n4_ := Aside0.mk (Kd.V_mono (Kd.V_told (Kd.V_told (Kd.V_told (Kd.V_old (Kd.V_y HO_423001.out) hb) (Kd.R_base ho0)) (Kd.R_base ho1)) (Kd.R_base ho2)) (fun _ h_ => h_.1))
    have n5_ := Aside0.mk (Kd.R_elder' (Kd.R_y HO_423002.out) (Kd.R_base ho2) hb)
    have n6_ := Aside0.mk (Kd.R_lower (Kd.R_new' (Kd.R_new' (Kd.R_new' ho0 (Kd.R_lt (Kd.R_y HO_412000.out))) (Kd.R_lt (Kd.R_y HO_412001.out))) (Kd.R_lt (Kd.R_y HO_423000.out))) (below_size (below_y HB.out)))
    have n7_ := Aside0.mk (Kd.R_lower (Kd.R_new' (Kd.R_new' (Kd.R_new' ho1 (Kd.R_lt (Kd.R_y HO_412000.out))) (Kd.R_lt (Kd.R_y HO_412001.out))) (Kd.R_lt (Kd.R_y HO_423000.out))) (below_size (below_y HB.out)))
    have n8_ := Aside0.mk (Kd.R_lower (Kd.R_newB (Kd.R_new' (Kd.R_new' ho2 (Kd.R_lt (Kd.R_y HO_412002.out))) (Kd.R_lt (Kd.R_y HO_423002.out))) (blk_y BK398.out)) (below_size (below_y HB.out)))
    have n9_ := Aside0.mk (blk_below (blk_y BK397.out) hb)
    have n10_ := Aside0.mk (blk_below (blk_y BK398.out) hb)
    have n11_ := Aside0.mk (blk_below (blk_y BK411.out) hb)
    have n12_ := Aside0.mk (blk_below (blk_y BK422.out) hb)
    have n13_ := Aside0.mk (below_step (below_y HB.out) hb)
    clear HO_412000
    clear HO_412001
    clear HO_412002
    clear HO_423000
    clear HO_423001
    clear HO_423002
    clear BK397
    clear BK398
    clear BK411
    clear BK422
    clear HB
    have HO_412000 := n0_
    have HO_412001 := n1_
    have HO_412002 := n2_
    have HO_423000 := n3_
    have HO_423001 := n4_
    have HO_423002 := n5_
    have HO434 := n6_
    have HO437 := n7_
    have HO440 := n8_
    have BK397 := n9_
    have BK398 := n10_
    have BK411 := n11_
    have BK422 := n12_
    have HB := n13_
    clear n0_ n1_ n2_ n3_ n4_ n5_ n6_ n7_ n8_ n9_ n10_ n11_ n12_ n13_
    (try clear hb)
    (try clear hb2)
    (try clear hk)
    (try clear hi)
    (try clear ho0)
    (try clear ho1)
    (try clear ho2)
    refine hK.out _ _ ⟨(blk_cell BK398.out 0).trans rfl, (blk_cell BK398.out 1).trans rfl, (blk_cell BK398.out 2).trans rfl, (blk_cell BK398.out 3).trans rfl, (blk_cell BK397.out 0).trans rfl, (blk_cell BK397.out 1).trans rfl, (blk_cell BK397.out 2).trans rfl, (blk_cell BK411.out 0).trans rfl, (blk_cell BK411.out 1).trans rfl, (blk_cell BK411.out 2).trans rfl, (blk_cell BK422.out 0).trans rfl, (blk_cell BK422.out 1).trans rfl, (blk_cell BK422.out 2).trans rfl⟩ (fun hHeld => ?_)
    clear hK K
    refine norm_ (a' := ?_) ?_ ?_
    rotate_left
    · show Act.put _ (some 105) _ = _
      simp only [Act.put, List.setIfInBounds_toArray, List.set_cons_zero, List.set_cons_succ, i64_w, i32_w]
      rfl
    refine one_ (i := 28) (N := some 107) #[true, true, true, true, true, true, true, true, true, true, true, true, true, true, true, true, true, true, true, true, true, true, true, true, true, true, true, true, true, false, false, false, false, false, false, false, false, false, false, false, false, false, false, false] rfl rfl (one_of HT_.out (by kernel_rfl)) (by decide) (fun K hK => ?_)
    refine goes_ Try.func52 (by kernel_rfl) rfl #[.agg #[.slice A0_0 l0_0.length c0_0, .slice A0_1 l0_1.length c0_1, .slice A0_2 l0_2.length c0_2]] (by rfl) rfl rfl (by (try simp only [List.map_toArray, List.map_cons, List.map_nil]); first | done | rfl | (simp only [List.length_drop, List.length_take]; rfl)) ?_
    with_reducible refine (newsreelref10_Sync.calls kj27 (fun k_ => k_ < w.heap.size) _ _ l0_0 _ _ l0_1 _ _ l0_2 t441 t444 t447 _ ?side1 ?side2 ?side3 ?side4 ?side5 A81.out).mono ?_
    (case side1 => exact Kd.V_mk HC0_0.out (Kd.F_below (Kd.C_F k77_heap HR0_0.out) (below_y HB.out)))
    (case side2 => repeat (first | exact (Kd.C_below HR0_1.out HB.out) | exact HR0_1.out | (with_reducible refine Kd.C_alloc ?_ _) | (with_reducible refine Kd.C_drewN ?_ _) | (with_reducible refine Kd.C_drew ?_)))
    (case side3 => exact HC0_1.out)
    (case side4 => repeat (first | exact (Kd.C_below HR0_2.out HB.out) | exact HR0_2.out | (with_reducible refine Kd.C_alloc ?_ _) | (with_reducible refine Kd.C_drewN ?_ _) | (with_reducible refine Kd.C_drew ?_)))
    (case side5 => exact HC0_2.out)
    rintro e w94 ⟨v442, v445, v448, rfl, ho0, ho1, ho2, hb⟩
    refine ⟨_, rfl, ?_⟩
    have n0_ := Aside0.mk (Kd.R_below (Kd.R_y HO_412000.out) hb)
    have n1_ := Aside0.mk (Kd.R_below (Kd.R_y HO_412001.out) hb)
    have n2_ := Aside0.mk (Kd.R_elder' (Kd.R_y HO_412002.out) (Kd.R_base ho2) hb)
    have n3_ := Aside0.mk (Kd.R_below (Kd.R_y HO_423000.out) hb)
    have n4_ := Aside0.mk (Kd.V_elder' (Kd.V_y HO_423001.out) (Kd.R_base ho2) hb)
    have n5_ := Aside0.mk (Kd.R_elder' (Kd.R_y HO_423002.out) (Kd.R_base ho2) hb)
    have n6_ := Aside0.mk (Kd.R_below (Kd.R_y HO434.out) hb)
    have n7_ := Aside0.mk (Kd.R_below (Kd.R_y HO437.out) hb)
    have n8_ := Aside0.mk (Kd.R_elder' (Kd.R_y HO440.out) (Kd.R_base ho2) hb)
    have n9_ := Aside0.mk (Kd.V_lower (Kd.V_mono (ok' := fun k_ => some k_ ≠ (v448 : Value).ownBlock ∧ some k_ ≠ (.slice Ao34 t401.length co34 : Value).ownBlock ∧ some k_ ≠ (.slice Ao38 t404.length co38 : Value).ownBlock ∧ some k_ ≠ (.slice Ao39 t407.length co39 : Value).ownBlock ∧ some k_ ≠ (.slice Ao45 t412.length co45 : Value).ownBlock ∧ some k_ ≠ (.slice Ao51 t418.length co51 : Value).ownBlock ∧ some k_ ≠ (v433 : Value).ownBlock ∧ some k_ ≠ (v436 : Value).ownBlock ∧ some k_ ≠ (v439 : Value).ownBlock ∧ k_ ≠ gb397 ∧ k_ ≠ gb398 ∧ k_ ≠ gb411 ∧ k_ ≠ gb422) ho0 (fun k_ hk_ => ⟨hk_.2, Or.elim hk_.1 (fun hs_ => fun e_ => Nat.not_le.2 hs_ (Kd.R_base HO_412000.out k_ e_.symm)) (fun hn_ => (Kd.fresh' (Kd.R_lt (Kd.R_y HO_412000.out)) k_ hn_)), Or.elim hk_.1 (fun hs_ => fun e_ => Nat.not_le.2 hs_ (Kd.R_base HO_412001.out k_ e_.symm)) (fun hn_ => (Kd.fresh' (Kd.R_lt (Kd.R_y HO_412001.out)) k_ hn_)), Or.elim hk_.1 (fun hs_ => fun e_ => Nat.not_le.2 hs_ (Kd.R_base HO_412002.out k_ e_.symm)) (fun hn_ => (Kd.fresh' (Kd.R_lt (Kd.R_y HO_412002.out)) k_ hn_)), Or.elim hk_.1 (fun hs_ => fun e_ => Nat.not_le.2 hs_ (Kd.R_base HO_423000.out k_ e_.symm)) (fun hn_ => (Kd.fresh' (Kd.R_lt (Kd.R_y HO_423000.out)) k_ hn_)), Or.elim hk_.1 (fun hs_ => fun e_ => Nat.not_le.2 hs_ (Kd.R_base HO_423002.out k_ e_.symm)) (fun hn_ => (Kd.fresh' (Kd.R_lt (Kd.R_y HO_423002.out)) k_ hn_)), Or.elim hk_.1 (fun hs_ => fun e_ => Nat.not_le.2 hs_ (Kd.R_base HO434.out k_ e_.symm)) (fun hn_ => (Kd.fresh' (Kd.R_lt (Kd.R_y HO434.out)) k_ hn_)), Or.elim hk_.1 (fun hs_ => fun e_ => Nat.not_le.2 hs_ (Kd.R_base HO437.out k_ e_.symm)) (fun hn_ => (Kd.fresh' (Kd.R_lt (Kd.R_y HO437.out)) k_ hn_)), Or.elim hk_.1 (fun hs_ => fun e_ => Nat.not_le.2 hs_ (Kd.R_base HO440.out k_ e_.symm)) (fun hn_ => (Kd.fresh' (Kd.R_lt (Kd.R_y HO440.out)) k_ hn_)), Or.elim hk_.1 (fun hs_ => fun e_ => Nat.not_le.2 hs_ (by rw [e_]; exact GW397.out)) (fun hn_ => (Kd.freshB (blk_y BK397.out) k_ hn_)), Or.elim hk_.1 (fun hs_ => fun e_ => Nat.not_le.2 hs_ (by rw [e_]; exact GW398.out)) (fun hn_ => (Kd.freshB (blk_y BK398.out) k_ hn_)), Or.elim hk_.1 (fun hs_ => fun e_ => Nat.not_le.2 hs_ (by rw [e_]; exact GW411.out)) (fun hn_ => (Kd.freshB (blk_y BK411.out) k_ hn_)), Or.elim hk_.1 (fun hs_ => fun e_ => Nat.not_le.2 hs_ (by rw [e_]; exact GW422.out)) (fun hn_ => (Kd.freshB (blk_y BK422.out) k_ hn_))⟩)) (below_size (below_y HB.out)))
    have n10_ := Aside0.mk (Kd.V_lower (Kd.V_mono (ok' := fun k_ => some k_ ≠ (v448 : Value).ownBlock ∧ some k_ ≠ (.slice Ao34 t401.length co34 : Value).ownBlock ∧ some k_ ≠ (.slice Ao38 t404.length co38 : Value).ownBlock ∧ some k_ ≠ (.slice Ao39 t407.length co39 : Value).ownBlock ∧ some k_ ≠ (.slice Ao45 t412.length co45 : Value).ownBlock ∧ some k_ ≠ (.slice Ao51 t418.length co51 : Value).ownBlock ∧ some k_ ≠ (v433 : Value).ownBlock ∧ some k_ ≠ (v436 : Value).ownBlock ∧ some k_ ≠ (v439 : Value).ownBlock ∧ k_ ≠ gb397 ∧ k_ ≠ gb398 ∧ k_ ≠ gb411 ∧ k_ ≠ gb422) ho1 (fun k_ hk_ => ⟨hk_.2, Or.elim hk_.1 (fun hs_ => fun e_ => Nat.not_le.2 hs_ (Kd.R_base HO_412000.out k_ e_.symm)) (fun hn_ => (Kd.fresh' (Kd.R_lt (Kd.R_y HO_412000.out)) k_ hn_)), Or.elim hk_.1 (fun hs_ => fun e_ => Nat.not_le.2 hs_ (Kd.R_base HO_412001.out k_ e_.symm)) (fun hn_ => (Kd.fresh' (Kd.R_lt (Kd.R_y HO_412001.out)) k_ hn_)), Or.elim hk_.1 (fun hs_ => fun e_ => Nat.not_le.2 hs_ (Kd.R_base HO_412002.out k_ e_.symm)) (fun hn_ => (Kd.fresh' (Kd.R_lt (Kd.R_y HO_412002.out)) k_ hn_)), Or.elim hk_.1 (fun hs_ => fun e_ => Nat.not_le.2 hs_ (Kd.R_base HO_423000.out k_ e_.symm)) (fun hn_ => (Kd.fresh' (Kd.R_lt (Kd.R_y HO_423000.out)) k_ hn_)), Or.elim hk_.1 (fun hs_ => fun e_ => Nat.not_le.2 hs_ (Kd.R_base HO_423002.out k_ e_.symm)) (fun hn_ => (Kd.fresh' (Kd.R_lt (Kd.R_y HO_423002.out)) k_ hn_)), Or.elim hk_.1 (fun hs_ => fun e_ => Nat.not_le.2 hs_ (Kd.R_base HO434.out k_ e_.symm)) (fun hn_ => (Kd.fresh' (Kd.R_lt (Kd.R_y HO434.out)) k_ hn_)), Or.elim hk_.1 (fun hs_ => fun e_ => Nat.not_le.2 hs_ (Kd.R_base HO437.out k_ e_.symm)) (fun hn_ => (Kd.fresh' (Kd.R_lt (Kd.R_y HO437.out)) k_ hn_)), Or.elim hk_.1 (fun hs_ => fun e_ => Nat.not_le.2 hs_ (Kd.R_base HO440.out k_ e_.symm)) (fun hn_ => (Kd.fresh' (Kd.R_lt (Kd.R_y HO440.out)) k_ hn_)), Or.elim hk_.1 (fun hs_ => fun e_ => Nat.not_le.2 hs_ (by rw [e_]; exact GW397.out)) (fun hn_ => (Kd.freshB (blk_y BK397.out) k_ hn_)), Or.elim hk_.1 (fun hs_ => fun e_ => Nat.not_le.2 hs_ (by rw [e_]; exact GW398.out)) (fun hn_ => (Kd.freshB (blk_y BK398.out) k_ hn_)), Or.elim hk_.1 (fun hs_ => fun e_ => Nat.not_le.2 hs_ (by rw [e_]; exact GW411.out)) (fun hn_ => (Kd.freshB (blk_y BK411.out) k_ hn_)), Or.elim hk_.1 (fun hs_ => fun e_ => Nat.not_le.2 hs_ (by rw [e_]; exact GW422.out)) (fun hn_ => (Kd.freshB (blk_y BK422.out) k_ hn_))⟩)) (below_size (below_y HB.out)))
    have n11_ := Aside0.mk (Kd.R_lower (Kd.R_newB (Kd.R_new' (Kd.R_new' (Kd.R_new' (Kd.R_mono (ok' := fun k_ => True) ho2 (fun _ hk_ => trivial)) (Kd.R_lt (Kd.R_y HO_412002.out))) (Kd.R_lt (Kd.R_y HO_423002.out))) (Kd.R_lt (Kd.R_y HO440.out))) (blk_y BK398.out)) (below_size (below_y HB.out)))
    have n12_ := Aside0.mk (blk_below (blk_y BK397.out) hb)
    have n13_ := Aside0.mk (blk_below (blk_y BK398.out) hb)
    have n14_ := Aside0.mk (blk_below (blk_y BK411.out) hb)
    have n15_ := Aside0.mk (blk_below (blk_y BK422.out) hb)
    have n16_ := Aside0.mk (below_step (below_y HB.out) hb)
    clear HO_412000
    clear HO_412001
    clear HO_412002
    clear HO_423000
    clear HO_423001
    clear HO_423002
    clear HO434
    clear HO437
    clear HO440
    clear BK397
    clear BK398
    clear BK411
    clear BK422
    clear HB
    have HO_412000 := n0_
    have HO_412001 := n1_
    have HO_412002 := n2_
    have HO_423000 := n3_
    have HO_423001 := n4_
    have HO_423002 := n5_
    have HO434 := n6_
    have HO437 := n7_
    have HO440 := n8_
    have HO443 := n9_
    have HO446 := n10_
    have HO449 := n11_
    have BK397 := n12_
    have BK398 := n13_
    have BK411 := n14_
    have BK422 := n15_
    have HB := n16_
    clear n0_ n1_ n2_ n3_ n4_ n5_ n6_ n7_ n8_ n9_ n10_ n11_ n12_ n13_ n14_ n15_ n16_
    (try clear hb)
    (try clear hb2)
    (try clear hk)
    (try clear hi)
    (try clear ho0)
    (try clear ho1)
    (try clear ho2)
    obtain ⟨Ao95, co95, eo95⟩ := Kd.R_slice HO434.out
    (first | subst eo95 | (injection eo95 with f1_ f2_ f3_; have f4_ := f1_.symm; have f5_ := f3_.symm; clear f1_ f2_ f3_; subst f4_; subst f5_))
    obtain ⟨Ao96, co96, eo96⟩ := Kd.R_slice HO437.out
    (first | subst eo96 | (injection eo96 with f1_ f2_ f3_; have f4_ := f1_.symm; have f5_ := f3_.symm; clear f1_ f2_ f3_; subst f4_; subst f5_))
    obtain ⟨Ao97, co97, eo97⟩ := Kd.R_slice HO440.out
    (first | subst eo97 | (injection eo97 with f1_ f2_ f3_; have f4_ := f1_.symm; have f5_ := f3_.symm; clear f1_ f2_ f3_; subst f4_; subst f5_))
    obtain ⟨Ao98, co98, eo98⟩ := Kd.V_slice HO443.out
    (first | subst eo98 | (injection eo98 with f1_ f2_ f3_; have f4_ := f1_.symm; have f5_ := f3_.symm; clear f1_ f2_ f3_; subst f4_; subst f5_))
    obtain ⟨Ao99, co99, eo99⟩ := Kd.V_slice HO446.out
    (first | subst eo99 | (injection eo99 with f1_ f2_ f3_; have f4_ := f1_.symm; have f5_ := f3_.symm; clear f1_ f2_ f3_; subst f4_; subst f5_))
    obtain ⟨Ao100, co100, eo100⟩ := Kd.R_slice HO449.out
    (first | subst eo100 | (injection eo100 with f1_ f2_ f3_; have f4_ := f1_.symm; have f5_ := f3_.symm; clear f1_ f2_ f3_; subst f4_; subst f5_))
    refine hK.out _ _ ⟨(blk_cell BK398.out 0).trans rfl, (blk_cell BK398.out 1).trans rfl, (blk_cell BK398.out 2).trans rfl, (blk_cell BK398.out 3).trans rfl, (blk_cell BK397.out 0).trans rfl, (blk_cell BK397.out 1).trans rfl, (blk_cell BK397.out 2).trans rfl, (blk_cell BK411.out 0).trans rfl, (blk_cell BK411.out 1).trans rfl, (blk_cell BK411.out 2).trans rfl, (blk_cell BK422.out 0).trans rfl, (blk_cell BK422.out 1).trans rfl, (blk_cell BK422.out 2).trans rfl⟩ (fun hHeld => ?_)
    clear hK K
    refine norm_ (a' := ?_) ?_ ?_
    rotate_left
    · show Act.put _ (some 107) _ = _
      simp only [Act.put, List.setIfInBounds_toArray, List.set_cons_zero, List.set_cons_succ, i64_w, i32_w]
      rfl
    refine one_ (i := 29) (N := some 108) #[true, true, true, true, true, true, true, true, true, true, true, true, true, true, true, true, true, true, true, true, true, true, true, true, true, true, true, true, true, true, false, false, false, false, false, false, false, false, false, false, false, false, false, false] rfl rfl (one_of HT_.out (by kernel_rfl)) (by decide) (fun K hK => ?_)
    refine goes_ Try.func50 (by kernel_rfl) rfl #[.agg #[.slice Ao95 t432.length co95, .slice Ao96 t435.length co96, .slice Ao97 t438.length co97], .agg #[.slice Ao98 t441.length co98, .slice Ao99 t444.length co99, .slice Ao100 t447.length co100]] (by rfl) rfl rfl (by (try simp only [List.map_toArray, List.map_cons, List.map_nil]); first | done | rfl | (simp only [List.length_drop, List.length_take]; rfl)) ?_
    with_reducible refine (newsreelref10_Same.calls kj27 _ _ t432 _ _ t435 _ _ t438 _ _ t441 _ _ t444 _ _ t447 true _ ?side1 ?side2 ?side3 ?side4 ?side5 ?side6 ?side7 ?side8 ?side9 ?side10 ?side11 ?side12 A82.out).mono ?_
    (case side1 => exact Kd.C_y (Kd.R_reads' HO434.out).2.2)
    (case side2 => exact (Kd.R_reads' HO434.out).2.1)
    (case side3 => exact Kd.C_y (Kd.R_reads' HO437.out).2.2)
    (case side4 => exact (Kd.R_reads' HO437.out).2.1)
    (case side5 => exact Kd.C_y (Kd.R_reads' HO440.out).2.2)
    (case side6 => exact (Kd.R_reads' HO440.out).2.1)
    (case side7 => exact Kd.C_y (Kd.V_reads' HO443.out).2.2)
    (case side8 => exact (Kd.V_reads' HO443.out).2.1)
    (case side9 => exact Kd.C_y (Kd.V_reads' HO446.out).2.2)
    (case side10 => exact (Kd.V_reads' HO446.out).2.1)
    (case side11 => exact Kd.C_y (Kd.R_reads' HO449.out).2.2)
    (case side12 => exact (Kd.R_reads' HO449.out).2.1)
    rintro e w101 ⟨rfl, hb⟩
    have hbk_w101 := Aside0.mk hb
    refine ⟨_, rfl, ?_⟩
    have n0_ := Aside0.mk (Kd.R_below (Kd.R_y HO_412000.out) hb)
    have n1_ := Aside0.mk (Kd.R_below (Kd.R_y HO_412001.out) hb)
    have n2_ := Aside0.mk (Kd.R_below (Kd.R_y HO_412002.out) hb)
    have n3_ := Aside0.mk (Kd.R_below (Kd.R_y HO_423000.out) hb)
    have n4_ := Aside0.mk (Kd.V_below (Kd.V_y HO_423001.out) hb)
    have n5_ := Aside0.mk (Kd.R_below (Kd.R_y HO_423002.out) hb)
    have n6_ := Aside0.mk (Kd.R_below (Kd.R_y HO434.out) hb)
    have n7_ := Aside0.mk (Kd.R_below (Kd.R_y HO437.out) hb)
    have n8_ := Aside0.mk (Kd.R_below (Kd.R_y HO440.out) hb)
    have n9_ := Aside0.mk (Kd.V_below (Kd.V_y HO443.out) hb)
    have n10_ := Aside0.mk (Kd.V_below (Kd.V_y HO446.out) hb)
    have n11_ := Aside0.mk (Kd.R_below (Kd.R_y HO449.out) hb)
    have n12_ := Aside0.mk (blk_below (blk_y BK397.out) hb)
    have n13_ := Aside0.mk (blk_below (blk_y BK398.out) hb)
    have n14_ := Aside0.mk (blk_below (blk_y BK411.out) hb)
    have n15_ := Aside0.mk (blk_below (blk_y BK422.out) hb)
    have n16_ := Aside0.mk (below_step (below_y HB.out) hb)
    clear HO_412000
    clear HO_412001
    clear HO_412002
    clear HO_423000
    clear HO_423001
    clear HO_423002
    clear HO434
    clear HO437
    clear HO440
    clear HO443
    clear HO446
    clear HO449
    clear BK397
    clear BK398
    clear BK411
    clear BK422
    clear HB
    have HO_412000 := n0_
    have HO_412001 := n1_
    have HO_412002 := n2_
    have HO_423000 := n3_
    have HO_423001 := n4_
    have HO_423002 := n5_
    have HO434 := n6_
    have HO437 := n7_
    have HO440 := n8_
    have HO443 := n9_
    have HO446 := n10_
    have HO449 := n11_
    have BK397 := n12_
    have BK398 := n13_
    have BK411 := n14_
    have BK422 := n15_
    have HB := n16_
    clear n0_ n1_ n2_ n3_ n4_ n5_ n6_ n7_ n8_ n9_ n10_ n11_ n12_ n13_ n14_ n15_ n16_
    (try clear hb)
    (try clear hb2)
    (try clear hk)
    (try clear hi)
    refine hK.out _ _ ⟨(blk_cell BK398.out 0).trans rfl, (blk_cell BK398.out 1).trans rfl, (blk_cell BK398.out 2).trans rfl, (blk_cell BK398.out 3).trans rfl, (blk_cell BK397.out 0).trans rfl, (blk_cell BK397.out 1).trans rfl, (blk_cell BK397.out 2).trans rfl, (blk_cell BK411.out 0).trans rfl, (blk_cell BK411.out 1).trans rfl, (blk_cell BK411.out 2).trans rfl, (blk_cell BK422.out 0).trans rfl, (blk_cell BK422.out 1).trans rfl, (blk_cell BK422.out 2).trans rfl⟩ (fun hHeld => ?_)
    clear hK K
    refine norm_ (a' := ?_) ?_ ?_
    rotate_left
    · show Act.put _ (some 108) _ = _
      simp only [Act.put, List.setIfInBounds_toArray, List.set_cons_zero, List.set_cons_succ, i64_w, i32_w]
      rfl
    refine pure_ (i := 30) (N := some 109) (v := ?_) (a' := ?_) #[true, true, true, true, true, true, true, true, true, true, true, true, true, true, true, true, true, true, true, true, true, true, true, true, true, true, true, true, true, true, true, false, false, false, false, false, false, false, false, false, false, false, false, false] rfl rfl (any_of HT_.out (by kernel_rfl)) (fun _ _ _ h => h) (Or.inl ⟨by rfl, ?_⟩) ?_ ?_
    rotate_left
    · intro w'
      go_simp
      with_reducible rfl
    rotate_left
    · simp only [Act.put, List.setIfInBounds_toArray, List.set_cons_zero, List.set_cons_succ, i64_w, i32_w]
      rfl
    refine pure_ (i := 31) (N := some 110) (v := ?_) (a' := ?_) #[true, true, true, true, true, true, true, true, true, true, true, true, true, true, true, true, true, true, true, true, true, true, true, true, true, true, true, true, true, true, true, true, false, false, false, false, false, false, false, false, false, false, false, false] rfl rfl (any_of HT_.out (by kernel_rfl)) (fun _ _ _ h => h) (Or.inl ⟨by rfl, ?_⟩) ?_ ?_
    rotate_left
    · intro w'
      go_simp
      with_reducible rfl
    rotate_left
    · simp only [Act.put, List.setIfInBounds_toArray, List.set_cons_zero, List.set_cons_succ, i64_w, i32_w]
      rfl
    refine pure_ (i := 33) (N := some 112) (v := ?_) (a' := ?_) #[true, true, true, true, true, true, true, true, true, true, true, true, true, true, true, true, true, true, true, true, true, true, true, true, true, true, true, true, true, true, true, true, false, true, false, false, false, false, false, false, false, false, false, false] rfl rfl (any_of HT_.out (by kernel_rfl)) (fun _ _ _ h => h) (Or.inl ⟨by rfl, ?_⟩) ?_ ?_
    rotate_left
    · intro w'
      go_simp
      with_reducible rfl
    rotate_left
    · simp only [Act.put, List.setIfInBounds_toArray, List.set_cons_zero, List.set_cons_succ, i64_w, i32_w]
      rfl
    refine pure_ (i := 36) (N := some 115) (v := ?_) (a' := ?_) #[true, true, true, true, true, true, true, true, true, true, true, true, true, true, true, true, true, true, true, true, true, true, true, true, true, true, true, true, true, true, true, true, false, true, false, false, true, false, false, false, false, false, false, false] rfl rfl (any_of HT_.out (by kernel_rfl)) (fun _ _ _ h => h) (Or.inl ⟨by rfl, ?_⟩) ?_ ?_
    rotate_left
    · intro w'
      go_simp
      with_reducible rfl
    rotate_left
    · simp only [Act.put, List.setIfInBounds_toArray, List.set_cons_zero, List.set_cons_succ, i64_w, i32_w]
      rfl
    refine take_ (i := 32) (N := some 111) (v := ?_) (a' := ?_) #[true, true, true, true, true, true, true, true, true, true, true, true, true, true, true, true, true, true, true, true, true, true, true, true, true, true, true, true, true, true, true, true, true, true, false, false, true, false, false, false, false, false, false, false] rfl rfl (take_ofW HT_.out HW_.out (by kernel_rfl)) (fun _ _ _ h => h) (Or.inl ⟨by rfl, ?_⟩) hHeld ?_ ?_
    rotate_left
    · rintro w' ⟨s0, s1, s2, s3, s4, s5, s6, s7, s8, s9, s10, s11, s12⟩
      go_simp
      with_reducible rfl
    rotate_left
    · simp only [Act.put, List.setIfInBounds_toArray, List.set_cons_zero, List.set_cons_succ, i64_w, i32_w]
      rfl
    refine take_ (i := 35) (N := some 114) (v := ?_) (a' := ?_) #[true, true, true, true, true, true, true, true, true, true, true, true, true, true, true, true, true, true, true, true, true, true, true, true, true, true, true, true, true, true, true, true, true, true, false, true, true, false, false, false, false, false, false, false] rfl rfl (take_ofW HT_.out HW_.out (by kernel_rfl)) (fun _ _ _ h => h) (Or.inl ⟨by rfl, ?_⟩) hHeld ?_ ?_
    rotate_left
    · rintro w' ⟨s0, s1, s2, s3, s4, s5, s6, s7, s8, s9, s10, s11, s12⟩
      go_simp
      with_reducible rfl
    rotate_left
    · simp only [Act.put, List.setIfInBounds_toArray, List.set_cons_zero, List.set_cons_succ, i64_w, i32_w]
      rfl
    refine one_ (i := 34) (N := some 113) #[true, true, true, true, true, true, true, true, true, true, true, true, true, true, true, true, true, true, true, true, true, true, true, true, true, true, true, true, true, true, true, true, true, true, true, true, true, false, false, false, false, false, false, false] rfl rfl (one_of HT_.out (by kernel_rfl)) (by decide) (fun K hK => ?_)
    refine goes_ Try.func53 (by kernel_rfl) rfl #[.agg #[.slice A0_0 l0_0.length c0_0, .slice A0_1 l0_1.length c0_1, .slice A0_2 l0_2.length c0_2], .int .i64 a2] (by rfl) rfl rfl (by (try simp only [List.map_toArray, List.map_cons, List.map_nil]); first | done | rfl | (simp only [List.length_drop, List.length_take]; rfl)) ?_
    with_reducible refine (dir_Crash.calls kj27 _ _ l0_0 _ _ l0_1 _ _ l0_2 a2 t451 t454 t457 _ ?side1 ?side2 ?side3 ?side4 ?side5 ?side6 A84.out).mono ?_
    (case side1 => repeat (first | exact (Kd.C_below HR0_0.out HB.out) | exact HR0_0.out | (with_reducible refine Kd.C_alloc ?_ _) | (with_reducible refine Kd.C_drewN ?_ _) | (with_reducible refine Kd.C_drew ?_)))
    (case side2 => exact HC0_0.out)
    (case side3 => repeat (first | exact (Kd.C_below HR0_1.out HB.out) | exact HR0_1.out | (with_reducible refine Kd.C_alloc ?_ _) | (with_reducible refine Kd.C_drewN ?_ _) | (with_reducible refine Kd.C_drew ?_)))
    (case side4 => exact HC0_1.out)
    (case side5 => repeat (first | exact (Kd.C_below HR0_2.out HB.out) | exact HR0_2.out | (with_reducible refine Kd.C_alloc ?_ _) | (with_reducible refine Kd.C_drewN ?_ _) | (with_reducible refine Kd.C_drew ?_)))
    (case side6 => exact HC0_2.out)
    rintro e w102 ⟨v452, v455, v458, rfl, ho0, ho1, ho2, hb⟩
    refine ⟨_, rfl, ?_⟩
    have n0_ := Aside0.mk (Kd.R_mono (Kd.R_told (Kd.R_told (Kd.R_old (Kd.R_y HO_412000.out) hb) (Kd.R_base ho0)) (Kd.R_base ho1)) (fun _ h_ => h_.1))
    have n1_ := Aside0.mk (Kd.R_mono (Kd.R_told (Kd.R_told (Kd.R_old (Kd.R_y HO_412001.out) hb) (Kd.R_base ho0)) (Kd.R_base ho1)) (fun _ h_ => h_.1))
    have n2_ := Aside0.mk (Kd.R_elder' (Kd.R_y HO_412002.out) (Kd.R_base ho2) hb)
    have n3_ := Aside0.mk (Kd.R_mono (Kd.R_told (Kd.R_told (Kd.R_old (Kd.R_y HO_423000.out) hb) (Kd.R_base ho0)) (Kd.R_base ho1)) (fun _ h_ => h_.1))
    have n4_ := Aside0.mk (Kd.V_mono (Kd.V_told (Kd.V_told (Kd.V_told (Kd.V_old (Kd.V_y HO_423001.out) hb) (Kd.R_base ho0)) (Kd.R_base ho1)) (Kd.R_base ho2)) (fun _ h_ => h_.1))
    have n5_ := Aside0.mk (Kd.R_elder' (Kd.R_y HO_423002.out) (Kd.R_base ho2) hb)
    have n6_ := Aside0.mk (Kd.R_mono (Kd.R_told (Kd.R_told (Kd.R_old (Kd.R_y HO434.out) hb) (Kd.R_base ho0)) (Kd.R_base ho1)) (fun _ h_ => h_.1))
    have n7_ := Aside0.mk (Kd.R_mono (Kd.R_told (Kd.R_told (Kd.R_old (Kd.R_y HO437.out) hb) (Kd.R_base ho0)) (Kd.R_base ho1)) (fun _ h_ => h_.1))
    have n8_ := Aside0.mk (Kd.R_elder' (Kd.R_y HO440.out) (Kd.R_base ho2) hb)
    have n9_ := Aside0.mk (Kd.V_mono (Kd.V_told (Kd.V_told (Kd.V_told (Kd.V_old (Kd.V_y HO443.out) hb) (Kd.R_base ho0)) (Kd.R_base ho1)) (Kd.R_base ho2)) (fun _ h_ => h_.1))
    have n10_ := Aside0.mk (Kd.V_mono (Kd.V_told (Kd.V_told (Kd.V_told (Kd.V_old (Kd.V_y HO446.out) hb) (Kd.R_base ho0)) (Kd.R_base ho1)) (Kd.R_base ho2)) (fun _ h_ => h_.1))
    have n11_ := Aside0.mk (Kd.R_elder' (Kd.R_y HO449.out) (Kd.R_base ho2) hb)
    have n12_ := Aside0.mk (Kd.R_lower (Kd.R_new' (Kd.R_new' (Kd.R_new' (Kd.R_new' (Kd.R_new' ho0 (Kd.R_lt (Kd.R_y HO_412000.out))) (Kd.R_lt (Kd.R_y HO_412001.out))) (Kd.R_lt (Kd.R_y HO_423000.out))) (Kd.R_lt (Kd.R_y HO434.out))) (Kd.R_lt (Kd.R_y HO437.out))) (below_size (below_y HB.out)))
    have n13_ := Aside0.mk (Kd.R_lower (Kd.R_new' (Kd.R_new' (Kd.R_new' (Kd.R_new' (Kd.R_new' ho1 (Kd.R_lt (Kd.R_y HO_412000.out))) (Kd.R_lt (Kd.R_y HO_412001.out))) (Kd.R_lt (Kd.R_y HO_423000.out))) (Kd.R_lt (Kd.R_y HO434.out))) (Kd.R_lt (Kd.R_y HO437.out))) (below_size (below_y HB.out)))
    have n14_ := Aside0.mk (Kd.R_lower (Kd.R_newB (Kd.R_new' (Kd.R_new' (Kd.R_new' (Kd.R_new' ho2 (Kd.R_lt (Kd.R_y HO_412002.out))) (Kd.R_lt (Kd.R_y HO_423002.out))) (Kd.R_lt (Kd.R_y HO440.out))) (Kd.R_lt (Kd.R_y HO449.out))) (blk_y BK398.out)) (below_size (below_y HB.out)))
    have n15_ := Aside0.mk (blk_below (blk_y BK397.out) hb)
    have n16_ := Aside0.mk (blk_below (blk_y BK398.out) hb)
    have n17_ := Aside0.mk (blk_below (blk_y BK411.out) hb)
    have n18_ := Aside0.mk (blk_below (blk_y BK422.out) hb)
    have n19_ := Aside0.mk (below_step (below_y HB.out) hb)
    clear HO_412000
    clear HO_412001
    clear HO_412002
    clear HO_423000
    clear HO_423001
    clear HO_423002
    clear HO434
    clear HO437
    clear HO440
    clear HO443
    clear HO446
    clear HO449
    clear BK397
    clear BK398
    clear BK411
    clear BK422
    clear HB
    have HO_412000 := n0_
    have HO_412001 := n1_
    have HO_412002 := n2_
    have HO_423000 := n3_
    have HO_423001 := n4_
    have HO_423002 := n5_
    have HO434 := n6_
    have HO437 := n7_
    have HO440 := n8_
    have HO443 := n9_
    have HO446 := n10_
    have HO449 := n11_
    have HO453 := n12_
    have HO456 := n13_
    have HO459 := n14_
    have BK397 := n15_
    have BK398 := n16_
    have BK411 := n17_
    have BK422 := n18_
    have HB := n19_
    clear n0_ n1_ n2_ n3_ n4_ n5_ n6_ n7_ n8_ n9_ n10_ n11_ n12_ n13_ n14_ n15_ n16_ n17_ n18_ n19_
    (try clear hb)
    (try clear hb2)
    (try clear hk)
    (try clear hi)
    (try clear ho0)
    (try clear ho1)
    (try clear ho2)
    refine hK.out _ _ ⟨(blk_cell BK398.out 0).trans rfl, (blk_cell BK398.out 1).trans rfl, (blk_cell BK398.out 2).trans rfl, (blk_cell BK398.out 3).trans rfl, (blk_cell BK397.out 0).trans rfl, (blk_cell BK397.out 1).trans rfl, (blk_cell BK397.out 2).trans rfl, (blk_cell BK411.out 0).trans rfl, (blk_cell BK411.out 1).trans rfl, (blk_cell BK411.out 2).trans rfl, (blk_cell BK422.out 0).trans rfl, (blk_cell BK422.out 1).trans rfl, (blk_cell BK422.out 2).trans rfl⟩ (fun hHeld => ?_)
    clear hK K
    refine norm_ (a' := ?_) ?_ ?_
    rotate_left
    · show Act.put _ (some 113) _ = _
      simp only [Act.put, List.setIfInBounds_toArray, List.set_cons_zero, List.set_cons_succ, i64_w, i32_w]
      rfl
    refine one_ (i := 37) (N := some 116) #[true, true, true, true, true, true, true, true, true, true, true, true, true, true, true, true, true, true, true, true, true, true, true, true, true, true, true, true, true, true, true, true, true, true, true, true, true, true, false, false, false, false, false, false] rfl rfl (one_of HT_.out (by kernel_rfl)) (by decide) (fun K hK => ?_)
    refine goes_ Try.func54 (by kernel_rfl) rfl #[.agg #[.slice A0_0 l0_0.length c0_0, .slice A0_1 l0_1.length c0_1, .slice A0_2 l0_2.length c0_2], .int .i64 a2] (by rfl) rfl rfl (by (try simp only [List.map_toArray, List.map_cons, List.map_nil]); first | done | rfl | (simp only [List.length_drop, List.length_take]; rfl)) ?_
    with_reducible refine (newsreelref10_Crash.calls kj27 _ _ l0_0 (fun k_ => k_ < w.heap.size) _ _ l0_1 _ _ l0_2 a2 t460 t463 t466 _ ?side1 ?side2 ?side3 ?side4 ?side5 A85.out).mono ?_
    (case side1 => repeat (first | exact (Kd.C_below HR0_0.out HB.out) | exact HR0_0.out | (with_reducible refine Kd.C_alloc ?_ _) | (with_reducible refine Kd.C_drewN ?_ _) | (with_reducible refine Kd.C_drew ?_)))
    (case side2 => exact HC0_0.out)
    (case side3 => exact Kd.V_mk HC0_1.out (Kd.F_below (Kd.C_F k77_heap HR0_1.out) (below_y HB.out)))
    (case side4 => repeat (first | exact (Kd.C_below HR0_2.out HB.out) | exact HR0_2.out | (with_reducible refine Kd.C_alloc ?_ _) | (with_reducible refine Kd.C_drewN ?_ _) | (with_reducible refine Kd.C_drew ?_)))
    (case side5 => exact HC0_2.out)
    rintro e w103 ⟨v461, v464, v467, rfl, ho0, ho1, ho2, hb⟩
    refine ⟨_, rfl, ?_⟩
    have n0_ := Aside0.mk (Kd.R_below (Kd.R_y HO_412000.out) hb)
    have n1_ := Aside0.mk (Kd.R_below (Kd.R_y HO_412001.out) hb)
    have n2_ := Aside0.mk (Kd.R_elder' (Kd.R_y HO_412002.out) (Kd.R_base ho2) hb)
    have n3_ := Aside0.mk (Kd.R_below (Kd.R_y HO_423000.out) hb)
    have n4_ := Aside0.mk (Kd.V_elder' (Kd.V_y HO_423001.out) (Kd.R_base ho2) hb)
    have n5_ := Aside0.mk (Kd.R_elder' (Kd.R_y HO_423002.out) (Kd.R_base ho2) hb)
    have n6_ := Aside0.mk (Kd.R_below (Kd.R_y HO434.out) hb)
    have n7_ := Aside0.mk (Kd.R_below (Kd.R_y HO437.out) hb)
    have n8_ := Aside0.mk (Kd.R_elder' (Kd.R_y HO440.out) (Kd.R_base ho2) hb)
    have n9_ := Aside0.mk (Kd.V_elder' (Kd.V_y HO443.out) (Kd.R_base ho2) hb)
    have n10_ := Aside0.mk (Kd.V_elder' (Kd.V_y HO446.out) (Kd.R_base ho2) hb)
    have n11_ := Aside0.mk (Kd.R_elder' (Kd.R_y HO449.out) (Kd.R_base ho2) hb)
    have n12_ := Aside0.mk (Kd.R_below (Kd.R_y HO453.out) hb)
    have n13_ := Aside0.mk (Kd.R_below (Kd.R_y HO456.out) hb)
    have n14_ := Aside0.mk (Kd.R_elder' (Kd.R_y HO459.out) (Kd.R_base ho2) hb)
    have n15_ := Aside0.mk (Kd.V_lower (Kd.V_mono (ok' := fun k_ => some k_ ≠ (v467 : Value).ownBlock ∧ some k_ ≠ (.slice Ao34 t401.length co34 : Value).ownBlock ∧ some k_ ≠ (.slice Ao38 t404.length co38 : Value).ownBlock ∧ some k_ ≠ (.slice Ao39 t407.length co39 : Value).ownBlock ∧ some k_ ≠ (.slice Ao45 t412.length co45 : Value).ownBlock ∧ some k_ ≠ (.slice Ao51 t418.length co51 : Value).ownBlock ∧ some k_ ≠ (.slice Ao95 t432.length co95 : Value).ownBlock ∧ some k_ ≠ (.slice Ao96 t435.length co96 : Value).ownBlock ∧ some k_ ≠ (.slice Ao97 t438.length co97 : Value).ownBlock ∧ some k_ ≠ (.slice Ao100 t447.length co100 : Value).ownBlock ∧ some k_ ≠ (v452 : Value).ownBlock ∧ some k_ ≠ (v455 : Value).ownBlock ∧ some k_ ≠ (v458 : Value).ownBlock ∧ k_ ≠ gb397 ∧ k_ ≠ gb398 ∧ k_ ≠ gb411 ∧ k_ ≠ gb422) ho0 (fun k_ hk_ => ⟨hk_.2, Or.elim hk_.1 (fun hs_ => fun e_ => Nat.not_le.2 hs_ (Kd.R_base HO_412000.out k_ e_.symm)) (fun hn_ => (Kd.fresh' (Kd.R_lt (Kd.R_y HO_412000.out)) k_ hn_)), Or.elim hk_.1 (fun hs_ => fun e_ => Nat.not_le.2 hs_ (Kd.R_base HO_412001.out k_ e_.symm)) (fun hn_ => (Kd.fresh' (Kd.R_lt (Kd.R_y HO_412001.out)) k_ hn_)), Or.elim hk_.1 (fun hs_ => fun e_ => Nat.not_le.2 hs_ (Kd.R_base HO_412002.out k_ e_.symm)) (fun hn_ => (Kd.fresh' (Kd.R_lt (Kd.R_y HO_412002.out)) k_ hn_)), Or.elim hk_.1 (fun hs_ => fun e_ => Nat.not_le.2 hs_ (Kd.R_base HO_423000.out k_ e_.symm)) (fun hn_ => (Kd.fresh' (Kd.R_lt (Kd.R_y HO_423000.out)) k_ hn_)), Or.elim hk_.1 (fun hs_ => fun e_ => Nat.not_le.2 hs_ (Kd.R_base HO_423002.out k_ e_.symm)) (fun hn_ => (Kd.fresh' (Kd.R_lt (Kd.R_y HO_423002.out)) k_ hn_)), Or.elim hk_.1 (fun hs_ => fun e_ => Nat.not_le.2 hs_ (Kd.R_base HO434.out k_ e_.symm)) (fun hn_ => (Kd.fresh' (Kd.R_lt (Kd.R_y HO434.out)) k_ hn_)), Or.elim hk_.1 (fun hs_ => fun e_ => Nat.not_le.2 hs_ (Kd.R_base HO437.out k_ e_.symm)) (fun hn_ => (Kd.fresh' (Kd.R_lt (Kd.R_y HO437.out)) k_ hn_)), Or.elim hk_.1 (fun hs_ => fun e_ => Nat.not_le.2 hs_ (Kd.R_base HO440.out k_ e_.symm)) (fun hn_ => (Kd.fresh' (Kd.R_lt (Kd.R_y HO440.out)) k_ hn_)), Or.elim hk_.1 (fun hs_ => fun e_ => Nat.not_le.2 hs_ (Kd.R_base HO449.out k_ e_.symm)) (fun hn_ => (Kd.fresh' (Kd.R_lt (Kd.R_y HO449.out)) k_ hn_)), Or.elim hk_.1 (fun hs_ => fun e_ => Nat.not_le.2 hs_ (Kd.R_base HO453.out k_ e_.symm)) (fun hn_ => (Kd.fresh' (Kd.R_lt (Kd.R_y HO453.out)) k_ hn_)), Or.elim hk_.1 (fun hs_ => fun e_ => Nat.not_le.2 hs_ (Kd.R_base HO456.out k_ e_.symm)) (fun hn_ => (Kd.fresh' (Kd.R_lt (Kd.R_y HO456.out)) k_ hn_)), Or.elim hk_.1 (fun hs_ => fun e_ => Nat.not_le.2 hs_ (Kd.R_base HO459.out k_ e_.symm)) (fun hn_ => (Kd.fresh' (Kd.R_lt (Kd.R_y HO459.out)) k_ hn_)), Or.elim hk_.1 (fun hs_ => fun e_ => Nat.not_le.2 hs_ (by rw [e_]; exact GW397.out)) (fun hn_ => (Kd.freshB (blk_y BK397.out) k_ hn_)), Or.elim hk_.1 (fun hs_ => fun e_ => Nat.not_le.2 hs_ (by rw [e_]; exact GW398.out)) (fun hn_ => (Kd.freshB (blk_y BK398.out) k_ hn_)), Or.elim hk_.1 (fun hs_ => fun e_ => Nat.not_le.2 hs_ (by rw [e_]; exact GW411.out)) (fun hn_ => (Kd.freshB (blk_y BK411.out) k_ hn_)), Or.elim hk_.1 (fun hs_ => fun e_ => Nat.not_le.2 hs_ (by rw [e_]; exact GW422.out)) (fun hn_ => (Kd.freshB (blk_y BK422.out) k_ hn_))⟩)) (below_size (below_y HB.out)))
    have n16_ := Aside0.mk (Kd.V_lower (Kd.V_mono (ok' := fun k_ => some k_ ≠ (v467 : Value).ownBlock ∧ some k_ ≠ (.slice Ao34 t401.length co34 : Value).ownBlock ∧ some k_ ≠ (.slice Ao38 t404.length co38 : Value).ownBlock ∧ some k_ ≠ (.slice Ao39 t407.length co39 : Value).ownBlock ∧ some k_ ≠ (.slice Ao45 t412.length co45 : Value).ownBlock ∧ some k_ ≠ (.slice Ao51 t418.length co51 : Value).ownBlock ∧ some k_ ≠ (.slice Ao95 t432.length co95 : Value).ownBlock ∧ some k_ ≠ (.slice Ao96 t435.length co96 : Value).ownBlock ∧ some k_ ≠ (.slice Ao97 t438.length co97 : Value).ownBlock ∧ some k_ ≠ (.slice Ao100 t447.length co100 : Value).ownBlock ∧ some k_ ≠ (v452 : Value).ownBlock ∧ some k_ ≠ (v455 : Value).ownBlock ∧ some k_ ≠ (v458 : Value).ownBlock ∧ k_ ≠ gb397 ∧ k_ ≠ gb398 ∧ k_ ≠ gb411 ∧ k_ ≠ gb422) ho1 (fun k_ hk_ => ⟨hk_.2, Or.elim hk_.1 (fun hs_ => fun e_ => Nat.not_le.2 hs_ (Kd.R_base HO_412000.out k_ e_.symm)) (fun hn_ => (Kd.fresh' (Kd.R_lt (Kd.R_y HO_412000.out)) k_ hn_)), Or.elim hk_.1 (fun hs_ => fun e_ => Nat.not_le.2 hs_ (Kd.R_base HO_412001.out k_ e_.symm)) (fun hn_ => (Kd.fresh' (Kd.R_lt (Kd.R_y HO_412001.out)) k_ hn_)), Or.elim hk_.1 (fun hs_ => fun e_ => Nat.not_le.2 hs_ (Kd.R_base HO_412002.out k_ e_.symm)) (fun hn_ => (Kd.fresh' (Kd.R_lt (Kd.R_y HO_412002.out)) k_ hn_)), Or.elim hk_.1 (fun hs_ => fun e_ => Nat.not_le.2 hs_ (Kd.R_base HO_423000.out k_ e_.symm)) (fun hn_ => (Kd.fresh' (Kd.R_lt (Kd.R_y HO_423000.out)) k_ hn_)), Or.elim hk_.1 (fun hs_ => fun e_ => Nat.not_le.2 hs_ (Kd.R_base HO_423002.out k_ e_.symm)) (fun hn_ => (Kd.fresh' (Kd.R_lt (Kd.R_y HO_423002.out)) k_ hn_)), Or.elim hk_.1 (fun hs_ => fun e_ => Nat.not_le.2 hs_ (Kd.R_base HO434.out k_ e_.symm)) (fun hn_ => (Kd.fresh' (Kd.R_lt (Kd.R_y HO434.out)) k_ hn_)), Or.elim hk_.1 (fun hs_ => fun e_ => Nat.not_le.2 hs_ (Kd.R_base HO437.out k_ e_.symm)) (fun hn_ => (Kd.fresh' (Kd.R_lt (Kd.R_y HO437.out)) k_ hn_)), Or.elim hk_.1 (fun hs_ => fun e_ => Nat.not_le.2 hs_ (Kd.R_base HO440.out k_ e_.symm)) (fun hn_ => (Kd.fresh' (Kd.R_lt (Kd.R_y HO440.out)) k_ hn_)), Or.elim hk_.1 (fun hs_ => fun e_ => Nat.not_le.2 hs_ (Kd.R_base HO449.out k_ e_.symm)) (fun hn_ => (Kd.fresh' (Kd.R_lt (Kd.R_y HO449.out)) k_ hn_)), Or.elim hk_.1 (fun hs_ => fun e_ => Nat.not_le.2 hs_ (Kd.R_base HO453.out k_ e_.symm)) (fun hn_ => (Kd.fresh' (Kd.R_lt (Kd.R_y HO453.out)) k_ hn_)), Or.elim hk_.1 (fun hs_ => fun e_ => Nat.not_le.2 hs_ (Kd.R_base HO456.out k_ e_.symm)) (fun hn_ => (Kd.fresh' (Kd.R_lt (Kd.R_y HO456.out)) k_ hn_)), Or.elim hk_.1 (fun hs_ => fun e_ => Nat.not_le.2 hs_ (Kd.R_base HO459.out k_ e_.symm)) (fun hn_ => (Kd.fresh' (Kd.R_lt (Kd.R_y HO459.out)) k_ hn_)), Or.elim hk_.1 (fun hs_ => fun e_ => Nat.not_le.2 hs_ (by rw [e_]; exact GW397.out)) (fun hn_ => (Kd.freshB (blk_y BK397.out) k_ hn_)), Or.elim hk_.1 (fun hs_ => fun e_ => Nat.not_le.2 hs_ (by rw [e_]; exact GW398.out)) (fun hn_ => (Kd.freshB (blk_y BK398.out) k_ hn_)), Or.elim hk_.1 (fun hs_ => fun e_ => Nat.not_le.2 hs_ (by rw [e_]; exact GW411.out)) (fun hn_ => (Kd.freshB (blk_y BK411.out) k_ hn_)), Or.elim hk_.1 (fun hs_ => fun e_ => Nat.not_le.2 hs_ (by rw [e_]; exact GW422.out)) (fun hn_ => (Kd.freshB (blk_y BK422.out) k_ hn_))⟩)) (below_size (below_y HB.out)))
    have n17_ := Aside0.mk (Kd.R_lower (Kd.R_newB (Kd.R_new' (Kd.R_new' (Kd.R_new' (Kd.R_new' (Kd.R_new' (Kd.R_mono (ok' := fun k_ => True) ho2 (fun _ hk_ => trivial)) (Kd.R_lt (Kd.R_y HO_412002.out))) (Kd.R_lt (Kd.R_y HO_423002.out))) (Kd.R_lt (Kd.R_y HO440.out))) (Kd.R_lt (Kd.R_y HO449.out))) (Kd.R_lt (Kd.R_y HO459.out))) (blk_y BK398.out)) (below_size (below_y HB.out)))
    have n18_ := Aside0.mk (blk_below (blk_y BK397.out) hb)
    have n19_ := Aside0.mk (blk_below (blk_y BK398.out) hb)
    have n20_ := Aside0.mk (blk_below (blk_y BK411.out) hb)
    have n21_ := Aside0.mk (blk_below (blk_y BK422.out) hb)
    have n22_ := Aside0.mk (below_step (below_y HB.out) hb)
    clear HO_412000
    clear HO_412001
    clear HO_412002
    clear HO_423000
    clear HO_423001
    clear HO_423002
    clear HO434
    clear HO437
    clear HO440
    clear HO443
    clear HO446
    clear HO449
    clear HO453
    clear HO456
    clear HO459
    clear BK397
    clear BK398
    clear BK411
    clear BK422
    clear HB
    have HO_412000 := n0_
    have HO_412001 := n1_
    have HO_412002 := n2_
    have HO_423000 := n3_
    have HO_423001 := n4_
    have HO_423002 := n5_
    have HO434 := n6_
    have HO437 := n7_
    have HO440 := n8_
    have HO443 := n9_
    have HO446 := n10_
    have HO449 := n11_
    have HO453 := n12_
    have HO456 := n13_
    have HO459 := n14_
    have HO462 := n15_
    have HO465 := n16_
    have HO468 := n17_
    have BK397 := n18_
    have BK398 := n19_
    have BK411 := n20_
    have BK422 := n21_
    have HB := n22_
    clear n0_ n1_ n2_ n3_ n4_ n5_ n6_ n7_ n8_ n9_ n10_ n11_ n12_ n13_ n14_ n15_ n16_ n17_ n18_ n19_ n20_ n21_ n22_
    (try clear hb)
    (try clear hb2)
    (try clear hk)
    (try clear hi)
    (try clear ho0)
    (try clear ho1)
    (try clear ho2)
    obtain ⟨Ao104, co104, eo104⟩ := Kd.R_slice HO453.out
    (first | subst eo104 | (injection eo104 with f1_ f2_ f3_; have f4_ := f1_.symm; have f5_ := f3_.symm; clear f1_ f2_ f3_; subst f4_; subst f5_))
    obtain ⟨Ao105, co105, eo105⟩ := Kd.R_slice HO456.out
    (first | subst eo105 | (injection eo105 with f1_ f2_ f3_; have f4_ := f1_.symm; have f5_ := f3_.symm; clear f1_ f2_ f3_; subst f4_; subst f5_))
    obtain ⟨Ao106, co106, eo106⟩ := Kd.R_slice HO459.out
    (first | subst eo106 | (injection eo106 with f1_ f2_ f3_; have f4_ := f1_.symm; have f5_ := f3_.symm; clear f1_ f2_ f3_; subst f4_; subst f5_))
    obtain ⟨Ao107, co107, eo107⟩ := Kd.V_slice HO462.out
    (first | subst eo107 | (injection eo107 with f1_ f2_ f3_; have f4_ := f1_.symm; have f5_ := f3_.symm; clear f1_ f2_ f3_; subst f4_; subst f5_))
    obtain ⟨Ao108, co108, eo108⟩ := Kd.V_slice HO465.out
    (first | subst eo108 | (injection eo108 with f1_ f2_ f3_; have f4_ := f1_.symm; have f5_ := f3_.symm; clear f1_ f2_ f3_; subst f4_; subst f5_))
    obtain ⟨Ao109, co109, eo109⟩ := Kd.R_slice HO468.out
    (first | subst eo109 | (injection eo109 with f1_ f2_ f3_; have f4_ := f1_.symm; have f5_ := f3_.symm; clear f1_ f2_ f3_; subst f4_; subst f5_))
    refine hK.out _ _ ⟨(blk_cell BK398.out 0).trans rfl, (blk_cell BK398.out 1).trans rfl, (blk_cell BK398.out 2).trans rfl, (blk_cell BK398.out 3).trans rfl, (blk_cell BK397.out 0).trans rfl, (blk_cell BK397.out 1).trans rfl, (blk_cell BK397.out 2).trans rfl, (blk_cell BK411.out 0).trans rfl, (blk_cell BK411.out 1).trans rfl, (blk_cell BK411.out 2).trans rfl, (blk_cell BK422.out 0).trans rfl, (blk_cell BK422.out 1).trans rfl, (blk_cell BK422.out 2).trans rfl⟩ (fun hHeld => ?_)
    clear hK K
    refine norm_ (a' := ?_) ?_ ?_
    rotate_left
    · show Act.put _ (some 116) _ = _
      simp only [Act.put, List.setIfInBounds_toArray, List.set_cons_zero, List.set_cons_succ, i64_w, i32_w]
      rfl
    refine one_ (i := 38) (N := some 117) #[true, true, true, true, true, true, true, true, true, true, true, true, true, true, true, true, true, true, true, true, true, true, true, true, true, true, true, true, true, true, true, true, true, true, true, true, true, true, true, false, false, false, false, false] rfl rfl (one_of HT_.out (by kernel_rfl)) (by decide) (fun K hK => ?_)
    refine goes_ Try.func50 (by kernel_rfl) rfl #[.agg #[.slice Ao104 t451.length co104, .slice Ao105 t454.length co105, .slice Ao106 t457.length co106], .agg #[.slice Ao107 t460.length co107, .slice Ao108 t463.length co108, .slice Ao109 t466.length co109]] (by rfl) rfl rfl (by (try simp only [List.map_toArray, List.map_cons, List.map_nil]); first | done | rfl | (simp only [List.length_drop, List.length_take]; rfl)) ?_
    with_reducible refine (newsreelref10_Same.calls kj27 _ _ t451 _ _ t454 _ _ t457 _ _ t460 _ _ t463 _ _ t466 true _ ?side1 ?side2 ?side3 ?side4 ?side5 ?side6 ?side7 ?side8 ?side9 ?side10 ?side11 ?side12 A86.out).mono ?_
    (case side1 => exact Kd.C_y (Kd.R_reads' HO453.out).2.2)
    (case side2 => exact (Kd.R_reads' HO453.out).2.1)
    (case side3 => exact Kd.C_y (Kd.R_reads' HO456.out).2.2)
    (case side4 => exact (Kd.R_reads' HO456.out).2.1)
    (case side5 => exact Kd.C_y (Kd.R_reads' HO459.out).2.2)
    (case side6 => exact (Kd.R_reads' HO459.out).2.1)
    (case side7 => exact Kd.C_y (Kd.V_reads' HO462.out).2.2)
    (case side8 => exact (Kd.V_reads' HO462.out).2.1)
    (case side9 => exact Kd.C_y (Kd.V_reads' HO465.out).2.2)
    (case side10 => exact (Kd.V_reads' HO465.out).2.1)
    (case side11 => exact Kd.C_y (Kd.R_reads' HO468.out).2.2)
    (case side12 => exact (Kd.R_reads' HO468.out).2.1)
    rintro e w110 ⟨rfl, hb⟩
    have hbk_w110 := Aside0.mk hb
    refine ⟨_, rfl, ?_⟩
    have n0_ := Aside0.mk (Kd.R_below (Kd.R_y HO_412000.out) hb)
    have n1_ := Aside0.mk (Kd.R_below (Kd.R_y HO_412001.out) hb)
    have n2_ := Aside0.mk (Kd.R_below (Kd.R_y HO_412002.out) hb)
    have n3_ := Aside0.mk (Kd.R_below (Kd.R_y HO_423000.out) hb)
    have n4_ := Aside0.mk (Kd.V_below (Kd.V_y HO_423001.out) hb)
    have n5_ := Aside0.mk (Kd.R_below (Kd.R_y HO_423002.out) hb)
    have n6_ := Aside0.mk (Kd.R_below (Kd.R_y HO434.out) hb)
    have n7_ := Aside0.mk (Kd.R_below (Kd.R_y HO437.out) hb)
    have n8_ := Aside0.mk (Kd.R_below (Kd.R_y HO440.out) hb)
    have n9_ := Aside0.mk (Kd.V_below (Kd.V_y HO443.out) hb)
    have n10_ := Aside0.mk (Kd.V_below (Kd.V_y HO446.out) hb)
    have n11_ := Aside0.mk (Kd.R_below (Kd.R_y HO449.out) hb)
    have n12_ := Aside0.mk (Kd.R_below (Kd.R_y HO453.out) hb)
    have n13_ := Aside0.mk (Kd.R_below (Kd.R_y HO456.out) hb)
    have n14_ := Aside0.mk (Kd.R_below (Kd.R_y HO459.out) hb)
    have n15_ := Aside0.mk (Kd.V_below (Kd.V_y HO462.out) hb)
    have n16_ := Aside0.mk (Kd.V_below (Kd.V_y HO465.out) hb)
    have n17_ := Aside0.mk (Kd.R_below (Kd.R_y HO468.out) hb)
    have n18_ := Aside0.mk (blk_below (blk_y BK397.out) hb)
    have n19_ := Aside0.mk (blk_below (blk_y BK398.out) hb)
    have n20_ := Aside0.mk (blk_below (blk_y BK411.out) hb)
    have n21_ := Aside0.mk (blk_below (blk_y BK422.out) hb)
    have n22_ := Aside0.mk (below_step (below_y HB.out) hb)
    clear HO_412000
    clear HO_412001
    clear HO_412002
    clear HO_423000
    clear HO_423001
    clear HO_423002
    clear HO434
    clear HO437
    clear HO440
    clear HO443
    clear HO446
    clear HO449
    clear HO453
    clear HO456
    clear HO459
    clear HO462
    clear HO465
    clear HO468
    clear BK397
    clear BK398
    clear BK411
    clear BK422
    clear HB
    have HO_412000 := n0_
    have HO_412001 := n1_
    have HO_412002 := n2_
    have HO_423000 := n3_
    have HO_423001 := n4_
    have HO_423002 := n5_
    have HO434 := n6_
    have HO437 := n7_
    have HO440 := n8_
    have HO443 := n9_
    have HO446 := n10_
    have HO449 := n11_
    have HO453 := n12_
    have HO456 := n13_
    have HO459 := n14_
    have HO462 := n15_
    have HO465 := n16_
    have HO468 := n17_
    have BK397 := n18_
    have BK398 := n19_
    have BK411 := n20_
    have BK422 := n21_
    have HB := n22_
    clear n0_ n1_ n2_ n3_ n4_ n5_ n6_ n7_ n8_ n9_ n10_ n11_ n12_ n13_ n14_ n15_ n16_ n17_ n18_ n19_ n20_ n21_ n22_
    (try clear hb)
    (try clear hb2)
    (try clear hk)
    (try clear hi)
    refine hK.out _ _ ⟨(blk_cell BK398.out 0).trans rfl, (blk_cell BK398.out 1).trans rfl, (blk_cell BK398.out 2).trans rfl, (blk_cell BK398.out 3).trans rfl, (blk_cell BK397.out 0).trans rfl, (blk_cell BK397.out 1).trans rfl, (blk_cell BK397.out 2).trans rfl, (blk_cell BK411.out 0).trans rfl, (blk_cell BK411.out 1).trans rfl, (blk_cell BK411.out 2).trans rfl, (blk_cell BK422.out 0).trans rfl, (blk_cell BK422.out 1).trans rfl, (blk_cell BK422.out 2).trans rfl⟩ (fun hHeld => ?_)
    clear hK K
    refine norm_ (a' := ?_) ?_ ?_
    rotate_left
    · show Act.put _ (some 117) _ = _
      simp only [Act.put, List.setIfInBounds_toArray, List.set_cons_zero, List.set_cons_succ, i64_w, i32_w]
      rfl
    refine pure_ (i := 39) (N := some 118) (v := ?_) (a' := ?_) #[true, true, true, true, true, true, true, true, true, true, true, true, true, true, true, true, true, true, true, true, true, true, true, true, true, true, true, true, true, true, true, true, true, true, true, true, true, true, true, true, false, false, false, false] rfl rfl (any_of HT_.out (by kernel_rfl)) (fun _ _ _ h => h) (Or.inl ⟨by rfl, ?_⟩) ?_ ?_
    rotate_left
    · intro w'
      go_simp
      with_reducible rfl
    rotate_left
    · simp only [Act.put, List.setIfInBounds_toArray, List.set_cons_zero, List.set_cons_succ, i64_w, i32_w]
      rfl
    refine pure_ (i := 40) (N := some 119) (v := ?_) (a' := ?_) #[true, true, true, true, true, true, true, true, true, true, true, true, true, true, true, true, true, true, true, true, true, true, true, true, true, true, true, true, true, true, true, true, true, true, true, true, true, true, true, true, true, false, false, false] rfl rfl (any_of HT_.out (by kernel_rfl)) (fun _ _ _ h => h) (Or.inl ⟨by rfl, ?_⟩) ?_ ?_
    rotate_left
    · intro w'
      go_simp
      with_reducible rfl
    rotate_left
    · simp only [Act.put, List.setIfInBounds_toArray, List.set_cons_zero, List.set_cons_succ, i64_w, i32_w]
      rfl
    refine one_ (i := 41) (N := some 120) #[true, true, true, true, true, true, true, true, true, true, true, true, true, true, true, true, true, true, true, true, true, true, true, true, true, true, true, true, true, true, true, true, true, true, true, true, true, true, true, true, true, true, false, false] rfl rfl (one_of HT_.out (by kernel_rfl)) (by decide) (fun K hK => ?_)
    refine goes_ Try.func41 (by kernel_rfl) rfl #[] (by rfl) rfl rfl (by (try simp only [List.map_toArray, List.map_cons, List.map_nil]); first | done | rfl | (simp only [List.length_drop, List.length_take]; rfl)) ?_
    with_reducible refine (newsreellaw10_awake.calls kj27  t470 _ A88.out).mono ?_
    rintro e w111 ⟨rfl, hb⟩
    have hbk_w111 := Aside0.mk hb
    refine ⟨_, rfl, ?_⟩
    have n0_ := Aside0.mk (Kd.R_below (Kd.R_y HO_412000.out) hb)
    have n1_ := Aside0.mk (Kd.R_below (Kd.R_y HO_412001.out) hb)
    have n2_ := Aside0.mk (Kd.R_below (Kd.R_y HO_412002.out) hb)
    have n3_ := Aside0.mk (Kd.R_below (Kd.R_y HO_423000.out) hb)
    have n4_ := Aside0.mk (Kd.V_below (Kd.V_y HO_423001.out) hb)
    have n5_ := Aside0.mk (Kd.R_below (Kd.R_y HO_423002.out) hb)
    have n6_ := Aside0.mk (Kd.R_below (Kd.R_y HO434.out) hb)
    have n7_ := Aside0.mk (Kd.R_below (Kd.R_y HO437.out) hb)
    have n8_ := Aside0.mk (Kd.R_below (Kd.R_y HO440.out) hb)
    have n9_ := Aside0.mk (Kd.V_below (Kd.V_y HO443.out) hb)
    have n10_ := Aside0.mk (Kd.V_below (Kd.V_y HO446.out) hb)
    have n11_ := Aside0.mk (Kd.R_below (Kd.R_y HO449.out) hb)
    have n12_ := Aside0.mk (Kd.R_below (Kd.R_y HO453.out) hb)
    have n13_ := Aside0.mk (Kd.R_below (Kd.R_y HO456.out) hb)
    have n14_ := Aside0.mk (Kd.R_below (Kd.R_y HO459.out) hb)
    have n15_ := Aside0.mk (Kd.V_below (Kd.V_y HO462.out) hb)
    have n16_ := Aside0.mk (Kd.V_below (Kd.V_y HO465.out) hb)
    have n17_ := Aside0.mk (Kd.R_below (Kd.R_y HO468.out) hb)
    have n18_ := Aside0.mk (blk_below (blk_y BK397.out) hb)
    have n19_ := Aside0.mk (blk_below (blk_y BK398.out) hb)
    have n20_ := Aside0.mk (blk_below (blk_y BK411.out) hb)
    have n21_ := Aside0.mk (blk_below (blk_y BK422.out) hb)
    have n22_ := Aside0.mk (below_step (below_y HB.out) hb)
    clear HO_412000
    clear HO_412001
    clear HO_412002
    clear HO_423000
    clear HO_423001
    clear HO_423002
    clear HO434
    clear HO437
    clear HO440
    clear HO443
    clear HO446
    clear HO449
    clear HO453
    clear HO456
    clear HO459
    clear HO462
    clear HO465
    clear HO468
    clear BK397
    clear BK398
    clear BK411
    clear BK422
    clear HB
    have HO_412000 := n0_
    have HO_412001 := n1_
    have HO_412002 := n2_
    have HO_423000 := n3_
    have HO_423001 := n4_
    have HO_423002 := n5_
    have HO434 := n6_
    have HO437 := n7_
    have HO440 := n8_
    have HO443 := n9_
    have HO446 := n10_
    have HO449 := n11_
    have HO453 := n12_
    have HO456 := n13_
    have HO459 := n14_
    have HO462 := n15_
    have HO465 := n16_
    have HO468 := n17_
    have BK397 := n18_
    have BK398 := n19_
    have BK411 := n20_
    have BK422 := n21_
    have HB := n22_
    clear n0_ n1_ n2_ n3_ n4_ n5_ n6_ n7_ n8_ n9_ n10_ n11_ n12_ n13_ n14_ n15_ n16_ n17_ n18_ n19_ n20_ n21_ n22_
    (try clear hb)
    (try clear hb2)
    (try clear hk)
    (try clear hi)
    refine hK.out _ _ ⟨(blk_cell BK398.out 0).trans rfl, (blk_cell BK398.out 1).trans rfl, (blk_cell BK398.out 2).trans rfl, (blk_cell BK398.out 3).trans rfl, (blk_cell BK397.out 0).trans rfl, (blk_cell BK397.out 1).trans rfl, (blk_cell BK397.out 2).trans rfl, (blk_cell BK411.out 0).trans rfl, (blk_cell BK411.out 1).trans rfl, (blk_cell BK411.out 2).trans rfl, (blk_cell BK422.out 0).trans rfl, (blk_cell BK422.out 1).trans rfl, (blk_cell BK422.out 2).trans rfl⟩ (fun hHeld => ?_)
    clear hK K
    refine norm_ (a' := ?_) ?_ ?_
    rotate_left
    · show Act.put _ (some 120) _ = _
      simp only [Act.put, List.setIfInBounds_toArray, List.set_cons_zero, List.set_cons_succ, i64_w, i32_w]
      rfl
    refine pure_ (i := 42) (N := some 121) (v := ?_) (a' := ?_) #[true, true, true, true, true, true, true, true, true, true, true, true, true, true, true, true, true, true, true, true, true, true, true, true, true, true, true, true, true, true, true, true, true, true, true, true, true, true, true, true, true, true, true, false] rfl rfl (any_of HT_.out (by kernel_rfl)) (fun _ _ _ h => h) (Or.inl ⟨by rfl, ?_⟩) ?_ ?_
    rotate_left
    · intro w'
      go_simp
      with_reducible rfl
    rotate_left
    · simp only [Act.put, List.setIfInBounds_toArray, List.set_cons_zero, List.set_cons_succ, i64_w, i32_w]
      rfl
    refine pure_ (i := 43) (N := some 6) (v := ?_) (a' := ?_) #[true, true, true, true, true, true, true, true, true, true, true, true, true, true, true, true, true, true, true, true, true, true, true, true, true, true, true, true, true, true, true, true, true, true, true, true, true, true, true, true, true, true, true, true] rfl rfl (any_of HT_.out (by kernel_rfl)) (fun _ _ _ h => h) (Or.inl ⟨by rfl, ?_⟩) ?_ ?_
    rotate_left
    · intro w'
      go_simp
      with_reducible rfl
    rotate_left
    · simp only [Act.put, List.setIfInBounds_toArray, List.set_cons_zero, List.set_cons_succ, i64_w, i32_w]
      rfl
    refine done_ (done_of HT_.out (by kernel_rfl)) ?_
    try go_wp2_with (first | ((with_reducible refine gate_load (t := 69) rfl ?_); refine load_row3 (t := 69) (g := gb398) ?hg BK398.out ?ho ?hb Try.underlying69 rfl ?hs ?_; (case hg => rfl); (case ho => refine ⟨_, rfl, ?_⟩; first | (with_reducible rfl) | (go_simp; done)); (case hb => (with_reducible repeat (first | refine blk_drewN ?_ _ | refine blk_drew ?_ | refine blk_alloc ?_ _)); with_reducible exact BK398.out); (case hs => kernel_rfl)))
    go_ret
    exact ⟨by first | rfl | (simp [errW_none, errW_some] <;> rfl) | (simp [*, errW_none, errW_some] <;> rfl), by repeat (first | (with_reducible first | exact HB.out | apply below_alloc | apply pw_below_drewN | apply below_drew1 | refine below_set ?_ GE397.out | refine below_set ?_ GE398.out | refine below_set ?_ GE411.out | refine below_set ?_ GE422.out) | exact HB.out)⟩

end Go.Proofs.Ytkkikdjfigffhab.XDir
