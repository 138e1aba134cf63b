-- By a program of this work (xprint.py) over the translation; Lean checks it.
import Derived.Test.YtkkikdjfigffhaaXFilx0
import Derived.Test.YtkkikdjfigffhaaXFilx1
import Derived.Test.YtkkikdjfigffhaaXFilx2
import Derived.Test.YtkkikdjfigffhaaXFilx3
import Derived.Test.YtkkikdjfigffhaaXFilx4
import Derived.Test.YtkkikdjfigffhaaXFilx7
import Derived.Test.YtkkikdjfigffhaaXFilx8
namespace Go.Proofs.Ytkkikdjfigffhaa.XFil
open Go.RowKit Go.Proofs.YtkkikdjfigffhaaW.PrintWords Go.Proofs.YtkkikdjfigffhaaW.PrintLast Go.Proofs.YtkkikdjfigffhaaW.PrintMore
attribute [local go_sem] max2_int min2_int max_two min_two max_three min_three max_four min_four   -- for this text's walks alone
set_option linter.unusedVariables false
set_option linter.unusedSimpArgs false

/-! ### newsreellaw09_FileTells: function 12 -/
def newsreellaw09_FileTells.j0 : Nat → List Bool → Bool → List Int → List Int → List (S46) → Bool → Int → List Int → Option (Bool)
  | 0, _, _, _, _, _, _, _, _ => none
  | k + 1, x2, x23, x348000, x348001, x348002, x349000, x349001, x349002 => if x23 = true then ((newsreellaw09_awake.f k).bind fun t354 => (some t354)) else ((file_Write.f k x348000 x348001 x348002 x349001 x349002).bind fun bt355 => ((newsreelref09_Write.f k x348000 x348001 x348002 x349001 x349002).bind fun bt366 => ((file_Crash.f k x348000 x348001 x348002 x2).bind fun bt377 => ((newsreelref09_Crash.f k x348000 x348001 x348002 x2).bind fun bt388 => ((file_Right.f k x348000 x348001 x348002).bind fun t399 => ((newsreelref09_Right.f k x348000 x348001 x348002).bind fun t400 => (if (t399 == t400) = true then ((newsreelref09_Same.f k bt355.1 bt355.2.1 bt355.2.2.1 bt366.1 bt366.2.1 bt366.2.2.1).bind fun t401 => (if t401 = true then (if bt355.2.2.2 = bt366.2.2.2 then ((file_Sync.f k x348000 x348001 x348002).bind fun bt402 => ((newsreelref09_Sync.f k x348000 x348001 x348002).bind fun bt411 => ((newsreelref09_Same.f k bt402.1 bt402.2.1 bt402.2.2 bt411.1 bt411.2.1 bt411.2.2).bind fun t420 => (if t420 = true then ((newsreelref09_Same.f k bt377.1 bt377.2.1 bt377.2.2.1 bt388.1 bt388.2.1 bt388.2.2.1).bind fun t421 => (if t421 = true then (if bt377.2.2.2 = bt388.2.2.2 then ((newsreellaw09_awake.f k).bind fun t422 => (some t422)) else (some false)) else (some false))) else (some false))))) else (some false)) else (some false))) else (some false))))))))
def newsreellaw09_FileTells.f (k : Nat) (l0_0 : List Int) (l0_1 : List Int) (l0_2 : List (S46)) (a1_0 : Bool) (a1_1 : Int) (l1_2 : List Int) (l2 : List Bool) : Option (Bool) := (newsreelref09_Few.f k l0_0 l0_1 l0_2).bind fun t349 => (if t349 = true then ((newsreelref09_Light.f k (([(⟨a1_0, a1_1, l1_2⟩ : S78)] : List (S78)))).bind fun t353 => (newsreellaw09_FileTells.j0 k l2 (!t353) l0_0 l0_1 l0_2 a1_0 a1_1 l1_2)) else (newsreellaw09_FileTells.j0 k l2 true l0_0 l0_1 l0_2 a1_0 a1_1 l1_2))
theorem newsreellaw09_FileTells.mono_l : ∀ k, (∀ y0 y1 y2 y3 y4 y5 y6 y7, LeO (newsreellaw09_FileTells.j0 k y0 y1 y2 y3 y4 y5 y6 y7) (newsreellaw09_FileTells.j0 (k + 1) y0 y1 y2 y3 y4 y5 y6 y7))
  | 0 => fun _ _ _ _ _ _ _ _ r h => by simp [newsreellaw09_FileTells.j0] at h
  | k + 1 => by
    have ih0 := newsreellaw09_FileTells.mono_l k
    · intro y0 y1 y2 y3 y4 y5 y6 y7
      unfold newsreellaw09_FileTells.j0
      repeat' first
      | (with_reducible exact ih0 _ _ _ _ _ _ _ _)
      | (with_reducible exact file_Crash.mono _ _ _ _ _)
      | (with_reducible exact file_Right.mono _ _ _ _)
      | (with_reducible exact file_Sync.mono _ _ _ _)
      | (with_reducible exact file_Write.mono _ _ _ _ _ _)
      | (with_reducible exact newsreellaw09_awake.mono _)
      | (with_reducible exact newsreelref09_Crash.mono _ _ _ _ _)
      | (with_reducible exact newsreelref09_Few.mono _ _ _ _)
      | (with_reducible exact newsreelref09_Light.mono _ _)
      | (with_reducible exact newsreelref09_Right.mono _ _ _ _)
      | (with_reducible exact newsreelref09_Same.mono _ _ _ _ _ _ _)
      | (with_reducible exact newsreelref09_Sync.mono _ _ _ _)
      | (with_reducible exact newsreelref09_Write.mono _ _ _ _ _ _)
      | (with_reducible exact LeO.refl _)
      | (with_reducible exact LeO.none _)
      | (with_reducible refine LeO.ite ?_ ?_)
      | (with_reducible refine LeO.bind ?_ (fun _ => ?_))
      | exact ih0 _ _ _ _ _ _ _ _
      | exact file_Crash.mono _ _ _ _ _
      | exact file_Right.mono _ _ _ _
      | exact file_Sync.mono _ _ _ _
      | exact file_Write.mono _ _ _ _ _ _
      | exact newsreellaw09_awake.mono _
      | exact newsreelref09_Crash.mono _ _ _ _ _
      | exact newsreelref09_Few.mono _ _ _ _
      | exact newsreelref09_Light.mono _ _
      | exact newsreelref09_Right.mono _ _ _ _
      | exact newsreelref09_Same.mono _ _ _ _ _ _ _
      | exact newsreelref09_Sync.mono _ _ _ _
      | exact newsreelref09_Write.mono _ _ _ _ _ _
      | exact LeO.none _
      | refine LeO.ite ?_ ?_
      | refine LeO.bind ?_ (fun _ => ?_)
theorem newsreellaw09_FileTells.mono : ∀ a0 a1 a2 a3 a4 a5 a6 k, LeO (newsreellaw09_FileTells.f k a0 a1 a2 a3 a4 a5 a6) (newsreellaw09_FileTells.f (k + 1) a0 a1 a2 a3 a4 a5 a6) := by
  intro a0 a1 a2 a3 a4 a5 a6 k
  have ih0 := newsreellaw09_FileTells.mono_l k
  unfold newsreellaw09_FileTells.f
  repeat' first
      | (with_reducible exact ih0 _ _ _ _ _ _ _ _)
      | (with_reducible exact file_Crash.mono _ _ _ _ _)
      | (with_reducible exact file_Right.mono _ _ _ _)
      | (with_reducible exact file_Sync.mono _ _ _ _)
      | (with_reducible exact file_Write.mono _ _ _ _ _ _)
      | (with_reducible exact newsreellaw09_awake.mono _)
      | (with_reducible exact newsreelref09_Crash.mono _ _ _ _ _)
      | (with_reducible exact newsreelref09_Few.mono _ _ _ _)
      | (with_reducible exact newsreelref09_Light.mono _ _)
      | (with_reducible exact newsreelref09_Right.mono _ _ _ _)
      | (with_reducible exact newsreelref09_Same.mono _ _ _ _ _ _ _)
      | (with_reducible exact newsreelref09_Sync.mono _ _ _ _)
      | (with_reducible exact newsreelref09_Write.mono _ _ _ _ _ _)
      | (with_reducible exact LeO.refl _)
      | (with_reducible exact LeO.none _)
      | (with_reducible refine LeO.ite ?_ ?_)
      | (with_reducible refine LeO.bind ?_ (fun _ => ?_))
      | exact ih0 _ _ _ _ _ _ _ _
      | exact file_Crash.mono _ _ _ _ _
      | exact file_Right.mono _ _ _ _
      | exact file_Sync.mono _ _ _ _
      | exact file_Write.mono _ _ _ _ _ _
      | exact newsreellaw09_awake.mono _
      | exact newsreelref09_Crash.mono _ _ _ _ _
      | exact newsreelref09_Few.mono _ _ _ _
      | exact newsreelref09_Light.mono _ _
      | exact newsreelref09_Right.mono _ _ _ _
      | exact newsreelref09_Same.mono _ _ _ _ _ _ _
      | exact newsreelref09_Sync.mono _ _ _ _
      | exact newsreelref09_Write.mono _ _ _ _ _ _
      | exact LeO.none _
      | refine LeO.ite ?_ ?_
      | refine LeO.bind ?_ (fun _ => ?_)
def newsreellaw09_FileTells.T7 : Bool × List (List Nat × List Nat) := (true, [([], []), ([0], [0]), ([], []), ([2, 1], [2]), ([1, 3], [1, 3]), ([4, 3], [4]), ([5], [5]), ([5], [5]), ([6, 7, 5, 5], [5, 6, 7]), ([5, 8], [5, 8]), ([9, 8], [9]), ([10], [10]), ([10], [10]), ([11, 12, 10], [10, 11, 12]), ([10, 13], [10, 13]), ([14, 10], [14]), ([15], [15]), ([16, 15, 15], [15, 16]), ([15], [15]), ([18, 17, 15], [15, 18]), ([17, 19, 19, 15], [15, 17, 19]), ([15, 20], [15, 20]), ([21, 20], [21]), ([22], [22]), ([22], [22]), ([23, 24, 22, 22], [22, 23, 24]), ([22, 25], [22, 25]), ([26, 25], [26]), ([27], [27]), ([27], [27]), ([28, 29, 27], [27, 28, 29]), ([27, 30], [27, 30]), ([31, 27], [31]), ([32, 32], [32]), ([32, 33], [32, 33]), ([34, 33, 0, 1, 2, 3, 4, 5, 6, 7, 8, 9, 10, 11, 12, 13, 14, 15, 16, 17, 18, 19, 20, 21, 22, 23, 24, 25, 26, 27, 28, 29, 30, 31, 32, 33, 34], [34])])
def newsreellaw09_FileTells.B7 : List Nat := [0, 1, 0, 7, 15, 31, 63, 63, 255, 511, 1023, 2047, 2047, 8191, 16383, 32767, 65535, 131071, 65535, 524287, 1048575, 2097151, 4194303, 8388607, 8388607, 33554431, 67108863, 134217727, 268435455, 268435455, 1073741823, 2147483647, 4294967295, 8589934591, 17179869183, 34359738367]
theorem newsreellaw09_FileTells.tab7 : rtab .any (opsOf Try.f12 7) = newsreellaw09_FileTells.T7 := by kernel_rfl
theorem newsreellaw09_FileTells.bits7 : waitsOk newsreellaw09_FileTells.T7.2 newsreellaw09_FileTells.B7 = true := by kernel_rfl
set_option maxHeartbeats 8000000 in
set_option maxRecDepth 100000 in
theorem newsreellaw09_FileTells.calls (k : Nat) (P0_0_ : Nat → Prop) (A0_0 : Option Addr) (c0_0 : Nat) (l0_0 : List Int) (P0_1_ : Nat → Prop) (A0_1 : Option Addr) (c0_1 : Nat) (l0_1 : List Int) (P0_2_ : Nat → Prop) (A0_2 : Option Addr) (c0_2 : Nat) (l0_2 : List (S46)) (a1_0 : Bool) (a1_1 : Int) (P1_2_ : Nat → Prop) (A1_2 : Option Addr) (c1_2 : Nat) (l1_2 : List Int) (A2 : Option Addr) (c2 : Nat) (l2 : List Bool) (r : Bool) (w : World) (hs0_0 : Kd.V (Kd.int .u8) 5 w w.heap.size (fun k_ => P0_0_ k_) (.slice A0_0 l0_0.length c0_0) l0_0) (hs0_1 : Kd.V (Kd.int .u8) 5 w w.heap.size (fun k_ => P0_1_ k_) (.slice A0_1 l0_1.length c0_1) l0_1) (hs0_2 : Kd.V k46 46 w w.heap.size (fun k_ => P0_2_ k_) (.slice A0_2 l0_2.length c0_2) l0_2) (hs1_2 : Kd.V (Kd.int .u8) 5 w w.heap.size (fun k_ => P1_2_ k_) (.slice A1_2 l1_2.length c1_2) l1_2) (hr2 : Kd.C Kd.bool w A2 l2.length l2) (hc2 : l2.length ≤ c2) (ht_ : r = true) (h : newsreellaw09_FileTells.f k l0_0 l0_1 l0_2 a1_0 a1_1 l1_2 l2 = some r) :
    Calls Try.prog 12 #[.agg #[.slice A0_0 l0_0.length c0_0, .slice A0_1 l0_1.length c0_1, .slice A0_2 l0_2.length c0_2], .agg #[.bool a1_0, .int .i64 a1_1, .slice A1_2 l1_2.length c1_2], .slice A2 l2.length c2] w fun e w' => e = .returned (.bool r) ∧ Below w.heap.size w w' := by
  have hu76 := Try.underlying76
  have hu78 := Try.underlying78
  have HO0_0 := Aside0.mk (show Kd.V (Kd.int .u8) 5 w w.heap.size (fun k_ => ((P0_0_ k_ ∨ P0_1_ k_ ∨ P0_2_ k_ ∨ P1_2_ k_) ∨ w.heap.size ≤ k_)) (.slice A0_0 l0_0.length c0_0) l0_0 from Kd.V_mono hs0_0 (fun k_ hk => .inl (.inl hk)))
  have HO0_1 := Aside0.mk (show Kd.V (Kd.int .u8) 5 w w.heap.size (fun k_ => ((P0_0_ k_ ∨ P0_1_ k_ ∨ P0_2_ k_ ∨ P1_2_ k_) ∨ w.heap.size ≤ k_)) (.slice A0_1 l0_1.length c0_1) l0_1 from Kd.V_mono hs0_1 (fun k_ hk => .inl (.inr (.inl hk))))
  have HO0_2 := Aside0.mk (show Kd.V k46 46 w w.heap.size (fun k_ => ((P0_0_ k_ ∨ P0_1_ k_ ∨ P0_2_ k_ ∨ P1_2_ k_) ∨ w.heap.size ≤ k_)) (.slice A0_2 l0_2.length c0_2) l0_2 from Kd.V_mono hs0_2 (fun k_ hk => .inl (.inr (.inr (.inl hk)))))
  have HO1_2 := Aside0.mk (show Kd.V (Kd.int .u8) 5 w w.heap.size (fun k_ => ((P0_0_ k_ ∨ P0_1_ k_ ∨ P0_2_ k_ ∨ P1_2_ k_) ∨ w.heap.size ≤ k_)) (.slice A1_2 l1_2.length c1_2) l1_2 from Kd.V_mono hs1_2 (fun k_ hk => .inl (.inr (.inr (.inr hk)))))
  have HR2 := Aside0.mk hr2
  have HC2 := Aside0.mk hc2
  clear hr2 hc2
  have HB := Aside0.mk (Below.refl w.heap.size w)
  have H : ((newsreelref09_Few.f k l0_0 l0_1 l0_2).bind fun t349 => (if t349 = true then ((newsreelref09_Light.f k (([(⟨a1_0, a1_1, l1_2⟩ : S78)] : List (S78)))).bind fun t353 => (newsreellaw09_FileTells.j0 k l2 (!t353) l0_0 l0_1 l0_2 a1_0 a1_1 l1_2)) else (newsreellaw09_FileTells.j0 k l2 true l0_0 l0_1 l0_2 a1_0 a1_1 l1_2))) = some r := h
  clear h
  have HC4 := Aside0.mk H
  clear H
  go_enter Try.func12, Try.ntmps12
  go_upto_region 1 with (first | ((with_reducible refine gate_dst (N := 3) rfl ?_); (try (refine gate_guard (by rfl) ?_; dsimp only)); refine box_event ?hg (N := 3) ?hd (cs := #[.slice A0_0 l0_0.length c0_0, .slice A0_1 l0_1.length c0_1, .slice A0_2 l0_2.length c0_2]) (t := 76) ?hr ?_; (case hd => rfl); (case hg => rfl); (case hr => first | (go_simp; done) | (go_simp; rfl)); intro gb347 hg w5 hbox hb; have n0_ := Aside0.mk (Kd.V_below (Kd.V_elderB (Kd.V_y HO0_0.out) gb347 (Nat.le_of_eq hg.symm)) hb); have n1_ := Aside0.mk (Kd.V_below (Kd.V_elderB (Kd.V_y HO0_1.out) gb347 (Nat.le_of_eq hg.symm)) hb); have n2_ := Aside0.mk (Kd.V_below (Kd.V_elderB (Kd.V_y HO0_2.out) gb347 (Nat.le_of_eq hg.symm)) hb); have n3_ := Aside0.mk (Kd.V_below (Kd.V_elderB (Kd.V_y HO1_2.out) gb347 (Nat.le_of_eq hg.symm)) hb); have n4_ := Aside0.mk (below_step (below_y HB.out) hb); have n5_ := Aside0.mk (hbox); have n6_ := Aside0.mk ((by rw [hg]; exact (below_size (below_y HB.out)) : w.heap.size ≤ gb347)); have n7_ := Aside0.mk ((by rw [hg]; exact (below_size (below_y HB.out)) : w.heap.size ≤ gb347)); clear HO0_0; clear HO0_1; clear HO0_2; clear HO1_2; clear HB; have HO0_0 := n0_; have HO0_1 := n1_; have HO0_2 := n2_; have HO1_2 := n3_; have HB := n4_; have BK347 := n5_; have GW347 := n6_; have GE347 := n7_; clear n0_ n1_ n2_ n3_ n4_ n5_ n6_ n7_; clear hb hbox hg) | ((with_reducible refine gate_dst (N := 4) rfl ?_); (try (refine gate_guard (by rfl) ?_; dsimp only)); refine box_event ?hg (N := 4) ?hd (cs := #[.bool a1_0, .int .i64 a1_1, .slice A1_2 l1_2.length c1_2]) (t := 78) ?hr ?_; (case hd => rfl); (case hg => rfl); (case hr => first | (go_simp; done) | (go_simp; rfl)); intro gb348 hg w6 hbox hb; have n0_ := Aside0.mk (Kd.V_below (Kd.V_elderB (Kd.V_y HO0_0.out) gb348 (Nat.le_of_eq hg.symm)) hb); have n1_ := Aside0.mk (Kd.V_below (Kd.V_elderB (Kd.V_y HO0_1.out) gb348 (Nat.le_of_eq hg.symm)) hb); have n2_ := Aside0.mk (Kd.V_below (Kd.V_elderB (Kd.V_y HO0_2.out) gb348 (Nat.le_of_eq hg.symm)) hb); have n3_ := Aside0.mk (Kd.V_below (Kd.V_elderB (Kd.V_y HO1_2.out) gb348 (Nat.le_of_eq hg.symm)) hb); have n4_ := Aside0.mk (blk_below (g := gb347) (o := .cells #[.slice A0_0 l0_0.length c0_0, .slice A0_1 l0_1.length c0_1, .slice A0_2 l0_2.length c0_2] 76 (0, 0)) (blk_y BK347.out) hb); have n5_ := Aside0.mk (below_step (below_y HB.out) hb); have n6_ := Aside0.mk (hbox); have n7_ := Aside0.mk ((by rw [hg]; exact (below_size (below_y HB.out)) : w.heap.size ≤ gb348)); have n8_ := Aside0.mk ((by rw [hg]; exact (below_size (below_y HB.out)) : w.heap.size ≤ gb348)); have n9_ := Aside0.mk ((by rw [hg]; exact Nat.ne_of_lt (blk_lt (g := gb347) (o := .cells #[.slice A0_0 l0_0.length c0_0, .slice A0_1 l0_1.length c0_1, .slice A0_2 l0_2.length c0_2] 76 (0, 0)) (blk_y BK347.out)) : gb347 ≠ gb348)); have n10_ := Aside0.mk ((by rw [hg]; exact Nat.ne_of_gt (blk_lt (g := gb347) (o := .cells #[.slice A0_0 l0_0.length c0_0, .slice A0_1 l0_1.length c0_1, .slice A0_2 l0_2.length c0_2] 76 (0, 0)) (blk_y BK347.out)) : gb348 ≠ gb347)); clear HO0_0; clear HO0_1; clear HO0_2; clear HO1_2; clear BK347; clear HB; have HO0_0 := n0_; have HO0_1 := n1_; have HO0_2 := n2_; have HO1_2 := n3_; have BK347 := n4_; have HB := n5_; have BK348 := n6_; have GW348 := n7_; have GE348 := n8_; have NB347_348 := n9_; have NB348_347 := n10_; clear n0_ n1_ n2_ n3_ n4_ n5_ n6_ n7_ n8_ n9_ n10_; clear hb hbox hg))
  (try simp only [Act.put, List.setIfInBounds_toArray, List.set_cons_zero, List.set_cons_succ])
  go_cut [23] (fun v23 wc => ∃ (kq : Nat) (x23_3 : Bool), v23 = .bool x23_3 ∧ Aside0 (newsreellaw09_FileTells.j0 kq l2 x23_3 l0_0 l0_1 l0_2 a1_0 a1_1 l1_2 = some r) ∧ Aside0 (kq ≤ k) ∧ Aside0 (Kd.V (Kd.int .u8) 5 wc w.heap.size (fun k_ => ((P0_0_ k_ ∨ P0_1_ k_ ∨ P0_2_ k_ ∨ P1_2_ k_) ∨ w.heap.size ≤ k_) ∧ k_ ≠ gb347 ∧ k_ ≠ gb348) (.slice A0_0 l0_0.length c0_0) l0_0) ∧ Aside0 (Kd.V (Kd.int .u8) 5 wc w.heap.size (fun k_ => ((P0_0_ k_ ∨ P0_1_ k_ ∨ P0_2_ k_ ∨ P1_2_ k_) ∨ w.heap.size ≤ k_) ∧ k_ ≠ gb347 ∧ k_ ≠ gb348) (.slice A0_1 l0_1.length c0_1) l0_1) ∧ Aside0 (Kd.V k46 46 wc w.heap.size (fun k_ => ((P0_0_ k_ ∨ P0_1_ k_ ∨ P0_2_ k_ ∨ P1_2_ k_) ∨ w.heap.size ≤ k_) ∧ k_ ≠ gb347 ∧ k_ ≠ gb348) (.slice A0_2 l0_2.length c0_2) l0_2) ∧ Aside0 (Kd.V (Kd.int .u8) 5 wc w.heap.size (fun k_ => ((P0_0_ k_ ∨ P0_1_ k_ ∨ P0_2_ k_ ∨ P1_2_ k_) ∨ w.heap.size ≤ k_) ∧ k_ ≠ gb347 ∧ k_ ≠ gb348) (.slice A1_2 l1_2.length c1_2) l1_2) ∧ Aside0 (wc.heap[gb347]? = some (.cells #[(.slice A0_0 l0_0.length c0_0), (.slice A0_1 l0_1.length c0_1), (.slice A0_2 l0_2.length c0_2)] 76 (0, 0))) ∧ Aside0 (wc.heap[gb348]? = some (.cells #[.bool a1_0, .int .i64 a1_1, (.slice A1_2 l1_2.length c1_2)] 78 (0, 0))) ∧ Aside0 (Below w.heap.size w wc))
  case first =>
    have H := HC4.out
    clear HC4
    replace H := Option.bind_eq_some_iff.mp H
    obtain ⟨t349, A70, H⟩ := H
    replace H : (if t349 = true then ((newsreelref09_Light.f k (([(⟨a1_0, a1_1, l1_2⟩ : S78)] : List (S78)))).bind fun t353 => (newsreellaw09_FileTells.j0 k l2 (!t353) l0_0 l0_1 l0_2 a1_0 a1_1 l1_2)) else (newsreellaw09_FileTells.j0 k l2 true l0_0 l0_1 l0_2 a1_0 a1_1 l1_2)) = some r := H
    have A7 := Aside0.mk A70
    clear A70
    by_cases c8 : t349 = true
    · subst c8
      have H1 : ((newsreelref09_Light.f k (([(⟨a1_0, a1_1, l1_2⟩ : S78)] : List (S78)))).bind fun t353 => (newsreellaw09_FileTells.j0 k l2 (!t353) l0_0 l0_1 l0_2 a1_0 a1_1 l1_2)) = some r := by rw [if_pos rfl] at H; exact H
      clear H
      have H := H1
      clear H1
      obtain ⟨y350, hy350⟩ : ∃ y_ : List (S78), y_ = (([(⟨a1_0, a1_1, l1_2⟩ : S78)] : List (S78))) := ⟨_, rfl⟩
      replace H : ((newsreelref09_Light.f k y350).bind fun t353 => (newsreellaw09_FileTells.j0 k l2 (!t353) l0_0 l0_1 l0_2 a1_0 a1_1 l1_2)) = some r := by first | (rw [hy350]; with_reducible exact H) | (have H2_ := (Option.bind_some _ _).symm.trans H; rw [hy350]; with_reducible exact H2_) | (have H2_ := (Option.bind_some _ _).symm.trans H; with_reducible exact H2_) | with_reducible exact H | (rw [hy350]; exact H) | exact H
      have Ny350 := Aside0.mk hy350
      clear hy350
      replace H := Option.bind_eq_some_iff.mp H
      obtain ⟨t353, A90, H⟩ := H
      replace H : (newsreellaw09_FileTells.j0 k l2 (!t353) l0_0 l0_1 l0_2 a1_0 a1_1 l1_2) = some r := H
      have A9 := Aside0.mk A90
      clear A90
      have H' := Aside0.mk H
      clear H
      have hnb10 := NB347_348.out
      have hnc10 := NB348_347.out
      have hcz11_0 : w6.cell? ⟨gb347, 0, none⟩ = some (.slice A0_0 l0_0.length c0_0) := (blk_cell BK347.out 0).trans rfl
      have hcz11_1 : w6.cell? ⟨gb347, 1, none⟩ = some (.slice A0_1 l0_1.length c0_1) := (blk_cell BK347.out 1).trans rfl
      have hcz11_2 : w6.cell? ⟨gb347, 2, none⟩ = some (.slice A0_2 l0_2.length c0_2) := (blk_cell BK347.out 2).trans rfl
      have hfz11_0 := blk_frozen BK347.out 0
      have hfz11_1 := blk_frozen BK347.out 1
      have hfz11_2 := blk_frozen BK347.out 2
      go_wp2_with (first | ((with_reducible refine gate_callee (f := 49) rfl ?_); refine goesL_ (some 16) rfl rfl Try.func49 (by kernel_rfl) rfl #[.agg #[.slice A0_0 l0_0.length c0_0, .slice A0_1 l0_1.length c0_1, .slice A0_2 l0_2.length c0_2]] rfl (by (try simp only [List.map_toArray, List.map_cons, List.map_nil]); first | done | rfl | (simp only [List.length_drop, List.length_take]; rfl)) ?_; (with_reducible refine (newsreelref09_Few.calls k _ _ l0_0 _ _ l0_1 _ _ l0_2 true _ ?side1 ?side2 ?side3 ?side4 ?side5 ?side6 A7.out).mono ?_); (case side1 => exact Kd.C_y (Kd.V_reads' HO0_0.out).2.2); (case side2 => exact (Kd.V_reads' HO0_0.out).2.1); (case side3 => exact Kd.C_y (Kd.V_reads' HO0_1.out).2.2); (case side4 => exact (Kd.V_reads' HO0_1.out).2.1); (case side5 => exact Kd.C_y (Kd.V_reads' HO0_2.out).2.2); (case side6 => exact (Kd.V_reads' HO0_2.out).2.1); rintro e w12 ⟨rfl, hb⟩; refine ⟨_, rfl, ?_⟩; have n0_ := Aside0.mk (Kd.V_below (Kd.V_y HO0_0.out) hb); have n1_ := Aside0.mk (Kd.V_below (Kd.V_y HO0_1.out) hb); have n2_ := Aside0.mk (Kd.V_below (Kd.V_y HO0_2.out) hb); have n3_ := Aside0.mk (Kd.V_below (Kd.V_y HO1_2.out) hb); have n4_ := Aside0.mk (blk_below (g := gb347) (o := .cells #[.slice A0_0 l0_0.length c0_0, .slice A0_1 l0_1.length c0_1, .slice A0_2 l0_2.length c0_2] 76 (0, 0)) (blk_y BK347.out) hb); have n5_ := Aside0.mk (blk_below (g := gb348) (o := .cells #[.bool a1_0, .int .i64 a1_1, .slice A1_2 l1_2.length c1_2] 78 (0, 0)) (blk_y BK348.out) hb); have n6_ := Aside0.mk (below_step (below_y HB.out) hb); clear HO0_0; clear HO0_1; clear HO0_2; clear HO1_2; clear BK347; clear BK348; clear HB; have HO0_0 := n0_; have HO0_1 := n1_; have HO0_2 := n2_; have HO1_2 := n3_; have BK347 := n4_; have BK348 := n5_; have HB := n6_; clear n0_ n1_ n2_ n3_ n4_ n5_ n6_; (try clear hb); (try clear hb2); (try clear hk); (try clear hi); have hcz13_0 : w12.cell? ⟨gb348, 0, none⟩ = some (.bool a1_0) := (blk_cell BK348.out 0).trans rfl; have hcz13_1 : w12.cell? ⟨gb348, 1, none⟩ = some (.int .i64 a1_1) := (blk_cell BK348.out 1).trans rfl; have hcz13_2 : w12.cell? ⟨gb348, 2, none⟩ = some (.slice A1_2 l1_2.length c1_2) := (blk_cell BK348.out 2).trans rfl; have hfz13_0 := blk_frozen BK348.out 0; have hfz13_1 := blk_frozen BK348.out 1; have hfz13_2 := blk_frozen BK348.out 2) | ((with_reducible refine gate_dst (N := 20) rfl ?_); (try (refine gate_guard (by rfl) ?_; dsimp only)); refine Kd.N_lit k78 _ 78 ?hg (N' := 20) ?hd (xs := ([(⟨a1_0, a1_1, l1_2⟩ : S78)] : List (S78))) (inner := [.bool a1_0, .int .i64 a1_1, .slice A1_2 l1_2.length c1_2]) (ok := (fun k_ => ((P0_0_ k_ ∨ P0_1_ k_ ∨ P0_2_ k_ ∨ P1_2_ k_) ∨ w.heap.size ≤ k_) ∧ k_ ≠ gb347 ∧ k_ ≠ gb348)) (okp := (fun k_ => ((P0_0_ k_ ∨ P0_1_ k_ ∨ P0_2_ k_ ∨ P1_2_ k_) ∨ w.heap.size ≤ k_) ∧ k_ ≠ gb347 ∧ k_ ≠ gb348)) ?hr ?hp (fun _ hk => hk) ((show ∀ k_, w12.heap.size ≤ k_ → (fun k_ => ((P0_0_ k_ ∨ P0_1_ k_ ∨ P0_2_ k_ ∨ P1_2_ k_) ∨ w.heap.size ≤ k_) ∧ k_ ≠ gb347 ∧ k_ ≠ gb348) k_ from fun k_ hk => ⟨(.inr (Nat.le_trans (below_size (below_y HB.out)) hk)), Kd.freshB (g := gb347) (o := .cells #[.slice A0_0 l0_0.length c0_0, .slice A0_1 l0_1.length c0_1, .slice A0_2 l0_2.length c0_2] 76 (0, 0)) (blk_y BK347.out) k_ hk, Kd.freshB (g := gb348) (o := .cells #[.bool a1_0, .int .i64 a1_1, .slice A1_2 l1_2.length c1_2] 78 (0, 0)) (blk_y BK348.out) k_ hk⟩) _ (Nat.le_refl _)) (Below.refl _ _) (Nat.le_refl _) (by simp) ?_; (case hd => rfl); (case hg => rfl); (case hr => first | (go_simp; done) | (go_simp; rfl)); (case hp => first | exact (Reps.c3 (show Kd.FK k78 _ _ (⟨a1_0, a1_1, l1_2⟩ : S78) [.bool a1_0, .int .i64 a1_1, .slice A1_2 l1_2.length c1_2] from (k78_mkF _ _ (⟨a1_0, a1_1, l1_2⟩ : S78) (Kd.V_reads' (Kd.V_mono (ok' := (fun k_ => ((P0_0_ k_ ∨ P0_1_ k_ ∨ P0_2_ k_ ∨ P1_2_ k_) ∨ w.heap.size ≤ k_) ∧ k_ ≠ gb347 ∧ k_ ≠ gb348)) (HO1_2.out) (fun k_ hk => ⟨hk.1.1, ⟨hk.1.2, hk.2⟩⟩))).2.1 (Kd.V_F (Kd.V_mono (ok' := (fun k_ => ((P0_0_ k_ ∨ P0_1_ k_ ∨ P0_2_ k_ ∨ P1_2_ k_) ∨ w.heap.size ≤ k_) ∧ k_ ≠ gb347 ∧ k_ ≠ gb348)) (HO1_2.out) (fun k_ hk => ⟨hk.1.1, ⟨hk.1.2, hk.2⟩⟩))))) (Reps.none _ _)) | exact (Reps.c3 (show Kd.FK k78 _ _ (⟨a1_0, a1_1, l1_2⟩ : S78) [.bool a1_0, .int .i64 a1_1, .slice A1_2 l1_2.length c1_2] from (k78_mkF _ _ (⟨a1_0, a1_1, l1_2⟩ : S78) (Kd.V_reads' (Kd.V_mono (ok' := (fun k_ => ((P0_0_ k_ ∨ P0_1_ k_ ∨ P0_2_ k_ ∨ P1_2_ k_) ∨ w.heap.size ≤ k_) ∧ k_ ≠ gb347 ∧ k_ ≠ gb348)) (HO1_2.out) (fun k_ hk => ⟨hk.1.1, ⟨hk.1.2, hk.2⟩⟩))).2.1 (Kd.V_F (Kd.V_mono (ok' := (fun k_ => ((P0_0_ k_ ∨ P0_1_ k_ ∨ P0_2_ k_ ∨ P1_2_ k_) ∨ w.heap.size ≤ k_) ∧ k_ ≠ gb347 ∧ k_ ≠ gb348)) (Kd.V_drewN HO1_2.out _) (fun k_ hk => ⟨hk.1.1, ⟨hk.1.2, hk.2⟩⟩))))) (Reps.none _ _))); intro v351 w14 ho15 hb hg_ hnew_; clear hg_ hnew_; (first | rw [← Ny350.out] at ho15 | (simp only [Int.reduceToNat] at ho15; rw [← Ny350.out] at ho15)); have n0_ := Aside0.mk (Kd.V_elder' (Kd.V_y HO0_0.out) (Kd.N_base ho15) hb); have n1_ := Aside0.mk (Kd.V_elder' (Kd.V_y HO0_1.out) (Kd.N_base ho15) hb); have n2_ := Aside0.mk (Kd.V_elder' (Kd.V_y HO0_2.out) (Kd.N_base ho15) hb); have n3_ := Aside0.mk (Kd.V_elder' (Kd.V_y HO1_2.out) (Kd.N_base ho15) hb); have n4_ := Aside0.mk (Kd.N_lower ho15 (below_size (below_y HB.out))); have n5_ := Aside0.mk (blk_below (g := gb347) (o := .cells #[.slice A0_0 l0_0.length c0_0, .slice A0_1 l0_1.length c0_1, .slice A0_2 l0_2.length c0_2] 76 (0, 0)) (blk_y BK347.out) hb); have n6_ := Aside0.mk (blk_below (g := gb348) (o := .cells #[.bool a1_0, .int .i64 a1_1, .slice A1_2 l1_2.length c1_2] 78 (0, 0)) (blk_y BK348.out) hb); have n7_ := Aside0.mk (below_step (below_y HB.out) hb); clear HO0_0; clear HO0_1; clear HO0_2; clear HO1_2; clear BK347; clear BK348; clear HB; have HO0_0 := n0_; have HO0_1 := n1_; have HO0_2 := n2_; have HO1_2 := n3_; have HO352 := n4_; have BK347 := n5_; have BK348 := n6_; have HB := n7_; clear n0_ n1_ n2_ n3_ n4_ n5_ n6_ n7_; clear hb ho15; obtain ⟨Ao16, co16, eo16⟩ := Kd.N_slice HO352.out; subst eo16) | (go_at_call 50; (with_reducible refine (newsreelref09_Light.calls k _ _ y350 t353 _ ?side1 ?side2 A9.out).mono ?_); (case side1 => exact Kd.C_y (Kd.N_reads' HO352.out).2.2); (case side2 => exact (Kd.N_reads' HO352.out).2.1); rintro e w' ⟨rfl, ⟨nd, rfl⟩⟩))
      go_meet
      case rel => exact ⟨_, (!t353), (by first | rfl | (simp; done) | (simp [*]; done)), H', ⟨by first | omega | exact Nat.le_refl _⟩, ⟨by (with_reducible repeat (first | apply Kd.V_alloc | apply Kd.V_drewN | apply Kd.V_drew)); exact Kd.V_mono HO0_0.out (fun _ hk => ⟨hk.1.1.1, ⟨hk.1.1.2, hk.1.2⟩⟩)⟩, ⟨by (with_reducible repeat (first | apply Kd.V_alloc | apply Kd.V_drewN | apply Kd.V_drew)); exact Kd.V_mono HO0_1.out (fun _ hk => ⟨hk.1.1.1, ⟨hk.1.1.2, hk.1.2⟩⟩)⟩, ⟨by (with_reducible repeat (first | apply Kd.V_alloc | apply Kd.V_drewN | apply Kd.V_drew)); exact Kd.V_mono HO0_2.out (fun _ hk => ⟨hk.1.1.1, ⟨hk.1.1.2, hk.1.2⟩⟩)⟩, ⟨by (with_reducible repeat (first | apply Kd.V_alloc | apply Kd.V_drewN | apply Kd.V_drew)); exact Kd.V_mono HO1_2.out (fun _ hk => ⟨hk.1.1.1, ⟨hk.1.1.2, hk.1.2⟩⟩)⟩, ⟨by (with_reducible repeat (first | refine blk_drewN ?_ _ | refine blk_drew ?_ | refine blk_alloc ?_ _)); exact BK347.out⟩, ⟨by (with_reducible repeat (first | refine blk_drewN ?_ _ | refine blk_drew ?_ | refine blk_alloc ?_ _)); exact BK348.out⟩, ⟨by repeat (first | (with_reducible first | exact HB.out | apply below_alloc | apply pw_below_drewN | apply below_drew1 | refine below_set ?_ GE347.out | refine below_set ?_ GE348.out) | exact HB.out)⟩⟩
    · replace c8 := Bool.eq_false_iff.mpr c8
      subst c8
      have H1 : (newsreellaw09_FileTells.j0 k l2 true l0_0 l0_1 l0_2 a1_0 a1_1 l1_2) = some r := by rw [if_neg (show ¬ (false = true) by decide)] at H; exact H
      clear H
      have H := H1
      clear H1
      have H' := Aside0.mk H
      clear H
      have hnb17 := NB347_348.out
      have hnc17 := NB348_347.out
      have hcz18_0 : w6.cell? ⟨gb347, 0, none⟩ = some (.slice A0_0 l0_0.length c0_0) := (blk_cell BK347.out 0).trans rfl
      have hcz18_1 : w6.cell? ⟨gb347, 1, none⟩ = some (.slice A0_1 l0_1.length c0_1) := (blk_cell BK347.out 1).trans rfl
      have hcz18_2 : w6.cell? ⟨gb347, 2, none⟩ = some (.slice A0_2 l0_2.length c0_2) := (blk_cell BK347.out 2).trans rfl
      have hfz18_0 := blk_frozen BK347.out 0
      have hfz18_1 := blk_frozen BK347.out 1
      have hfz18_2 := blk_frozen BK347.out 2
      go_wp2_with (first | ((with_reducible refine gate_callee (f := 49) rfl ?_); refine goesL_ (some 16) rfl rfl Try.func49 (by kernel_rfl) rfl #[.agg #[.slice A0_0 l0_0.length c0_0, .slice A0_1 l0_1.length c0_1, .slice A0_2 l0_2.length c0_2]] rfl (by (try simp only [List.map_toArray, List.map_cons, List.map_nil]); first | done | rfl | (simp only [List.length_drop, List.length_take]; rfl)) ?_; (with_reducible refine (newsreelref09_Few.calls k _ _ l0_0 _ _ l0_1 _ _ l0_2 false _ ?side1 ?side2 ?side3 ?side4 ?side5 ?side6 A7.out).mono ?_); (case side1 => exact Kd.C_y (Kd.V_reads' HO0_0.out).2.2); (case side2 => exact (Kd.V_reads' HO0_0.out).2.1); (case side3 => exact Kd.C_y (Kd.V_reads' HO0_1.out).2.2); (case side4 => exact (Kd.V_reads' HO0_1.out).2.1); (case side5 => exact Kd.C_y (Kd.V_reads' HO0_2.out).2.2); (case side6 => exact (Kd.V_reads' HO0_2.out).2.1); rintro e w19 ⟨rfl, hb⟩; refine ⟨_, rfl, ?_⟩; have n0_ := Aside0.mk (Kd.V_below (Kd.V_y HO0_0.out) hb); have n1_ := Aside0.mk (Kd.V_below (Kd.V_y HO0_1.out) hb); have n2_ := Aside0.mk (Kd.V_below (Kd.V_y HO0_2.out) hb); have n3_ := Aside0.mk (Kd.V_below (Kd.V_y HO1_2.out) hb); have n4_ := Aside0.mk (blk_below (g := gb347) (o := .cells #[.slice A0_0 l0_0.length c0_0, .slice A0_1 l0_1.length c0_1, .slice A0_2 l0_2.length c0_2] 76 (0, 0)) (blk_y BK347.out) hb); have n5_ := Aside0.mk (blk_below (g := gb348) (o := .cells #[.bool a1_0, .int .i64 a1_1, .slice A1_2 l1_2.length c1_2] 78 (0, 0)) (blk_y BK348.out) hb); have n6_ := Aside0.mk (below_step (below_y HB.out) hb); clear HO0_0; clear HO0_1; clear HO0_2; clear HO1_2; clear BK347; clear BK348; clear HB; have HO0_0 := n0_; have HO0_1 := n1_; have HO0_2 := n2_; have HO1_2 := n3_; have BK347 := n4_; have BK348 := n5_; have HB := n6_; clear n0_ n1_ n2_ n3_ n4_ n5_ n6_; (try clear hb); (try clear hb2); (try clear hk); (try clear hi)))
      go_meet
      case rel => exact ⟨_, (true), (by first | rfl | (simp; done) | (simp [*]; done)), H', ⟨by first | omega | exact Nat.le_refl _⟩, ⟨by (with_reducible repeat (first | apply Kd.V_alloc | apply Kd.V_drewN | apply Kd.V_drew)); exact Kd.V_mono HO0_0.out (fun _ hk => ⟨hk.1.1, ⟨hk.1.2, hk.2⟩⟩)⟩, ⟨by (with_reducible repeat (first | apply Kd.V_alloc | apply Kd.V_drewN | apply Kd.V_drew)); exact Kd.V_mono HO0_1.out (fun _ hk => ⟨hk.1.1, ⟨hk.1.2, hk.2⟩⟩)⟩, ⟨by (with_reducible repeat (first | apply Kd.V_alloc | apply Kd.V_drewN | apply Kd.V_drew)); exact Kd.V_mono HO0_2.out (fun _ hk => ⟨hk.1.1, ⟨hk.1.2, hk.2⟩⟩)⟩, ⟨by (with_reducible repeat (first | apply Kd.V_alloc | apply Kd.V_drewN | apply Kd.V_drew)); exact Kd.V_mono HO1_2.out (fun _ hk => ⟨hk.1.1, ⟨hk.1.2, hk.2⟩⟩)⟩, ⟨by (with_reducible repeat (first | refine blk_drewN ?_ _ | refine blk_drew ?_ | refine blk_alloc ?_ _)); exact BK347.out⟩, ⟨by (with_reducible repeat (first | refine blk_drewN ?_ _ | refine blk_drew ?_ | refine blk_alloc ?_ _)); exact BK348.out⟩, ⟨by repeat (first | (with_reducible first | exact HB.out | apply below_alloc | apply pw_below_drewN | apply below_drew1 | refine below_set ?_ GE347.out | refine below_set ?_ GE348.out) | exact HB.out)⟩⟩
  case rest =>
    clear HC4
    try clear c1
    try clear c2
    try clear p2
    try clear c3
    try clear c4
    try clear c8
    try clear c10
    try clear c12
    try clear c17
    try clear hcz11_0
    try clear hcz11_1
    try clear hcz11_2
    try clear hcz13_0
    try clear hcz13_1
    try clear hcz13_2
    try clear hcz18_0
    try clear hcz18_1
    try clear hcz18_2
    try clear hfz11_0
    try clear hfz11_1
    try clear hfz11_2
    try clear hfz13_0
    try clear hfz13_1
    try clear hfz13_2
    try clear hfz18_0
    try clear hfz18_1
    try clear hfz18_2
    obtain ⟨kq, x23_3, rfl, HA, HJ3, HO_348000, HO_348001, HO_348002, HO_349002, BK347, BK348, HB⟩ := hcut
    cases kq with
    | zero => exact absurd HA.out (by simp [newsreellaw09_FileTells.j0])
    | succ kj3 =>
      have H := HA.out
      clear HA
      simp only [newsreellaw09_FileTells.j0] at H
      by_cases c20 : x23_3 = true
      · subst c20
        have H1 : ((newsreellaw09_awake.f kj3).bind fun t354 => (some t354)) = some r := by rw [if_pos rfl] at H; exact H
        clear H
        have H := H1
        clear H1
        replace H := Option.bind_eq_some_iff.mp H
        obtain ⟨t354, A210, H⟩ := H
        replace H : (some t354) = some r := H
        have A21 := Aside0.mk A210
        clear A210
        obtain rfl := Option.some.inj H
        go_wp2_with (first | ((with_reducible refine gate_callee (f := 51) rfl ?_); refine goesL_ (some 24) rfl rfl Try.func51 (by kernel_rfl) rfl #[] rfl (by (try simp only [List.map_toArray, List.map_cons, List.map_nil]); first | done | rfl | (simp only [List.length_drop, List.length_take]; rfl)) ?_; (with_reducible refine (newsreellaw09_awake.calls kj3  t354 _ A21.out).mono ?_); rintro e w22 ⟨rfl, hb⟩; refine ⟨_, rfl, ?_⟩; have n0_ := Aside0.mk (Kd.V_below (Kd.V_y HO_348000.out) hb); have n1_ := Aside0.mk (Kd.V_below (Kd.V_y HO_348001.out) hb); have n2_ := Aside0.mk (Kd.V_below (Kd.V_y HO_348002.out) hb); have n3_ := Aside0.mk (Kd.V_below (Kd.V_y HO_349002.out) hb); have n4_ := Aside0.mk (blk_below (g := gb347) (o := .cells #[.slice A0_0 l0_0.length c0_0, .slice A0_1 l0_1.length c0_1, .slice A0_2 l0_2.length c0_2] 76 (0, 0)) (blk_y BK347.out) hb); have n5_ := Aside0.mk (blk_below (g := gb348) (o := .cells #[.bool a1_0, .int .i64 a1_1, .slice A1_2 l1_2.length c1_2] 78 (0, 0)) (blk_y BK348.out) hb); have n6_ := Aside0.mk (below_step (below_y HB.out) hb); clear HO_348000; clear HO_348001; clear HO_348002; clear HO_349002; clear BK347; clear BK348; clear HB; have HO_348000 := n0_; have HO_348001 := n1_; have HO_348002 := n2_; have HO_349002 := n3_; have BK347 := n4_; have BK348 := n5_; have HB := n6_; clear n0_ n1_ n2_ n3_ n4_ n5_ n6_; (try clear hb); (try clear hb2); (try clear hk); (try clear hi)))
        go_ret
        exact ⟨by first | rfl | (simp [errW_none, errW_some] <;> rfl) | (simp [*, errW_none, errW_some] <;> rfl), by repeat (first | (with_reducible first | exact HB.out | apply below_alloc | apply pw_below_drewN | apply below_drew1 | refine below_set ?_ GE347.out | refine below_set ?_ GE348.out) | exact HB.out)⟩
      · replace c20 := Bool.eq_false_iff.mpr c20
        subst c20
        have H1 : ((file_Write.f kj3 l0_0 l0_1 l0_2 a1_1 l1_2).bind fun bt355 => ((newsreelref09_Write.f kj3 l0_0 l0_1 l0_2 a1_1 l1_2).bind fun bt366 => ((file_Crash.f kj3 l0_0 l0_1 l0_2 l2).bind fun bt377 => ((newsreelref09_Crash.f kj3 l0_0 l0_1 l0_2 l2).bind fun bt388 => ((file_Right.f kj3 l0_0 l0_1 l0_2).bind fun t399 => ((newsreelref09_Right.f kj3 l0_0 l0_1 l0_2).bind fun t400 => (if (t399 == t400) = true then ((newsreelref09_Same.f kj3 bt355.1 bt355.2.1 bt355.2.2.1 bt366.1 bt366.2.1 bt366.2.2.1).bind fun t401 => (if t401 = true then (if bt355.2.2.2 = bt366.2.2.2 then ((file_Sync.f kj3 l0_0 l0_1 l0_2).bind fun bt402 => ((newsreelref09_Sync.f kj3 l0_0 l0_1 l0_2).bind fun bt411 => ((newsreelref09_Same.f kj3 bt402.1 bt402.2.1 bt402.2.2 bt411.1 bt411.2.1 bt411.2.2).bind fun t420 => (if t420 = true then ((newsreelref09_Same.f kj3 bt377.1 bt377.2.1 bt377.2.2.1 bt388.1 bt388.2.1 bt388.2.2.1).bind fun t421 => (if t421 = true then (if bt377.2.2.2 = bt388.2.2.2 then ((newsreellaw09_awake.f kj3).bind fun t422 => (some t422)) else (some false)) else (some false))) else (some false))))) else (some false)) else (some false))) else (some false)))))))) = some r := by rw [if_neg (show ¬ (false = true) by decide)] at H; exact H
        clear H
        have H := H1
        clear H1
        replace H := Option.bind_eq_some_iff.mp H
        obtain ⟨⟨t355, t358, t361, t364⟩, A230, H⟩ := H
        replace H : ((newsreelref09_Write.f kj3 l0_0 l0_1 l0_2 a1_1 l1_2).bind fun bt366 => ((file_Crash.f kj3 l0_0 l0_1 l0_2 l2).bind fun bt377 => ((newsreelref09_Crash.f kj3 l0_0 l0_1 l0_2 l2).bind fun bt388 => ((file_Right.f kj3 l0_0 l0_1 l0_2).bind fun t399 => ((newsreelref09_Right.f kj3 l0_0 l0_1 l0_2).bind fun t400 => (if (t399 == t400) = true then ((newsreelref09_Same.f kj3 t355 t358 t361 bt366.1 bt366.2.1 bt366.2.2.1).bind fun t401 => (if t401 = true then (if t364 = bt366.2.2.2 then ((file_Sync.f kj3 l0_0 l0_1 l0_2).bind fun bt402 => ((newsreelref09_Sync.f kj3 l0_0 l0_1 l0_2).bind fun bt411 => ((newsreelref09_Same.f kj3 bt402.1 bt402.2.1 bt402.2.2 bt411.1 bt411.2.1 bt411.2.2).bind fun t420 => (if t420 = true then ((newsreelref09_Same.f kj3 bt377.1 bt377.2.1 bt377.2.2.1 bt388.1 bt388.2.1 bt388.2.2.1).bind fun t421 => (if t421 = true then (if bt377.2.2.2 = bt388.2.2.2 then ((newsreellaw09_awake.f kj3).bind fun t422 => (some t422)) else (some false)) else (some false))) else (some false))))) else (some false)) else (some false))) else (some false))))))) = some r := H
        have A23 := Aside0.mk A230
        clear A230
        replace H := Option.bind_eq_some_iff.mp H
        obtain ⟨⟨t366, t369, t372, t375⟩, A240, H⟩ := H
        replace H : ((file_Crash.f kj3 l0_0 l0_1 l0_2 l2).bind fun bt377 => ((newsreelref09_Crash.f kj3 l0_0 l0_1 l0_2 l2).bind fun bt388 => ((file_Right.f kj3 l0_0 l0_1 l0_2).bind fun t399 => ((newsreelref09_Right.f kj3 l0_0 l0_1 l0_2).bind fun t400 => (if (t399 == t400) = true then ((newsreelref09_Same.f kj3 t355 t358 t361 t366 t369 t372).bind fun t401 => (if t401 = true then (if t364 = t375 then ((file_Sync.f kj3 l0_0 l0_1 l0_2).bind fun bt402 => ((newsreelref09_Sync.f kj3 l0_0 l0_1 l0_2).bind fun bt411 => ((newsreelref09_Same.f kj3 bt402.1 bt402.2.1 bt402.2.2 bt411.1 bt411.2.1 bt411.2.2).bind fun t420 => (if t420 = true then ((newsreelref09_Same.f kj3 bt377.1 bt377.2.1 bt377.2.2.1 bt388.1 bt388.2.1 bt388.2.2.1).bind fun t421 => (if t421 = true then (if bt377.2.2.2 = bt388.2.2.2 then ((newsreellaw09_awake.f kj3).bind fun t422 => (some t422)) else (some false)) else (some false))) else (some false))))) else (some false)) else (some false))) else (some false)))))) = some r := H
        have A24 := Aside0.mk A240
        clear A240
        replace H := Option.bind_eq_some_iff.mp H
        obtain ⟨⟨t377, t380, t383, t386⟩, A250, H⟩ := H
        replace H : ((newsreelref09_Crash.f kj3 l0_0 l0_1 l0_2 l2).bind fun bt388 => ((file_Right.f kj3 l0_0 l0_1 l0_2).bind fun t399 => ((newsreelref09_Right.f kj3 l0_0 l0_1 l0_2).bind fun t400 => (if (t399 == t400) = true then ((newsreelref09_Same.f kj3 t355 t358 t361 t366 t369 t372).bind fun t401 => (if t401 = true then (if t364 = t375 then ((file_Sync.f kj3 l0_0 l0_1 l0_2).bind fun bt402 => ((newsreelref09_Sync.f kj3 l0_0 l0_1 l0_2).bind fun bt411 => ((newsreelref09_Same.f kj3 bt402.1 bt402.2.1 bt402.2.2 bt411.1 bt411.2.1 bt411.2.2).bind fun t420 => (if t420 = true then ((newsreelref09_Same.f kj3 t377 t380 t383 bt388.1 bt388.2.1 bt388.2.2.1).bind fun t421 => (if t421 = true then (if t386 = bt388.2.2.2 then ((newsreellaw09_awake.f kj3).bind fun t422 => (some t422)) else (some false)) else (some false))) else (some false))))) else (some false)) else (some false))) else (some false))))) = some r := H
        have A25 := Aside0.mk A250
        clear A250
        replace H := Option.bind_eq_some_iff.mp H
        obtain ⟨⟨t388, t391, t394, t397⟩, A260, H⟩ := H
        replace H : ((file_Right.f kj3 l0_0 l0_1 l0_2).bind fun t399 => ((newsreelref09_Right.f kj3 l0_0 l0_1 l0_2).bind fun t400 => (if (t399 == t400) = true then ((newsreelref09_Same.f kj3 t355 t358 t361 t366 t369 t372).bind fun t401 => (if t401 = true then (if t364 = t375 then ((file_Sync.f kj3 l0_0 l0_1 l0_2).bind fun bt402 => ((newsreelref09_Sync.f kj3 l0_0 l0_1 l0_2).bind fun bt411 => ((newsreelref09_Same.f kj3 bt402.1 bt402.2.1 bt402.2.2 bt411.1 bt411.2.1 bt411.2.2).bind fun t420 => (if t420 = true then ((newsreelref09_Same.f kj3 t377 t380 t383 t388 t391 t394).bind fun t421 => (if t421 = true then (if t386 = t397 then ((newsreellaw09_awake.f kj3).bind fun t422 => (some t422)) else (some false)) else (some false))) else (some false))))) else (some false)) else (some false))) else (some false)))) = some r := H
        have A26 := Aside0.mk A260
        clear A260
        replace H := Option.bind_eq_some_iff.mp H
        obtain ⟨t399, A270, H⟩ := H
        replace H : ((newsreelref09_Right.f kj3 l0_0 l0_1 l0_2).bind fun t400 => (if (t399 == t400) = true then ((newsreelref09_Same.f kj3 t355 t358 t361 t366 t369 t372).bind fun t401 => (if t401 = true then (if t364 = t375 then ((file_Sync.f kj3 l0_0 l0_1 l0_2).bind fun bt402 => ((newsreelref09_Sync.f kj3 l0_0 l0_1 l0_2).bind fun bt411 => ((newsreelref09_Same.f kj3 bt402.1 bt402.2.1 bt402.2.2 bt411.1 bt411.2.1 bt411.2.2).bind fun t420 => (if t420 = true then ((newsreelref09_Same.f kj3 t377 t380 t383 t388 t391 t394).bind fun t421 => (if t421 = true then (if t386 = t397 then ((newsreellaw09_awake.f kj3).bind fun t422 => (some t422)) else (some false)) else (some false))) else (some false))))) else (some false)) else (some false))) else (some false))) = some r := H
        have A27 := Aside0.mk A270
        clear A270
        replace H := Option.bind_eq_some_iff.mp H
        obtain ⟨t400, A280, H⟩ := H
        replace H : (if (t399 == t400) = true then ((newsreelref09_Same.f kj3 t355 t358 t361 t366 t369 t372).bind fun t401 => (if t401 = true then (if t364 = t375 then ((file_Sync.f kj3 l0_0 l0_1 l0_2).bind fun bt402 => ((newsreelref09_Sync.f kj3 l0_0 l0_1 l0_2).bind fun bt411 => ((newsreelref09_Same.f kj3 bt402.1 bt402.2.1 bt402.2.2 bt411.1 bt411.2.1 bt411.2.2).bind fun t420 => (if t420 = true then ((newsreelref09_Same.f kj3 t377 t380 t383 t388 t391 t394).bind fun t421 => (if t421 = true then (if t386 = t397 then ((newsreellaw09_awake.f kj3).bind fun t422 => (some t422)) else (some false)) else (some false))) else (some false))))) else (some false)) else (some false))) else (some false)) = some r := H
        have A28 := Aside0.mk A280
        clear A280
        by_cases c29 : (t399 == t400) = true
        · rw [if_pos c29] at H
          have c29b0 : (t399 == t400) = true := c29
          (try (have c29b1 : decide (t399 = t400) = true := by simpa using c29))
          (try (have c29b2 : (t399 == t400) = true := by simpa using c29))
          clear c29
          replace H := Option.bind_eq_some_iff.mp H
          obtain ⟨t401, A300, H⟩ := H
          replace H : (if t401 = true then (if t364 = t375 then ((file_Sync.f kj3 l0_0 l0_1 l0_2).bind fun bt402 => ((newsreelref09_Sync.f kj3 l0_0 l0_1 l0_2).bind fun bt411 => ((newsreelref09_Same.f kj3 bt402.1 bt402.2.1 bt402.2.2 bt411.1 bt411.2.1 bt411.2.2).bind fun t420 => (if t420 = true then ((newsreelref09_Same.f kj3 t377 t380 t383 t388 t391 t394).bind fun t421 => (if t421 = true then (if t386 = t397 then ((newsreellaw09_awake.f kj3).bind fun t422 => (some t422)) else (some false)) else (some false))) else (some false))))) else (some false)) else (some false)) = some r := H
          have A30 := Aside0.mk A300
          clear A300
          by_cases c31 : t401 = true
          · subst c31
            have H1 : (if t364 = t375 then ((file_Sync.f kj3 l0_0 l0_1 l0_2).bind fun bt402 => ((newsreelref09_Sync.f kj3 l0_0 l0_1 l0_2).bind fun bt411 => ((newsreelref09_Same.f kj3 bt402.1 bt402.2.1 bt402.2.2 bt411.1 bt411.2.1 bt411.2.2).bind fun t420 => (if t420 = true then ((newsreelref09_Same.f kj3 t377 t380 t383 t388 t391 t394).bind fun t421 => (if t421 = true then (if t386 = t397 then ((newsreellaw09_awake.f kj3).bind fun t422 => (some t422)) else (some false)) else (some false))) else (some false))))) else (some false)) = some r := by rw [if_pos rfl] at H; exact H
            clear H
            have H := H1
            clear H1
            by_cases c32 : t364 = t375
            · rw [if_pos c32] at H
              have c32b0 : (t364 == t375) = true := beq_iff_eq.mpr c32
              have c32b1 : (t364 != t375) = false := bne_eq_false_iff_eq.mpr c32
              clear c32
              replace H := Option.bind_eq_some_iff.mp H
              obtain ⟨⟨t402, t405, t408⟩, A330, H⟩ := H
              replace H : ((newsreelref09_Sync.f kj3 l0_0 l0_1 l0_2).bind fun bt411 => ((newsreelref09_Same.f kj3 t402 t405 t408 bt411.1 bt411.2.1 bt411.2.2).bind fun t420 => (if t420 = true then ((newsreelref09_Same.f kj3 t377 t380 t383 t388 t391 t394).bind fun t421 => (if t421 = true then (if t386 = t397 then ((newsreellaw09_awake.f kj3).bind fun t422 => (some t422)) else (some false)) else (some false))) else (some false)))) = some r := H
              have A33 := Aside0.mk A330
              clear A330
              replace H := Option.bind_eq_some_iff.mp H
              obtain ⟨⟨t411, t414, t417⟩, A340, H⟩ := H
              replace H : ((newsreelref09_Same.f kj3 t402 t405 t408 t411 t414 t417).bind fun t420 => (if t420 = true then ((newsreelref09_Same.f kj3 t377 t380 t383 t388 t391 t394).bind fun t421 => (if t421 = true then (if t386 = t397 then ((newsreellaw09_awake.f kj3).bind fun t422 => (some t422)) else (some false)) else (some false))) else (some false))) = some r := H
              have A34 := Aside0.mk A340
              clear A340
              replace H := Option.bind_eq_some_iff.mp H
              obtain ⟨t420, A350, H⟩ := H
              replace H : (if t420 = true then ((newsreelref09_Same.f kj3 t377 t380 t383 t388 t391 t394).bind fun t421 => (if t421 = true then (if t386 = t397 then ((newsreellaw09_awake.f kj3).bind fun t422 => (some t422)) else (some false)) else (some false))) else (some false)) = some r := H
              have A35 := Aside0.mk A350
              clear A350
              by_cases c36 : t420 = true
              · subst c36
                have H1 : ((newsreelref09_Same.f kj3 t377 t380 t383 t388 t391 t394).bind fun t421 => (if t421 = true then (if t386 = t397 then ((newsreellaw09_awake.f kj3).bind fun t422 => (some t422)) else (some false)) else (some false))) = some r := by rw [if_pos rfl] at H; exact H
                clear H
                have H := H1
                clear H1
                replace H := Option.bind_eq_some_iff.mp H
                obtain ⟨t421, A370, H⟩ := H
                replace H : (if t421 = true then (if t386 = t397 then ((newsreellaw09_awake.f kj3).bind fun t422 => (some t422)) else (some false)) else (some false)) = some r := H
                have A37 := Aside0.mk A370
                clear A370
                by_cases c38 : t421 = true
                · subst c38
                  have H1 : (if t386 = t397 then ((newsreellaw09_awake.f kj3).bind fun t422 => (some t422)) else (some false)) = some r := by rw [if_pos rfl] at H; exact H
                  clear H
                  have H := H1
                  clear H1
                  by_cases c39 : t386 = t397
                  · rw [if_pos c39] at H
                    have c39b0 : (t386 == t397) = true := beq_iff_eq.mpr c39
                    have c39b1 : (t386 != t397) = false := bne_eq_false_iff_eq.mpr c39
                    clear c39
                    replace H := Option.bind_eq_some_iff.mp H
                    obtain ⟨t422, A400, H⟩ := H
                    replace H : (some t422) = some r := H
                    have A40 := Aside0.mk A400
                    clear A400
                    obtain rfl := Option.some.inj H
                    have hnb41 := NB347_348.out
                    have hnc41 := NB348_347.out
                    have hcz42_0 : wc.cell? ⟨gb347, 0, none⟩ = some (.slice A0_0 l0_0.length c0_0) := (blk_cell BK347.out 0).trans rfl
                    have hcz42_1 : wc.cell? ⟨gb347, 1, none⟩ = some (.slice A0_1 l0_1.length c0_1) := (blk_cell BK347.out 1).trans rfl
                    have hcz42_2 : wc.cell? ⟨gb347, 2, none⟩ = some (.slice A0_2 l0_2.length c0_2) := (blk_cell BK347.out 2).trans rfl
                    have hfz42_0 := blk_frozen BK347.out 0
                    have hfz42_1 := blk_frozen BK347.out 1
                    have hfz42_2 := blk_frozen BK347.out 2
                    have hcz43_0 : wc.cell? ⟨gb348, 0, none⟩ = some (.bool a1_0) := (blk_cell BK348.out 0).trans rfl
                    have hcz43_1 : wc.cell? ⟨gb348, 1, none⟩ = some (.int .i64 a1_1) := (blk_cell BK348.out 1).trans rfl
                    have hcz43_2 : wc.cell? ⟨gb348, 2, none⟩ = some (.slice A1_2 l1_2.length c1_2) := (blk_cell BK348.out 2).trans rfl
                    have hfz43_0 := blk_frozen BK348.out 0
                    have hfz43_1 := blk_frozen BK348.out 1
                    have hfz43_2 := blk_frozen BK348.out 2
                    try go_wp2_with (first | ((with_reducible refine gate_callee (f := 52) rfl ?_); refine goesL_ (some 31) rfl rfl Try.func52 (by kernel_rfl) rfl #[.agg #[.slice A0_0 l0_0.length c0_0, .slice A0_1 l0_1.length c0_1, .slice A0_2 l0_2.length c0_2], .int .i64 a1_1, .slice A1_2 l1_2.length c1_2] rfl (by (try simp only [List.map_toArray, List.map_cons, List.map_nil]); first | done | rfl | (simp only [List.length_drop, List.length_take]; rfl)) ?_; (with_reducible refine (file_Write.calls kj3 _ _ l0_0 _ _ l0_1 _ _ l0_2 a1_1 (fun k_ => (((P0_0_ k_ ∨ P0_1_ k_ ∨ P0_2_ k_ ∨ P1_2_ k_) ∨ w.heap.size ≤ k_) ∧ (k_ ≠ gb347 ∧ k_ ≠ gb348))) _ _ l1_2 t355 t358 t361 t364 _ ?side1 ?side2 ?side3 ?side4 ?side5 ?side6 ?side7 A23.out).mono ?_); (case side1 => exact Kd.C_y (Kd.V_reads' HO_348000.out).2.2); (case side2 => exact (Kd.V_reads' HO_348000.out).2.1); (case side3 => exact Kd.C_y (Kd.V_reads' HO_348001.out).2.2); (case side4 => exact (Kd.V_reads' HO_348001.out).2.1); (case side5 => exact Kd.C_y (Kd.V_reads' HO_348002.out).2.2); (case side6 => exact (Kd.V_reads' HO_348002.out).2.1); (case side7 => exact HO_349002.out); rintro e w44 ⟨v356, v359, v362, rfl, ho0, ho1, ho2, hb⟩; refine ⟨_, rfl, ?_⟩; have n0_ := Aside0.mk (Kd.V_mono (Kd.V_told (Kd.V_told (Kd.V_told (Kd.V_old (Kd.V_y HO_348000.out) hb) (Kd.R_base ho0)) (Kd.R_base ho1)) (Kd.N_base ho2)) (fun _ h_ => h_.1)); have n1_ := Aside0.mk (Kd.V_mono (Kd.V_told (Kd.V_told (Kd.V_told (Kd.V_old (Kd.V_y HO_348001.out) hb) (Kd.R_base ho0)) (Kd.R_base ho1)) (Kd.N_base ho2)) (fun _ h_ => h_.1)); have n2_ := Aside0.mk (Kd.V_mono (Kd.V_told (Kd.V_told (Kd.V_told (Kd.V_old (Kd.V_y HO_348002.out) hb) (Kd.R_base ho0)) (Kd.R_base ho1)) (Kd.N_base ho2)) (fun _ h_ => h_.1)); have n3_ := Aside0.mk (Kd.V_mono (Kd.V_told (Kd.V_told (Kd.V_told (Kd.V_old (Kd.V_y HO_349002.out) hb) (Kd.R_base ho0)) (Kd.R_base ho1)) (Kd.N_base ho2)) (fun _ h_ => h_.1)); have n4_ := Aside0.mk (Kd.R_lower (Kd.R_newM (M := fun k_ => (w.heap.size ≤ k_)) (Kd.R_mono (ok' := fun k_ => some k_ ≠ (v359 : Value).ownBlock) ho0 (fun _ hk_ => hk_.2)) (below_size (below_y HB.out)) (fun k_ h_ => h_)) (below_size (below_y HB.out))); have n5_ := Aside0.mk (Kd.R_lower (Kd.R_newM (M := fun k_ => (w.heap.size ≤ k_)) (Kd.R_mono (ok' := fun k_ => some k_ ≠ (v356 : Value).ownBlock) ho1 (fun _ hk_ => hk_.2)) (below_size (below_y HB.out)) (fun k_ h_ => h_)) (below_size (below_y HB.out))); have n6_ := Aside0.mk (Kd.N_lower (Kd.N_mono (ok' := fun k_ => ((P0_0_ k_ ∨ P0_1_ k_ ∨ P0_2_ k_ ∨ P1_2_ k_) ∨ w.heap.size ≤ k_) ∧ some k_ ≠ (v356 : Value).ownBlock ∧ some k_ ≠ (v359 : Value).ownBlock ∧ k_ ≠ gb347 ∧ k_ ≠ gb348) ho2 (fun k_ hk_ => ⟨Or.elim hk_.1 (fun hs_ => hs_.1) (fun hn_ => (.inr (Nat.le_trans (below_size (below_y HB.out)) hn_))), hk_.2.1, hk_.2.2, Or.elim hk_.1 (fun hs_ => hs_.2.1) (fun hn_ => (Kd.freshB (g := gb347) (o := .cells #[.slice A0_0 l0_0.length c0_0, .slice A0_1 l0_1.length c0_1, .slice A0_2 l0_2.length c0_2] 76 (0, 0)) (blk_y BK347.out) k_ hn_)), Or.elim hk_.1 (fun hs_ => hs_.2.2) (fun hn_ => (Kd.freshB (g := gb348) (o := .cells #[.bool a1_0, .int .i64 a1_1, .slice A1_2 l1_2.length c1_2] 78 (0, 0)) (blk_y BK348.out) k_ hn_))⟩)) (below_size (below_y HB.out))); have n7_ := Aside0.mk (blk_below (g := gb347) (o := .cells #[.slice A0_0 l0_0.length c0_0, .slice A0_1 l0_1.length c0_1, .slice A0_2 l0_2.length c0_2] 76 (0, 0)) (blk_y BK347.out) hb); have n8_ := Aside0.mk (blk_below (g := gb348) (o := .cells #[.bool a1_0, .int .i64 a1_1, .slice A1_2 l1_2.length c1_2] 78 (0, 0)) (blk_y BK348.out) hb); have n9_ := Aside0.mk (below_step (below_y HB.out) hb); clear HO_348000; clear HO_348001; clear HO_348002; clear HO_349002; clear BK347; clear BK348; clear HB; have HO_348000 := n0_; have HO_348001 := n1_; have HO_348002 := n2_; have HO_349002 := n3_; have HO357 := n4_; have HO360 := n5_; have HO363 := n6_; have BK347 := n7_; have BK348 := n8_; have HB := n9_; clear n0_ n1_ n2_ n3_ n4_ n5_ n6_ n7_ n8_ n9_; (try clear hb); (try clear hb2); (try clear hk); (try clear hi); (try clear ho0); (try clear ho1); (try clear ho2)) | ((with_reducible refine gate_dst (N := 7) rfl ?_); (try (refine gate_guard (by rfl) ?_; dsimp only)); refine box_event ?hg (N := 7) ?hd (cs := #[.slice none 0 0, .slice none 0 0, .slice none 0 0]) (t := 76) ?hr ?_; (case hd => rfl); (case hg => rfl); (case hr => first | (go_simp; done) | (go_simp; rfl)); intro gb365 hg w45 hbox hb; have n0_ := Aside0.mk (Kd.V_below (Kd.V_elderB (Kd.V_y HO_348000.out) gb365 (Nat.le_of_eq hg.symm)) hb); have n1_ := Aside0.mk (Kd.V_below (Kd.V_elderB (Kd.V_y HO_348001.out) gb365 (Nat.le_of_eq hg.symm)) hb); have n2_ := Aside0.mk (Kd.V_below (Kd.V_elderB (Kd.V_y HO_348002.out) gb365 (Nat.le_of_eq hg.symm)) hb); have n3_ := Aside0.mk (Kd.V_below (Kd.V_elderB (Kd.V_y HO_349002.out) gb365 (Nat.le_of_eq hg.symm)) hb); have n4_ := Aside0.mk (Kd.R_below (Kd.R_y HO357.out) hb); have n5_ := Aside0.mk (Kd.R_below (Kd.R_y HO360.out) hb); have n6_ := Aside0.mk (Kd.N_below (Kd.N_elderB (Kd.N_y HO363.out) gb365 (Nat.le_of_eq hg.symm)) hb); have n7_ := Aside0.mk (blk_below (g := gb347) (o := .cells #[.slice A0_0 l0_0.length c0_0, .slice A0_1 l0_1.length c0_1, .slice A0_2 l0_2.length c0_2] 76 (0, 0)) (blk_y BK347.out) hb); have n8_ := Aside0.mk (blk_below (g := gb348) (o := .cells #[.bool a1_0, .int .i64 a1_1, .slice A1_2 l1_2.length c1_2] 78 (0, 0)) (blk_y BK348.out) hb); have n9_ := Aside0.mk (below_step (below_y HB.out) hb); have n10_ := Aside0.mk (hbox); have n11_ := Aside0.mk ((by rw [hg]; exact (below_size (below_y HB.out)) : w.heap.size ≤ gb365)); have n12_ := Aside0.mk ((by rw [hg]; exact (below_size (below_y HB.out)) : w.heap.size ≤ gb365)); have n13_ := Aside0.mk ((by rw [hg]; exact Nat.ne_of_lt (blk_lt (g := gb347) (o := .cells #[.slice A0_0 l0_0.length c0_0, .slice A0_1 l0_1.length c0_1, .slice A0_2 l0_2.length c0_2] 76 (0, 0)) (blk_y BK347.out)) : gb347 ≠ gb365)); have n14_ := Aside0.mk ((by rw [hg]; exact Nat.ne_of_gt (blk_lt (g := gb347) (o := .cells #[.slice A0_0 l0_0.length c0_0, .slice A0_1 l0_1.length c0_1, .slice A0_2 l0_2.length c0_2] 76 (0, 0)) (blk_y BK347.out)) : gb365 ≠ gb347)); have n15_ := Aside0.mk ((by rw [hg]; exact Nat.ne_of_lt (blk_lt (g := gb348) (o := .cells #[.bool a1_0, .int .i64 a1_1, .slice A1_2 l1_2.length c1_2] 78 (0, 0)) (blk_y BK348.out)) : gb348 ≠ gb365)); have n16_ := Aside0.mk ((by rw [hg]; exact Nat.ne_of_gt (blk_lt (g := gb348) (o := .cells #[.bool a1_0, .int .i64 a1_1, .slice A1_2 l1_2.length c1_2] 78 (0, 0)) (blk_y BK348.out)) : gb365 ≠ gb348)); clear HO_348000; clear HO_348001; clear HO_348002; clear HO_349002; clear HO357; clear HO360; clear HO363; clear BK347; clear BK348; clear HB; have HO_348000 := n0_; have HO_348001 := n1_; have HO_348002 := n2_; have HO_349002 := n3_; have HO357 := n4_; have HO360 := n5_; have HO363 := n6_; have BK347 := n7_; have BK348 := n8_; have HB := n9_; have BK365 := n10_; have GW365 := n11_; have GE365 := n12_; have NB347_365 := n13_; have NB365_347 := n14_; have NB348_365 := n15_; have NB365_348 := n16_; clear n0_ n1_ n2_ n3_ n4_ n5_ n6_ n7_ n8_ n9_ n10_ n11_ n12_ n13_ n14_ n15_ n16_; clear hb hbox hg; obtain ⟨Ao46, co46, eo46⟩ := Kd.R_slice HO357.out; subst eo46; have hnb47 := NB365_347.out; have hnc47 := NB347_365.out; have hnb48 := NB365_348.out; have hnc48 := NB348_365.out; have hcz49_0 : w45.cell? ⟨gb365, 0, none⟩ = some (.slice none 0 0) := (blk_cell BK365.out 0).trans rfl; have hcz49_1 : w45.cell? ⟨gb365, 1, none⟩ = some (.slice none 0 0) := (blk_cell BK365.out 1).trans rfl; have hcz49_2 : w45.cell? ⟨gb365, 2, none⟩ = some (.slice none 0 0) := (blk_cell BK365.out 2).trans rfl; have hfz49_0 := blk_frozen BK365.out 0; have hfz49_1 := blk_frozen BK365.out 1; have hfz49_2 := blk_frozen BK365.out 2; obtain ⟨Ao50, co50, eo50⟩ := Kd.R_slice HO360.out; subst eo50; obtain ⟨Ao51, co51, eo51⟩ := Kd.N_slice HO363.out; subst eo51) | ((with_reducible refine gate_store (t := 76) (p := 7) rfl ?_); refine store_event (t := 76) (p := 7) (v := ?vo_w52) (w1 := (((w45.setCell ⟨gb365, 0, none⟩ (.slice Ao46 t355.length co46)).setCell ⟨gb365, 1, none⟩ (.slice Ao50 t358.length co50)).setCell ⟨gb365, 2, none⟩ (.slice Ao51 t361.length co51))) ?hg ?ho ?hn ?hr ?_; (case ho => rfl); (case hg => rfl); (case hn => rfl); (case hr => first | (go_simp; done) | (go_simp; rfl)); intro w52 hw; have n0_ : Aside0 (Kd.V (Kd.int .u8) 5 w52 w.heap.size (fun k_ => ((P0_0_ k_ ∨ P0_1_ k_ ∨ P0_2_ k_ ∨ P1_2_ k_) ∨ w.heap.size ≤ k_) ∧ some k_ ≠ (.slice Ao46 t355.length co46 : Value).ownBlock ∧ some k_ ≠ (.slice Ao50 t358.length co50 : Value).ownBlock ∧ some k_ ≠ (.slice Ao51 t361.length co51 : Value).ownBlock ∧ k_ ≠ gb347 ∧ k_ ≠ gb348 ∧ k_ ≠ gb365) (.slice A0_0 l0_0.length c0_0) l0_0) := ⟨(by rw [hw]; exact (by (with_reducible repeat (first | apply Kd.V_alloc | apply Kd.V_drewN | apply Kd.V_drew)); exact Kd.V_mono (Kd.V_far (p := ⟨gb365, 2, none⟩) (Kd.V_far (p := ⟨gb365, 1, none⟩) (Kd.V_far (p := ⟨gb365, 0, none⟩) (Kd.V_mono HO_348000.out (fun k_ hk => (⟨hk, hk.2⟩ : _ ∧ k_ ≠ gb365))) (fun _ hk => hk.2) (.slice Ao46 t355.length co46)) (fun _ hk => hk.2) (.slice Ao50 t358.length co50)) (fun _ hk => hk.2) (.slice Ao51 t361.length co51)) (fun _ hk => ⟨hk.1.1.1.1.1.1, ⟨hk.1.1.1.1.2, ⟨hk.1.1.1.2, ⟨hk.1.1.2, ⟨hk.1.1.1.1.1.2.1, ⟨hk.1.1.1.1.1.2.2, hk.1.2⟩⟩⟩⟩⟩⟩)))⟩; have n1_ : Aside0 (Kd.V (Kd.int .u8) 5 w52 w.heap.size (fun k_ => ((P0_0_ k_ ∨ P0_1_ k_ ∨ P0_2_ k_ ∨ P1_2_ k_) ∨ w.heap.size ≤ k_) ∧ some k_ ≠ (.slice Ao46 t355.length co46 : Value).ownBlock ∧ some k_ ≠ (.slice Ao50 t358.length co50 : Value).ownBlock ∧ some k_ ≠ (.slice Ao51 t361.length co51 : Value).ownBlock ∧ k_ ≠ gb347 ∧ k_ ≠ gb348 ∧ k_ ≠ gb365) (.slice A0_1 l0_1.length c0_1) l0_1) := ⟨(by rw [hw]; exact (by (with_reducible repeat (first | apply Kd.V_alloc | apply Kd.V_drewN | apply Kd.V_drew)); exact Kd.V_mono (Kd.V_far (p := ⟨gb365, 2, none⟩) (Kd.V_far (p := ⟨gb365, 1, none⟩) (Kd.V_far (p := ⟨gb365, 0, none⟩) (Kd.V_mono HO_348001.out (fun k_ hk => (⟨hk, hk.2⟩ : _ ∧ k_ ≠ gb365))) (fun _ hk => hk.2) (.slice Ao46 t355.length co46)) (fun _ hk => hk.2) (.slice Ao50 t358.length co50)) (fun _ hk => hk.2) (.slice Ao51 t361.length co51)) (fun _ hk => ⟨hk.1.1.1.1.1.1, ⟨hk.1.1.1.1.2, ⟨hk.1.1.1.2, ⟨hk.1.1.2, ⟨hk.1.1.1.1.1.2.1, ⟨hk.1.1.1.1.1.2.2, hk.1.2⟩⟩⟩⟩⟩⟩)))⟩; have n2_ : Aside0 (Kd.V k46 46 w52 w.heap.size (fun k_ => ((P0_0_ k_ ∨ P0_1_ k_ ∨ P0_2_ k_ ∨ P1_2_ k_) ∨ w.heap.size ≤ k_) ∧ some k_ ≠ (.slice Ao46 t355.length co46 : Value).ownBlock ∧ some k_ ≠ (.slice Ao50 t358.length co50 : Value).ownBlock ∧ some k_ ≠ (.slice Ao51 t361.length co51 : Value).ownBlock ∧ k_ ≠ gb347 ∧ k_ ≠ gb348 ∧ k_ ≠ gb365) (.slice A0_2 l0_2.length c0_2) l0_2) := ⟨(by rw [hw]; exact (by (with_reducible repeat (first | apply Kd.V_alloc | apply Kd.V_drewN | apply Kd.V_drew)); exact Kd.V_mono (Kd.V_far (p := ⟨gb365, 2, none⟩) (Kd.V_far (p := ⟨gb365, 1, none⟩) (Kd.V_far (p := ⟨gb365, 0, none⟩) (Kd.V_mono HO_348002.out (fun k_ hk => (⟨hk, hk.2⟩ : _ ∧ k_ ≠ gb365))) (fun _ hk => hk.2) (.slice Ao46 t355.length co46)) (fun _ hk => hk.2) (.slice Ao50 t358.length co50)) (fun _ hk => hk.2) (.slice Ao51 t361.length co51)) (fun _ hk => ⟨hk.1.1.1.1.1.1, ⟨hk.1.1.1.1.2, ⟨hk.1.1.1.2, ⟨hk.1.1.2, ⟨hk.1.1.1.1.1.2.1, ⟨hk.1.1.1.1.1.2.2, hk.1.2⟩⟩⟩⟩⟩⟩)))⟩; have n3_ : Aside0 (Kd.V (Kd.int .u8) 5 w52 w.heap.size (fun k_ => ((P0_0_ k_ ∨ P0_1_ k_ ∨ P0_2_ k_ ∨ P1_2_ k_) ∨ w.heap.size ≤ k_) ∧ some k_ ≠ (.slice Ao46 t355.length co46 : Value).ownBlock ∧ some k_ ≠ (.slice Ao50 t358.length co50 : Value).ownBlock ∧ some k_ ≠ (.slice Ao51 t361.length co51 : Value).ownBlock ∧ k_ ≠ gb347 ∧ k_ ≠ gb348 ∧ k_ ≠ gb365) (.slice A1_2 l1_2.length c1_2) l1_2) := ⟨(by rw [hw]; exact (by (with_reducible repeat (first | apply Kd.V_alloc | apply Kd.V_drewN | apply Kd.V_drew)); exact Kd.V_mono (Kd.V_far (p := ⟨gb365, 2, none⟩) (Kd.V_far (p := ⟨gb365, 1, none⟩) (Kd.V_far (p := ⟨gb365, 0, none⟩) (Kd.V_mono HO_349002.out (fun k_ hk => (⟨hk, hk.2⟩ : _ ∧ k_ ≠ gb365))) (fun _ hk => hk.2) (.slice Ao46 t355.length co46)) (fun _ hk => hk.2) (.slice Ao50 t358.length co50)) (fun _ hk => hk.2) (.slice Ao51 t361.length co51)) (fun _ hk => ⟨hk.1.1.1.1.1.1, ⟨hk.1.1.1.1.2, ⟨hk.1.1.1.2, ⟨hk.1.1.2, ⟨hk.1.1.1.1.1.2.1, ⟨hk.1.1.1.1.1.2.2, hk.1.2⟩⟩⟩⟩⟩⟩)))⟩; have n4_ : Aside0 (Kd.R (Kd.int .u8) 5 w52 w.heap.size (fun k_ => (w.heap.size ≤ k_) ∧ some k_ ≠ (.slice Ao50 t358.length co50 : Value).ownBlock) (.slice Ao46 t355.length co46) t355) := ⟨(by rw [hw]; exact (by (with_reducible repeat (first | apply Kd.R_alloc | apply Kd.R_drewN | apply Kd.R_drew)); exact Kd.R_mono (Kd.R_far (p := ⟨gb365, 2, none⟩) (Kd.R_far (p := ⟨gb365, 1, none⟩) (Kd.R_far (p := ⟨gb365, 0, none⟩) (Kd.R_types HO357.out BK365.out (by decide)) (fun _ hk => hk.2) (.slice Ao46 t355.length co46)) (fun _ hk => hk.2) (.slice Ao50 t358.length co50)) (fun _ hk => hk.2) (.slice Ao51 t361.length co51)) (fun _ hk => ⟨hk.1.1, hk.1.2⟩)))⟩; have n5_ : Aside0 (Kd.R (Kd.int .u8) 5 w52 w.heap.size (fun k_ => (w.heap.size ≤ k_) ∧ some k_ ≠ (.slice Ao46 t355.length co46 : Value).ownBlock) (.slice Ao50 t358.length co50) t358) := ⟨(by rw [hw]; exact (by (with_reducible repeat (first | apply Kd.R_alloc | apply Kd.R_drewN | apply Kd.R_drew)); exact Kd.R_mono (Kd.R_far (p := ⟨gb365, 2, none⟩) (Kd.R_far (p := ⟨gb365, 1, none⟩) (Kd.R_far (p := ⟨gb365, 0, none⟩) (Kd.R_types HO360.out BK365.out (by decide)) (fun _ hk => hk.2) (.slice Ao46 t355.length co46)) (fun _ hk => hk.2) (.slice Ao50 t358.length co50)) (fun _ hk => hk.2) (.slice Ao51 t361.length co51)) (fun _ hk => ⟨hk.1.1, hk.1.2⟩)))⟩; have n6_ : Aside0 (Kd.N k46 46 w52 w.heap.size (fun k_ => ((P0_0_ k_ ∨ P0_1_ k_ ∨ P0_2_ k_ ∨ P1_2_ k_) ∨ w.heap.size ≤ k_) ∧ some k_ ≠ (.slice Ao46 t355.length co46 : Value).ownBlock ∧ some k_ ≠ (.slice Ao50 t358.length co50 : Value).ownBlock ∧ k_ ≠ gb347 ∧ k_ ≠ gb348 ∧ k_ ≠ gb365) (.slice Ao51 t361.length co51) t361) := ⟨(by rw [hw]; exact (by (with_reducible repeat (first | apply Kd.N_alloc | apply Kd.N_drewN | apply Kd.N_drew)); exact Kd.N_mono (Kd.N_far (p := ⟨gb365, 2, none⟩) (Kd.N_far (p := ⟨gb365, 1, none⟩) (Kd.N_far (p := ⟨gb365, 0, none⟩) (Kd.N_mono HO363.out (fun k_ hk => (⟨hk, hk.2⟩ : _ ∧ k_ ≠ gb365))) (fun _ hk => hk.2) (.slice Ao46 t355.length co46)) (fun _ hk => hk.2) (.slice Ao50 t358.length co50)) (fun _ hk => hk.2) (.slice Ao51 t361.length co51)) (fun _ hk => ⟨hk.1.1.1, ⟨hk.1.1.2.1, ⟨hk.1.1.2.2.1, ⟨hk.1.1.2.2.2.1, ⟨hk.1.1.2.2.2.2, hk.1.2⟩⟩⟩⟩⟩)))⟩; have n7_ : Aside0 (w52.heap[gb347]? = some (.cells #[.slice A0_0 l0_0.length c0_0, .slice A0_1 l0_1.length c0_1, .slice A0_2 l0_2.length c0_2] 76 (0, 0))) := ⟨(by rw [hw]; exact (by (with_reducible repeat (first | refine blk_drewN ?_ _ | refine blk_drew ?_ | refine blk_alloc ?_ _)); refine blk_far ?_ NB347_365.out _; (with_reducible repeat (first | refine blk_drewN ?_ _ | refine blk_drew ?_ | refine blk_alloc ?_ _)); refine blk_far ?_ NB347_365.out _; (with_reducible repeat (first | refine blk_drewN ?_ _ | refine blk_drew ?_ | refine blk_alloc ?_ _)); refine blk_far ?_ NB347_365.out _; (with_reducible repeat (first | refine blk_drewN ?_ _ | refine blk_drew ?_ | refine blk_alloc ?_ _)); exact BK347.out))⟩; have n8_ : Aside0 (w52.heap[gb348]? = some (.cells #[.bool a1_0, .int .i64 a1_1, .slice A1_2 l1_2.length c1_2] 78 (0, 0))) := ⟨(by rw [hw]; exact (by (with_reducible repeat (first | refine blk_drewN ?_ _ | refine blk_drew ?_ | refine blk_alloc ?_ _)); refine blk_far ?_ NB348_365.out _; (with_reducible repeat (first | refine blk_drewN ?_ _ | refine blk_drew ?_ | refine blk_alloc ?_ _)); refine blk_far ?_ NB348_365.out _; (with_reducible repeat (first | refine blk_drewN ?_ _ | refine blk_drew ?_ | refine blk_alloc ?_ _)); refine blk_far ?_ NB348_365.out _; (with_reducible repeat (first | refine blk_drewN ?_ _ | refine blk_drew ?_ | refine blk_alloc ?_ _)); exact BK348.out))⟩; have n9_ : Aside0 (w52.heap[gb365]? = some (.cells #[.slice Ao46 t355.length co46, .slice Ao50 t358.length co50, .slice Ao51 t361.length co51] 76 (0, 0))) := ⟨(by rw [hw]; exact (by (with_reducible repeat (first | refine blk_drewN ?_ _ | refine blk_drew ?_ | refine blk_alloc ?_ _)); refine blk_put (cs := #[.slice Ao46 t355.length co46, .slice Ao50 t358.length co50, .slice none 0 0]) ?_ 2 _ rfl; (with_reducible repeat (first | refine blk_drewN ?_ _ | refine blk_drew ?_ | refine blk_alloc ?_ _)); refine blk_put (cs := #[.slice Ao46 t355.length co46, .slice none 0 0, .slice none 0 0]) ?_ 1 _ rfl; (with_reducible repeat (first | refine blk_drewN ?_ _ | refine blk_drew ?_ | refine blk_alloc ?_ _)); refine blk_put (cs := #[.slice none 0 0, .slice none 0 0, .slice none 0 0]) ?_ 0 _ rfl; (with_reducible repeat (first | refine blk_drewN ?_ _ | refine blk_drew ?_ | refine blk_alloc ?_ _)); exact BK365.out))⟩; have n10_ : Aside0 (Below w.heap.size w w52) := ⟨(by rw [hw]; exact (below_y HB.out))⟩; clear hw; clear HO_348000; clear HO_348001; clear HO_348002; clear HO_349002; clear HO357; clear HO360; clear HO363; clear BK347; clear BK348; clear BK365; clear HB; have HO_348000 := n0_; have HO_348001 := n1_; have HO_348002 := n2_; have HO_349002 := n3_; have HO357 := n4_; have HO360 := n5_; have HO363 := n6_; have BK347 := n7_; have BK348 := n8_; have BK365 := n9_; have HB := n10_; clear n0_ n1_ n2_ n3_ n4_ n5_ n6_ n7_ n8_ n9_ n10_; have hcz53_0 : w52.cell? ⟨gb347, 0, none⟩ = some (.slice A0_0 l0_0.length c0_0) := (blk_cell BK347.out 0).trans rfl; have hcz53_1 : w52.cell? ⟨gb347, 1, none⟩ = some (.slice A0_1 l0_1.length c0_1) := (blk_cell BK347.out 1).trans rfl; have hcz53_2 : w52.cell? ⟨gb347, 2, none⟩ = some (.slice A0_2 l0_2.length c0_2) := (blk_cell BK347.out 2).trans rfl; have hfz53_0 := blk_frozen BK347.out 0; have hfz53_1 := blk_frozen BK347.out 1; have hfz53_2 := blk_frozen BK347.out 2; have hcz54_0 : w52.cell? ⟨gb348, 0, none⟩ = some (.bool a1_0) := (blk_cell BK348.out 0).trans rfl; have hcz54_1 : w52.cell? ⟨gb348, 1, none⟩ = some (.int .i64 a1_1) := (blk_cell BK348.out 1).trans rfl; have hcz54_2 : w52.cell? ⟨gb348, 2, none⟩ = some (.slice A1_2 l1_2.length c1_2) := (blk_cell BK348.out 2).trans rfl; have hfz54_0 := blk_frozen BK348.out 0; have hfz54_1 := blk_frozen BK348.out 1; have hfz54_2 := blk_frozen BK348.out 2) | ((with_reducible refine gate_callee (f := 53) rfl ?_); refine goesL_ (some 40) rfl rfl Try.func53 (by kernel_rfl) rfl #[.agg #[.slice A0_0 l0_0.length c0_0, .slice A0_1 l0_1.length c0_1, .slice A0_2 l0_2.length c0_2], .int .i64 a1_1, .slice A1_2 l1_2.length c1_2] rfl (by (try simp only [List.map_toArray, List.map_cons, List.map_nil]); first | done | rfl | (simp only [List.length_drop, List.length_take]; rfl)) ?_; (with_reducible refine (newsreelref09_Write.calls kj3 _ _ l0_0 (fun k_ => (((P0_0_ k_ ∨ P0_1_ k_ ∨ P0_2_ k_ ∨ P1_2_ k_) ∨ w.heap.size ≤ k_) ∧ (some k_ ≠ (.slice Ao46 t355.length co46 : Value).ownBlock ∧ (some k_ ≠ (.slice Ao50 t358.length co50 : Value).ownBlock ∧ (some k_ ≠ (.slice Ao51 t361.length co51 : Value).ownBlock ∧ (k_ ≠ gb347 ∧ (k_ ≠ gb348 ∧ k_ ≠ gb365))))))) _ _ l0_1 (fun k_ => (((P0_0_ k_ ∨ P0_1_ k_ ∨ P0_2_ k_ ∨ P1_2_ k_) ∨ w.heap.size ≤ k_) ∧ (some k_ ≠ (.slice Ao46 t355.length co46 : Value).ownBlock ∧ (some k_ ≠ (.slice Ao50 t358.length co50 : Value).ownBlock ∧ (some k_ ≠ (.slice Ao51 t361.length co51 : Value).ownBlock ∧ (k_ ≠ gb347 ∧ (k_ ≠ gb348 ∧ k_ ≠ gb365))))))) _ _ l0_2 a1_1 _ _ l1_2 t366 t369 t372 t375 _ ?side1 ?side2 ?side3 ?side4 ?side5 ?side6 A24.out).mono ?_); (case side1 => exact Kd.C_y (Kd.V_reads' HO_348000.out).2.2); (case side2 => exact (Kd.V_reads' HO_348000.out).2.1); (case side3 => exact HO_348001.out); (case side4 => exact HO_348002.out); (case side5 => exact Kd.C_y (Kd.V_reads' HO_349002.out).2.2); (case side6 => exact (Kd.V_reads' HO_349002.out).2.1); rintro e w55 ⟨v367, v370, v373, rfl, ho0, ho1, ho2, hb⟩; refine ⟨_, rfl, ?_⟩; have n0_ := Aside0.mk (Kd.V_mono (Kd.V_told (Kd.V_told (Kd.V_old (Kd.V_y HO_348000.out) hb) (Kd.R_base ho0)) (Kd.N_base ho2)) (fun _ h_ => h_.1)); have n1_ := Aside0.mk (Kd.V_mono (Kd.V_told (Kd.V_told (Kd.V_old (Kd.V_y HO_348001.out) hb) (Kd.R_base ho0)) (Kd.N_base ho2)) (fun _ h_ => h_.1)); have n2_ := Aside0.mk (Kd.V_mono (Kd.V_told (Kd.V_told (Kd.V_old (Kd.V_y HO_348002.out) hb) (Kd.R_base ho0)) (Kd.N_base ho2)) (fun _ h_ => h_.1)); have n3_ := Aside0.mk (Kd.V_mono (Kd.V_told (Kd.V_told (Kd.V_old (Kd.V_y HO_349002.out) hb) (Kd.R_base ho0)) (Kd.N_base ho2)) (fun _ h_ => h_.1)); have n4_ := Aside0.mk (Kd.R_elder' (Kd.R_y HO357.out) (Kd.R_base ho0) hb); have n5_ := Aside0.mk (Kd.R_elder' (Kd.R_y HO360.out) (Kd.R_base ho0) hb); have n6_ := Aside0.mk (Kd.N_mono (Kd.N_told (Kd.N_told (Kd.N_old (Kd.N_y HO363.out) hb) (Kd.R_base ho0)) (Kd.N_base ho2)) (fun _ h_ => h_.1)); have n7_ := Aside0.mk (Kd.R_lower (Kd.R_new' (Kd.R_new' (Kd.R_newM (M := fun k_ => (w.heap.size ≤ k_)) (Kd.R_mono (ok' := fun k_ => True) ho0 (fun _ hk_ => trivial)) (below_size (below_y HB.out)) (fun k_ h_ => h_)) (Kd.R_lt (Kd.R_y HO357.out))) (Kd.R_lt (Kd.R_y HO360.out))) (below_size (below_y HB.out))); have n8_ := Aside0.mk (Kd.V_lower (Kd.V_mono (ok' := fun k_ => ((P0_0_ k_ ∨ P0_1_ k_ ∨ P0_2_ k_ ∨ P1_2_ k_) ∨ w.heap.size ≤ k_) ∧ some k_ ≠ (v367 : Value).ownBlock ∧ some k_ ≠ (v373 : Value).ownBlock ∧ some k_ ≠ (.slice Ao46 t355.length co46 : Value).ownBlock ∧ some k_ ≠ (.slice Ao50 t358.length co50 : Value).ownBlock ∧ some k_ ≠ (.slice Ao51 t361.length co51 : Value).ownBlock ∧ k_ ≠ gb347 ∧ k_ ≠ gb348 ∧ k_ ≠ gb365) ho1 (fun k_ hk_ => ⟨Or.elim hk_.1 (fun hs_ => Or.elim hs_ (fun hs_ => hs_.1) (fun hs_ => hs_.1)) (fun hn_ => (.inr (Nat.le_trans (below_size (below_y HB.out)) hn_))), hk_.2.1, hk_.2.2, Or.elim hk_.1 (fun hs_ => Or.elim hs_ (fun hs_ => hs_.2.1) (fun hs_ => hs_.2.1)) (fun hn_ => (Kd.fresh' (Kd.R_lt (Kd.R_y HO357.out)) k_ hn_)), Or.elim hk_.1 (fun hs_ => Or.elim hs_ (fun hs_ => hs_.2.2.1) (fun hs_ => hs_.2.2.1)) (fun hn_ => (Kd.fresh' (Kd.R_lt (Kd.R_y HO360.out)) k_ hn_)), Or.elim hk_.1 (fun hs_ => Or.elim hs_ (fun hs_ => hs_.2.2.2.1) (fun hs_ => hs_.2.2.2.1)) (fun hn_ => (Kd.fresh' (Kd.N_lt (Kd.N_y HO363.out)) k_ hn_)), Or.elim hk_.1 (fun hs_ => Or.elim hs_ (fun hs_ => hs_.2.2.2.2.1) (fun hs_ => hs_.2.2.2.2.1)) (fun hn_ => (Kd.freshB (g := gb347) (o := .cells #[.slice A0_0 l0_0.length c0_0, .slice A0_1 l0_1.length c0_1, .slice A0_2 l0_2.length c0_2] 76 (0, 0)) (blk_y BK347.out) k_ hn_)), Or.elim hk_.1 (fun hs_ => Or.elim hs_ (fun hs_ => hs_.2.2.2.2.2.1) (fun hs_ => hs_.2.2.2.2.2.1)) (fun hn_ => (Kd.freshB (g := gb348) (o := .cells #[.bool a1_0, .int .i64 a1_1, .slice A1_2 l1_2.length c1_2] 78 (0, 0)) (blk_y BK348.out) k_ hn_)), Or.elim hk_.1 (fun hs_ => Or.elim hs_ (fun hs_ => hs_.2.2.2.2.2.2) (fun hs_ => hs_.2.2.2.2.2.2)) (fun hn_ => (Kd.freshB (g := gb365) (o := .cells #[.slice Ao46 t355.length co46, .slice Ao50 t358.length co50, .slice Ao51 t361.length co51] 76 (0, 0)) (blk_y BK365.out) k_ hn_))⟩)) (below_size (below_y HB.out))); have n9_ := Aside0.mk (Kd.N_lower (Kd.N_mono (ok' := fun k_ => ((P0_0_ k_ ∨ P0_1_ k_ ∨ P0_2_ k_ ∨ P1_2_ k_) ∨ w.heap.size ≤ k_) ∧ some k_ ≠ (v367 : Value).ownBlock ∧ some k_ ≠ (.slice Ao46 t355.length co46 : Value).ownBlock ∧ some k_ ≠ (.slice Ao50 t358.length co50 : Value).ownBlock ∧ some k_ ≠ (.slice Ao51 t361.length co51 : Value).ownBlock ∧ k_ ≠ gb347 ∧ k_ ≠ gb348 ∧ k_ ≠ gb365) ho2 (fun k_ hk_ => ⟨Or.elim hk_.1 (fun hs_ => Or.elim hs_ (fun hs_ => hs_.1) (fun hs_ => hs_.1)) (fun hn_ => (.inr (Nat.le_trans (below_size (below_y HB.out)) hn_))), hk_.2, Or.elim hk_.1 (fun hs_ => Or.elim hs_ (fun hs_ => hs_.2.1) (fun hs_ => hs_.2.1)) (fun hn_ => (Kd.fresh' (Kd.R_lt (Kd.R_y HO357.out)) k_ hn_)), Or.elim hk_.1 (fun hs_ => Or.elim hs_ (fun hs_ => hs_.2.2.1) (fun hs_ => hs_.2.2.1)) (fun hn_ => (Kd.fresh' (Kd.R_lt (Kd.R_y HO360.out)) k_ hn_)), Or.elim hk_.1 (fun hs_ => Or.elim hs_ (fun hs_ => hs_.2.2.2.1) (fun hs_ => hs_.2.2.2.1)) (fun hn_ => (Kd.fresh' (Kd.N_lt (Kd.N_y HO363.out)) k_ hn_)), Or.elim hk_.1 (fun hs_ => Or.elim hs_ (fun hs_ => hs_.2.2.2.2.1) (fun hs_ => hs_.2.2.2.2.1)) (fun hn_ => (Kd.freshB (g := gb347) (o := .cells #[.slice A0_0 l0_0.length c0_0, .slice A0_1 l0_1.length c0_1, .slice A0_2 l0_2.length c0_2] 76 (0, 0)) (blk_y BK347.out) k_ hn_)), Or.elim hk_.1 (fun hs_ => Or.elim hs_ (fun hs_ => hs_.2.2.2.2.2.1) (fun hs_ => hs_.2.2.2.2.2.1)) (fun hn_ => (Kd.freshB (g := gb348) (o := .cells #[.bool a1_0, .int .i64 a1_1, .slice A1_2 l1_2.length c1_2] 78 (0, 0)) (blk_y BK348.out) k_ hn_)), Or.elim hk_.1 (fun hs_ => Or.elim hs_ (fun hs_ => hs_.2.2.2.2.2.2) (fun hs_ => hs_.2.2.2.2.2.2)) (fun hn_ => (Kd.freshB (g := gb365) (o := .cells #[.slice Ao46 t355.length co46, .slice Ao50 t358.length co50, .slice Ao51 t361.length co51] 76 (0, 0)) (blk_y BK365.out) k_ hn_))⟩)) (below_size (below_y HB.out))); have n10_ := Aside0.mk (blk_below (g := gb347) (o := .cells #[.slice A0_0 l0_0.length c0_0, .slice A0_1 l0_1.length c0_1, .slice A0_2 l0_2.length c0_2] 76 (0, 0)) (blk_y BK347.out) hb); have n11_ := Aside0.mk (blk_below (g := gb348) (o := .cells #[.bool a1_0, .int .i64 a1_1, .slice A1_2 l1_2.length c1_2] 78 (0, 0)) (blk_y BK348.out) hb); have n12_ := Aside0.mk (blk_below (g := gb365) (o := .cells #[.slice Ao46 t355.length co46, .slice Ao50 t358.length co50, .slice Ao51 t361.length co51] 76 (0, 0)) (blk_y BK365.out) hb); have n13_ := Aside0.mk (below_step (below_y HB.out) hb); clear HO_348000; clear HO_348001; clear HO_348002; clear HO_349002; clear HO357; clear HO360; clear HO363; clear BK347; clear BK348; clear BK365; clear HB; have HO_348000 := n0_; have HO_348001 := n1_; have HO_348002 := n2_; have HO_349002 := n3_; have HO357 := n4_; have HO360 := n5_; have HO363 := n6_; have HO368 := n7_; have HO371 := n8_; have HO374 := n9_; have BK347 := n10_; have BK348 := n11_; have BK365 := n12_; have HB := n13_; clear n0_ n1_ n2_ n3_ n4_ n5_ n6_ n7_ n8_ n9_ n10_ n11_ n12_ n13_; (try clear hb); (try clear hb2); (try clear hk); (try clear hi); (try clear ho0); (try clear ho1); (try clear ho2)) | ((with_reducible refine gate_dst (N := 9) rfl ?_); (try (refine gate_guard (by rfl) ?_; dsimp only)); refine box_event ?hg (N := 9) ?hd (cs := #[.slice none 0 0, .slice none 0 0, .slice none 0 0]) (t := 76) ?hr ?_; (case hd => rfl); (case hg => rfl); (case hr => first | (go_simp; done) | (go_simp; rfl)); intro gb376 hg w56 hbox hb; have n0_ := Aside0.mk (Kd.V_below (Kd.V_elderB (Kd.V_y HO_348000.out) gb376 (Nat.le_of_eq hg.symm)) hb); have n1_ := Aside0.mk (Kd.V_below (Kd.V_elderB (Kd.V_y HO_348001.out) gb376 (Nat.le_of_eq hg.symm)) hb); have n2_ := Aside0.mk (Kd.V_below (Kd.V_elderB (Kd.V_y HO_348002.out) gb376 (Nat.le_of_eq hg.symm)) hb); have n3_ := Aside0.mk (Kd.V_below (Kd.V_elderB (Kd.V_y HO_349002.out) gb376 (Nat.le_of_eq hg.symm)) hb); have n4_ := Aside0.mk (Kd.R_below (Kd.R_y HO357.out) hb); have n5_ := Aside0.mk (Kd.R_below (Kd.R_y HO360.out) hb); have n6_ := Aside0.mk (Kd.N_below (Kd.N_elderB (Kd.N_y HO363.out) gb376 (Nat.le_of_eq hg.symm)) hb); have n7_ := Aside0.mk (Kd.R_below (Kd.R_y HO368.out) hb); have n8_ := Aside0.mk (Kd.V_below (Kd.V_elderB (Kd.V_y HO371.out) gb376 (Nat.le_of_eq hg.symm)) hb); have n9_ := Aside0.mk (Kd.N_below (Kd.N_elderB (Kd.N_y HO374.out) gb376 (Nat.le_of_eq hg.symm)) hb); have n10_ := Aside0.mk (blk_below (g := gb347) (o := .cells #[.slice A0_0 l0_0.length c0_0, .slice A0_1 l0_1.length c0_1, .slice A0_2 l0_2.length c0_2] 76 (0, 0)) (blk_y BK347.out) hb); have n11_ := Aside0.mk (blk_below (g := gb348) (o := .cells #[.bool a1_0, .int .i64 a1_1, .slice A1_2 l1_2.length c1_2] 78 (0, 0)) (blk_y BK348.out) hb); have n12_ := Aside0.mk (blk_below (g := gb365) (o := .cells #[.slice Ao46 t355.length co46, .slice Ao50 t358.length co50, .slice Ao51 t361.length co51] 76 (0, 0)) (blk_y BK365.out) hb); have n13_ := Aside0.mk (below_step (below_y HB.out) hb); have n14_ := Aside0.mk (hbox); have n15_ := Aside0.mk ((by rw [hg]; exact (below_size (below_y HB.out)) : w.heap.size ≤ gb376)); have n16_ := Aside0.mk ((by rw [hg]; exact (below_size (below_y HB.out)) : w.heap.size ≤ gb376)); have n17_ := Aside0.mk ((by rw [hg]; exact Nat.ne_of_lt (blk_lt (g := gb347) (o := .cells #[.slice A0_0 l0_0.length c0_0, .slice A0_1 l0_1.length c0_1, .slice A0_2 l0_2.length c0_2] 76 (0, 0)) (blk_y BK347.out)) : gb347 ≠ gb376)); have n18_ := Aside0.mk ((by rw [hg]; exact Nat.ne_of_gt (blk_lt (g := gb347) (o := .cells #[.slice A0_0 l0_0.length c0_0, .slice A0_1 l0_1.length c0_1, .slice A0_2 l0_2.length c0_2] 76 (0, 0)) (blk_y BK347.out)) : gb376 ≠ gb347)); have n19_ := Aside0.mk ((by rw [hg]; exact Nat.ne_of_lt (blk_lt (g := gb348) (o := .cells #[.bool a1_0, .int .i64 a1_1, .slice A1_2 l1_2.length c1_2] 78 (0, 0)) (blk_y BK348.out)) : gb348 ≠ gb376)); have n20_ := Aside0.mk ((by rw [hg]; exact Nat.ne_of_gt (blk_lt (g := gb348) (o := .cells #[.bool a1_0, .int .i64 a1_1, .slice A1_2 l1_2.length c1_2] 78 (0, 0)) (blk_y BK348.out)) : gb376 ≠ gb348)); have n21_ := Aside0.mk ((by rw [hg]; exact Nat.ne_of_lt (blk_lt (g := gb365) (o := .cells #[.slice Ao46 t355.length co46, .slice Ao50 t358.length co50, .slice Ao51 t361.length co51] 76 (0, 0)) (blk_y BK365.out)) : gb365 ≠ gb376)); have n22_ := Aside0.mk ((by rw [hg]; exact Nat.ne_of_gt (blk_lt (g := gb365) (o := .cells #[.slice Ao46 t355.length co46, .slice Ao50 t358.length co50, .slice Ao51 t361.length co51] 76 (0, 0)) (blk_y BK365.out)) : gb376 ≠ gb365)); clear HO_348000; clear HO_348001; clear HO_348002; clear HO_349002; clear HO357; clear HO360; clear HO363; clear HO368; clear HO371; clear HO374; clear BK347; clear BK348; clear BK365; clear HB; have HO_348000 := n0_; have HO_348001 := n1_; have HO_348002 := n2_; have HO_349002 := n3_; have HO357 := n4_; have HO360 := n5_; have HO363 := n6_; have HO368 := n7_; have HO371 := n8_; have HO374 := n9_; have BK347 := n10_; have BK348 := n11_; have BK365 := n12_; have HB := n13_; have BK376 := n14_; have GW376 := n15_; have GE376 := n16_; have NB347_376 := n17_; have NB376_347 := n18_; have NB348_376 := n19_; have NB376_348 := n20_; have NB365_376 := n21_; have NB376_365 := n22_; clear n0_ n1_ n2_ n3_ n4_ n5_ n6_ n7_ n8_ n9_ n10_ n11_ n12_ n13_ n14_ n15_ n16_ n17_ n18_ n19_ n20_ n21_ n22_; clear hb hbox hg; obtain ⟨Ao57, co57, eo57⟩ := Kd.R_slice HO368.out; subst eo57; have hnb58 := NB376_347.out; have hnc58 := NB347_376.out; have hnb59 := NB376_348.out; have hnc59 := NB348_376.out; have hnb60 := NB376_365.out; have hnc60 := NB365_376.out; have hcz61_0 : w56.cell? ⟨gb376, 0, none⟩ = some (.slice none 0 0) := (blk_cell BK376.out 0).trans rfl; have hcz61_1 : w56.cell? ⟨gb376, 1, none⟩ = some (.slice none 0 0) := (blk_cell BK376.out 1).trans rfl; have hcz61_2 : w56.cell? ⟨gb376, 2, none⟩ = some (.slice none 0 0) := (blk_cell BK376.out 2).trans rfl; have hfz61_0 := blk_frozen BK376.out 0; have hfz61_1 := blk_frozen BK376.out 1; have hfz61_2 := blk_frozen BK376.out 2; obtain ⟨Ao62, co62, eo62⟩ := Kd.V_slice HO371.out; subst eo62; obtain ⟨Ao63, co63, eo63⟩ := Kd.N_slice HO374.out; subst eo63) | ((with_reducible refine gate_store (t := 76) (p := 9) rfl ?_); refine store_event (t := 76) (p := 9) (v := ?vo_w64) (w1 := (((w56.setCell ⟨gb376, 0, none⟩ (.slice Ao57 t366.length co57)).setCell ⟨gb376, 1, none⟩ (.slice Ao62 t369.length co62)).setCell ⟨gb376, 2, none⟩ (.slice Ao63 t372.length co63))) ?hg ?ho ?hn ?hr ?_; (case ho => rfl); (case hg => rfl); (case hn => rfl); (case hr => first | (go_simp; done) | (go_simp; rfl)); intro w64 hw; have n0_ : Aside0 (Kd.V (Kd.int .u8) 5 w64 w.heap.size (fun k_ => ((P0_0_ k_ ∨ P0_1_ k_ ∨ P0_2_ k_ ∨ P1_2_ k_) ∨ w.heap.size ≤ k_) ∧ some k_ ≠ (.slice Ao46 t355.length co46 : Value).ownBlock ∧ some k_ ≠ (.slice Ao50 t358.length co50 : Value).ownBlock ∧ some k_ ≠ (.slice Ao51 t361.length co51 : Value).ownBlock ∧ some k_ ≠ (.slice Ao57 t366.length co57 : Value).ownBlock ∧ some k_ ≠ (.slice Ao63 t372.length co63 : Value).ownBlock ∧ k_ ≠ gb347 ∧ k_ ≠ gb348 ∧ k_ ≠ gb365 ∧ k_ ≠ gb376) (.slice A0_0 l0_0.length c0_0) l0_0) := ⟨(by rw [hw]; exact (by (with_reducible repeat (first | apply Kd.V_alloc | apply Kd.V_drewN | apply Kd.V_drew)); exact Kd.V_mono (Kd.V_far (p := ⟨gb376, 2, none⟩) (Kd.V_far (p := ⟨gb376, 1, none⟩) (Kd.V_far (p := ⟨gb376, 0, none⟩) (Kd.V_mono HO_348000.out (fun k_ hk => (⟨hk, hk.2⟩ : _ ∧ k_ ≠ gb376))) (fun _ hk => hk.2) (.slice Ao57 t366.length co57)) (fun _ hk => hk.2) (.slice Ao62 t369.length co62)) (fun _ hk => hk.2) (.slice Ao63 t372.length co63)) (fun _ hk => ⟨hk.1.1.1.1.1, ⟨hk.1.1.1.1.2.1, ⟨hk.1.1.1.1.2.2.1, ⟨hk.1.1.1.1.2.2.2.1, ⟨hk.1.1.1.2, ⟨hk.1.1.2, ⟨hk.1.1.1.1.2.2.2.2.1, ⟨hk.1.1.1.1.2.2.2.2.2.1, ⟨hk.1.1.1.1.2.2.2.2.2.2, hk.1.2⟩⟩⟩⟩⟩⟩⟩⟩⟩)))⟩; have n1_ : Aside0 (Kd.V (Kd.int .u8) 5 w64 w.heap.size (fun k_ => ((P0_0_ k_ ∨ P0_1_ k_ ∨ P0_2_ k_ ∨ P1_2_ k_) ∨ w.heap.size ≤ k_) ∧ some k_ ≠ (.slice Ao46 t355.length co46 : Value).ownBlock ∧ some k_ ≠ (.slice Ao50 t358.length co50 : Value).ownBlock ∧ some k_ ≠ (.slice Ao51 t361.length co51 : Value).ownBlock ∧ some k_ ≠ (.slice Ao57 t366.length co57 : Value).ownBlock ∧ some k_ ≠ (.slice Ao63 t372.length co63 : Value).ownBlock ∧ k_ ≠ gb347 ∧ k_ ≠ gb348 ∧ k_ ≠ gb365 ∧ k_ ≠ gb376) (.slice A0_1 l0_1.length c0_1) l0_1) := ⟨(by rw [hw]; exact (by (with_reducible repeat (first | apply Kd.V_alloc | apply Kd.V_drewN | apply Kd.V_drew)); exact Kd.V_mono (Kd.V_far (p := ⟨gb376, 2, none⟩) (Kd.V_far (p := ⟨gb376, 1, none⟩) (Kd.V_far (p := ⟨gb376, 0, none⟩) (Kd.V_mono HO_348001.out (fun k_ hk => (⟨hk, hk.2⟩ : _ ∧ k_ ≠ gb376))) (fun _ hk => hk.2) (.slice Ao57 t366.length co57)) (fun _ hk => hk.2) (.slice Ao62 t369.length co62)) (fun _ hk => hk.2) (.slice Ao63 t372.length co63)) (fun _ hk => ⟨hk.1.1.1.1.1, ⟨hk.1.1.1.1.2.1, ⟨hk.1.1.1.1.2.2.1, ⟨hk.1.1.1.1.2.2.2.1, ⟨hk.1.1.1.2, ⟨hk.1.1.2, ⟨hk.1.1.1.1.2.2.2.2.1, ⟨hk.1.1.1.1.2.2.2.2.2.1, ⟨hk.1.1.1.1.2.2.2.2.2.2, hk.1.2⟩⟩⟩⟩⟩⟩⟩⟩⟩)))⟩; have n2_ : Aside0 (Kd.V k46 46 w64 w.heap.size (fun k_ => ((P0_0_ k_ ∨ P0_1_ k_ ∨ P0_2_ k_ ∨ P1_2_ k_) ∨ w.heap.size ≤ k_) ∧ some k_ ≠ (.slice Ao46 t355.length co46 : Value).ownBlock ∧ some k_ ≠ (.slice Ao50 t358.length co50 : Value).ownBlock ∧ some k_ ≠ (.slice Ao51 t361.length co51 : Value).ownBlock ∧ some k_ ≠ (.slice Ao57 t366.length co57 : Value).ownBlock ∧ some k_ ≠ (.slice Ao63 t372.length co63 : Value).ownBlock ∧ k_ ≠ gb347 ∧ k_ ≠ gb348 ∧ k_ ≠ gb365 ∧ k_ ≠ gb376) (.slice A0_2 l0_2.length c0_2) l0_2) := ⟨(by rw [hw]; exact (by (with_reducible repeat (first | apply Kd.V_alloc | apply Kd.V_drewN | apply Kd.V_drew)); exact Kd.V_mono (Kd.V_far (p := ⟨gb376, 2, none⟩) (Kd.V_far (p := ⟨gb376, 1, none⟩) (Kd.V_far (p := ⟨gb376, 0, none⟩) (Kd.V_mono HO_348002.out (fun k_ hk => (⟨hk, hk.2⟩ : _ ∧ k_ ≠ gb376))) (fun _ hk => hk.2) (.slice Ao57 t366.length co57)) (fun _ hk => hk.2) (.slice Ao62 t369.length co62)) (fun _ hk => hk.2) (.slice Ao63 t372.length co63)) (fun _ hk => ⟨hk.1.1.1.1.1, ⟨hk.1.1.1.1.2.1, ⟨hk.1.1.1.1.2.2.1, ⟨hk.1.1.1.1.2.2.2.1, ⟨hk.1.1.1.2, ⟨hk.1.1.2, ⟨hk.1.1.1.1.2.2.2.2.1, ⟨hk.1.1.1.1.2.2.2.2.2.1, ⟨hk.1.1.1.1.2.2.2.2.2.2, hk.1.2⟩⟩⟩⟩⟩⟩⟩⟩⟩)))⟩; have n3_ : Aside0 (Kd.V (Kd.int .u8) 5 w64 w.heap.size (fun k_ => ((P0_0_ k_ ∨ P0_1_ k_ ∨ P0_2_ k_ ∨ P1_2_ k_) ∨ w.heap.size ≤ k_) ∧ some k_ ≠ (.slice Ao46 t355.length co46 : Value).ownBlock ∧ some k_ ≠ (.slice Ao50 t358.length co50 : Value).ownBlock ∧ some k_ ≠ (.slice Ao51 t361.length co51 : Value).ownBlock ∧ some k_ ≠ (.slice Ao57 t366.length co57 : Value).ownBlock ∧ some k_ ≠ (.slice Ao63 t372.length co63 : Value).ownBlock ∧ k_ ≠ gb347 ∧ k_ ≠ gb348 ∧ k_ ≠ gb365 ∧ k_ ≠ gb376) (.slice A1_2 l1_2.length c1_2) l1_2) := ⟨(by rw [hw]; exact (by (with_reducible repeat (first | apply Kd.V_alloc | apply Kd.V_drewN | apply Kd.V_drew)); exact Kd.V_mono (Kd.V_far (p := ⟨gb376, 2, none⟩) (Kd.V_far (p := ⟨gb376, 1, none⟩) (Kd.V_far (p := ⟨gb376, 0, none⟩) (Kd.V_mono HO_349002.out (fun k_ hk => (⟨hk, hk.2⟩ : _ ∧ k_ ≠ gb376))) (fun _ hk => hk.2) (.slice Ao57 t366.length co57)) (fun _ hk => hk.2) (.slice Ao62 t369.length co62)) (fun _ hk => hk.2) (.slice Ao63 t372.length co63)) (fun _ hk => ⟨hk.1.1.1.1.1, ⟨hk.1.1.1.1.2.1, ⟨hk.1.1.1.1.2.2.1, ⟨hk.1.1.1.1.2.2.2.1, ⟨hk.1.1.1.2, ⟨hk.1.1.2, ⟨hk.1.1.1.1.2.2.2.2.1, ⟨hk.1.1.1.1.2.2.2.2.2.1, ⟨hk.1.1.1.1.2.2.2.2.2.2, hk.1.2⟩⟩⟩⟩⟩⟩⟩⟩⟩)))⟩; have n4_ : Aside0 (Kd.R (Kd.int .u8) 5 w64 w.heap.size (fun k_ => (w.heap.size ≤ k_) ∧ some k_ ≠ (.slice Ao50 t358.length co50 : Value).ownBlock ∧ some k_ ≠ (.slice Ao57 t366.length co57 : Value).ownBlock) (.slice Ao46 t355.length co46) t355) := ⟨(by rw [hw]; exact (by (with_reducible repeat (first | apply Kd.R_alloc | apply Kd.R_drewN | apply Kd.R_drew)); exact Kd.R_mono (Kd.R_far (p := ⟨gb376, 2, none⟩) (Kd.R_far (p := ⟨gb376, 1, none⟩) (Kd.R_far (p := ⟨gb376, 0, none⟩) (Kd.R_types HO357.out BK376.out (by decide)) (fun _ hk => hk.2) (.slice Ao57 t366.length co57)) (fun _ hk => hk.2) (.slice Ao62 t369.length co62)) (fun _ hk => hk.2) (.slice Ao63 t372.length co63)) (fun _ hk => ⟨hk.1.1.1, ⟨hk.1.1.2, hk.1.2⟩⟩)))⟩; have n5_ : Aside0 (Kd.R (Kd.int .u8) 5 w64 w.heap.size (fun k_ => (w.heap.size ≤ k_) ∧ some k_ ≠ (.slice Ao46 t355.length co46 : Value).ownBlock ∧ some k_ ≠ (.slice Ao57 t366.length co57 : Value).ownBlock) (.slice Ao50 t358.length co50) t358) := ⟨(by rw [hw]; exact (by (with_reducible repeat (first | apply Kd.R_alloc | apply Kd.R_drewN | apply Kd.R_drew)); exact Kd.R_mono (Kd.R_far (p := ⟨gb376, 2, none⟩) (Kd.R_far (p := ⟨gb376, 1, none⟩) (Kd.R_far (p := ⟨gb376, 0, none⟩) (Kd.R_types HO360.out BK376.out (by decide)) (fun _ hk => hk.2) (.slice Ao57 t366.length co57)) (fun _ hk => hk.2) (.slice Ao62 t369.length co62)) (fun _ hk => hk.2) (.slice Ao63 t372.length co63)) (fun _ hk => ⟨hk.1.1.1, ⟨hk.1.1.2, hk.1.2⟩⟩)))⟩; have n6_ : Aside0 (Kd.N k46 46 w64 w.heap.size (fun k_ => ((P0_0_ k_ ∨ P0_1_ k_ ∨ P0_2_ k_ ∨ P1_2_ k_) ∨ w.heap.size ≤ k_) ∧ some k_ ≠ (.slice Ao46 t355.length co46 : Value).ownBlock ∧ some k_ ≠ (.slice Ao50 t358.length co50 : Value).ownBlock ∧ some k_ ≠ (.slice Ao57 t366.length co57 : Value).ownBlock ∧ some k_ ≠ (.slice Ao63 t372.length co63 : Value).ownBlock ∧ k_ ≠ gb347 ∧ k_ ≠ gb348 ∧ k_ ≠ gb365 ∧ k_ ≠ gb376) (.slice Ao51 t361.length co51) t361) := ⟨(by rw [hw]; exact (by (with_reducible repeat (first | apply Kd.N_alloc | apply Kd.N_drewN | apply Kd.N_drew)); exact Kd.N_mono (Kd.N_far (p := ⟨gb376, 2, none⟩) (Kd.N_far (p := ⟨gb376, 1, none⟩) (Kd.N_far (p := ⟨gb376, 0, none⟩) (Kd.N_mono HO363.out (fun k_ hk => (⟨hk, hk.2⟩ : _ ∧ k_ ≠ gb376))) (fun _ hk => hk.2) (.slice Ao57 t366.length co57)) (fun _ hk => hk.2) (.slice Ao62 t369.length co62)) (fun _ hk => hk.2) (.slice Ao63 t372.length co63)) (fun _ hk => ⟨hk.1.1.1.1.1, ⟨hk.1.1.1.1.2.1, ⟨hk.1.1.1.1.2.2.1, ⟨hk.1.1.1.2, ⟨hk.1.1.2, ⟨hk.1.1.1.1.2.2.2.1, ⟨hk.1.1.1.1.2.2.2.2.1, ⟨hk.1.1.1.1.2.2.2.2.2, hk.1.2⟩⟩⟩⟩⟩⟩⟩⟩)))⟩; have n7_ : Aside0 (Kd.R (Kd.int .u8) 5 w64 w.heap.size (fun k_ => (w.heap.size ≤ k_) ∧ some k_ ≠ (.slice Ao46 t355.length co46 : Value).ownBlock ∧ some k_ ≠ (.slice Ao50 t358.length co50 : Value).ownBlock) (.slice Ao57 t366.length co57) t366) := ⟨(by rw [hw]; exact (by (with_reducible repeat (first | apply Kd.R_alloc | apply Kd.R_drewN | apply Kd.R_drew)); exact Kd.R_mono (Kd.R_far (p := ⟨gb376, 2, none⟩) (Kd.R_far (p := ⟨gb376, 1, none⟩) (Kd.R_far (p := ⟨gb376, 0, none⟩) (Kd.R_types HO368.out BK376.out (by decide)) (fun _ hk => hk.2) (.slice Ao57 t366.length co57)) (fun _ hk => hk.2) (.slice Ao62 t369.length co62)) (fun _ hk => hk.2) (.slice Ao63 t372.length co63)) (fun _ hk => ⟨hk.1.1.1.1, ⟨hk.1.1.2, hk.1.2⟩⟩)))⟩; have n8_ : Aside0 (Kd.V (Kd.int .u8) 5 w64 w.heap.size (fun k_ => ((P0_0_ k_ ∨ P0_1_ k_ ∨ P0_2_ k_ ∨ P1_2_ k_) ∨ w.heap.size ≤ k_) ∧ some k_ ≠ (.slice Ao46 t355.length co46 : Value).ownBlock ∧ some k_ ≠ (.slice Ao50 t358.length co50 : Value).ownBlock ∧ some k_ ≠ (.slice Ao51 t361.length co51 : Value).ownBlock ∧ some k_ ≠ (.slice Ao57 t366.length co57 : Value).ownBlock ∧ some k_ ≠ (.slice Ao63 t372.length co63 : Value).ownBlock ∧ k_ ≠ gb347 ∧ k_ ≠ gb348 ∧ k_ ≠ gb365 ∧ k_ ≠ gb376) (.slice Ao62 t369.length co62) t369) := ⟨(by rw [hw]; exact (by (with_reducible repeat (first | apply Kd.V_alloc | apply Kd.V_drewN | apply Kd.V_drew)); exact Kd.V_mono (Kd.V_far (p := ⟨gb376, 2, none⟩) (Kd.V_far (p := ⟨gb376, 1, none⟩) (Kd.V_far (p := ⟨gb376, 0, none⟩) (Kd.V_mono HO371.out (fun k_ hk => (⟨hk, hk.2⟩ : _ ∧ k_ ≠ gb376))) (fun _ hk => hk.2) (.slice Ao57 t366.length co57)) (fun _ hk => hk.2) (.slice Ao62 t369.length co62)) (fun _ hk => hk.2) (.slice Ao63 t372.length co63)) (fun _ hk => ⟨hk.1.1.1, ⟨hk.1.1.2.2.2.1, ⟨hk.1.1.2.2.2.2.1, ⟨hk.1.1.2.2.2.2.2.1, ⟨hk.1.1.2.1, ⟨hk.1.1.2.2.1, ⟨hk.1.1.2.2.2.2.2.2.1, ⟨hk.1.1.2.2.2.2.2.2.2.1, ⟨hk.1.1.2.2.2.2.2.2.2.2, hk.1.2⟩⟩⟩⟩⟩⟩⟩⟩⟩)))⟩; have n9_ : Aside0 (Kd.N k46 46 w64 w.heap.size (fun k_ => ((P0_0_ k_ ∨ P0_1_ k_ ∨ P0_2_ k_ ∨ P1_2_ k_) ∨ w.heap.size ≤ k_) ∧ some k_ ≠ (.slice Ao46 t355.length co46 : Value).ownBlock ∧ some k_ ≠ (.slice Ao50 t358.length co50 : Value).ownBlock ∧ some k_ ≠ (.slice Ao51 t361.length co51 : Value).ownBlock ∧ some k_ ≠ (.slice Ao57 t366.length co57 : Value).ownBlock ∧ k_ ≠ gb347 ∧ k_ ≠ gb348 ∧ k_ ≠ gb365 ∧ k_ ≠ gb376) (.slice Ao63 t372.length co63) t372) := ⟨(by rw [hw]; exact (by (with_reducible repeat (first | apply Kd.N_alloc | apply Kd.N_drewN | apply Kd.N_drew)); exact Kd.N_mono (Kd.N_far (p := ⟨gb376, 2, none⟩) (Kd.N_far (p := ⟨gb376, 1, none⟩) (Kd.N_far (p := ⟨gb376, 0, none⟩) (Kd.N_mono HO374.out (fun k_ hk => (⟨hk, hk.2⟩ : _ ∧ k_ ≠ gb376))) (fun _ hk => hk.2) (.slice Ao57 t366.length co57)) (fun _ hk => hk.2) (.slice Ao62 t369.length co62)) (fun _ hk => hk.2) (.slice Ao63 t372.length co63)) (fun _ hk => ⟨hk.1.1.1, ⟨hk.1.1.2.2.1, ⟨hk.1.1.2.2.2.1, ⟨hk.1.1.2.2.2.2.1, ⟨hk.1.1.2.1, ⟨hk.1.1.2.2.2.2.2.1, ⟨hk.1.1.2.2.2.2.2.2.1, ⟨hk.1.1.2.2.2.2.2.2.2, hk.1.2⟩⟩⟩⟩⟩⟩⟩⟩)))⟩; have n10_ : Aside0 (w64.heap[gb347]? = some (.cells #[.slice A0_0 l0_0.length c0_0, .slice A0_1 l0_1.length c0_1, .slice A0_2 l0_2.length c0_2] 76 (0, 0))) := ⟨(by rw [hw]; exact (by (with_reducible repeat (first | refine blk_drewN ?_ _ | refine blk_drew ?_ | refine blk_alloc ?_ _)); refine blk_far ?_ NB347_376.out _; (with_reducible repeat (first | refine blk_drewN ?_ _ | refine blk_drew ?_ | refine blk_alloc ?_ _)); refine blk_far ?_ NB347_376.out _; (with_reducible repeat (first | refine blk_drewN ?_ _ | refine blk_drew ?_ | refine blk_alloc ?_ _)); refine blk_far ?_ NB347_376.out _; (with_reducible repeat (first | refine blk_drewN ?_ _ | refine blk_drew ?_ | refine blk_alloc ?_ _)); exact BK347.out))⟩; have n11_ : Aside0 (w64.heap[gb348]? = some (.cells #[.bool a1_0, .int .i64 a1_1, .slice A1_2 l1_2.length c1_2] 78 (0, 0))) := ⟨(by rw [hw]; exact (by (with_reducible repeat (first | refine blk_drewN ?_ _ | refine blk_drew ?_ | refine blk_alloc ?_ _)); refine blk_far ?_ NB348_376.out _; (with_reducible repeat (first | refine blk_drewN ?_ _ | refine blk_drew ?_ | refine blk_alloc ?_ _)); refine blk_far ?_ NB348_376.out _; (with_reducible repeat (first | refine blk_drewN ?_ _ | refine blk_drew ?_ | refine blk_alloc ?_ _)); refine blk_far ?_ NB348_376.out _; (with_reducible repeat (first | refine blk_drewN ?_ _ | refine blk_drew ?_ | refine blk_alloc ?_ _)); exact BK348.out))⟩; have n12_ : Aside0 (w64.heap[gb365]? = some (.cells #[.slice Ao46 t355.length co46, .slice Ao50 t358.length co50, .slice Ao51 t361.length co51] 76 (0, 0))) := ⟨(by rw [hw]; exact (by (with_reducible repeat (first | refine blk_drewN ?_ _ | refine blk_drew ?_ | refine blk_alloc ?_ _)); refine blk_far ?_ NB365_376.out _; (with_reducible repeat (first | refine blk_drewN ?_ _ | refine blk_drew ?_ | refine blk_alloc ?_ _)); refine blk_far ?_ NB365_376.out _; (with_reducible repeat (first | refine blk_drewN ?_ _ | refine blk_drew ?_ | refine blk_alloc ?_ _)); refine blk_far ?_ NB365_376.out _; (with_reducible repeat (first | refine blk_drewN ?_ _ | refine blk_drew ?_ | refine blk_alloc ?_ _)); exact BK365.out))⟩; have n13_ : Aside0 (w64.heap[gb376]? = some (.cells #[.slice Ao57 t366.length co57, .slice Ao62 t369.length co62, .slice Ao63 t372.length co63] 76 (0, 0))) := ⟨(by rw [hw]; exact (by (with_reducible repeat (first | refine blk_drewN ?_ _ | refine blk_drew ?_ | refine blk_alloc ?_ _)); refine blk_put (cs := #[.slice Ao57 t366.length co57, .slice Ao62 t369.length co62, .slice none 0 0]) ?_ 2 _ rfl; (with_reducible repeat (first | refine blk_drewN ?_ _ | refine blk_drew ?_ | refine blk_alloc ?_ _)); refine blk_put (cs := #[.slice Ao57 t366.length co57, .slice none 0 0, .slice none 0 0]) ?_ 1 _ rfl; (with_reducible repeat (first | refine blk_drewN ?_ _ | refine blk_drew ?_ | refine blk_alloc ?_ _)); refine blk_put (cs := #[.slice none 0 0, .slice none 0 0, .slice none 0 0]) ?_ 0 _ rfl; (with_reducible repeat (first | refine blk_drewN ?_ _ | refine blk_drew ?_ | refine blk_alloc ?_ _)); exact BK376.out))⟩; have n14_ : Aside0 (Below w.heap.size w w64) := ⟨(by rw [hw]; exact (below_y HB.out))⟩; clear hw; clear HO_348000; clear HO_348001; clear HO_348002; clear HO_349002; clear HO357; clear HO360; clear HO363; clear HO368; clear HO371; clear HO374; clear BK347; clear BK348; clear BK365; clear BK376; clear HB; have HO_348000 := n0_; have HO_348001 := n1_; have HO_348002 := n2_; have HO_349002 := n3_; have HO357 := n4_; have HO360 := n5_; have HO363 := n6_; have HO368 := n7_; have HO371 := n8_; have HO374 := n9_; have BK347 := n10_; have BK348 := n11_; have BK365 := n12_; have BK376 := n13_; have HB := n14_; clear n0_ n1_ n2_ n3_ n4_ n5_ n6_ n7_ n8_ n9_ n10_ n11_ n12_ n13_ n14_; have hcz65_0 : w64.cell? ⟨gb347, 0, none⟩ = some (.slice A0_0 l0_0.length c0_0) := (blk_cell BK347.out 0).trans rfl; have hcz65_1 : w64.cell? ⟨gb347, 1, none⟩ = some (.slice A0_1 l0_1.length c0_1) := (blk_cell BK347.out 1).trans rfl; have hcz65_2 : w64.cell? ⟨gb347, 2, none⟩ = some (.slice A0_2 l0_2.length c0_2) := (blk_cell BK347.out 2).trans rfl; have hfz65_0 := blk_frozen BK347.out 0; have hfz65_1 := blk_frozen BK347.out 1; have hfz65_2 := blk_frozen BK347.out 2) | ((with_reducible refine gate_callee (f := 54) rfl ?_); refine goesL_ (some 46) rfl rfl Try.func54 (by kernel_rfl) rfl #[.agg #[.slice A0_0 l0_0.length c0_0, .slice A0_1 l0_1.length c0_1, .slice A0_2 l0_2.length c0_2], .slice A2 l2.length c2] rfl (by (try simp only [List.map_toArray, List.map_cons, List.map_nil]); first | done | rfl | (simp only [List.length_drop, List.length_take]; rfl)) ?_; (with_reducible refine (file_Crash.calls kj3 _ _ l0_0 (fun k_ => (((P0_0_ k_ ∨ P0_1_ k_ ∨ P0_2_ k_ ∨ P1_2_ k_) ∨ w.heap.size ≤ k_) ∧ (some k_ ≠ (.slice Ao46 t355.length co46 : Value).ownBlock ∧ (some k_ ≠ (.slice Ao50 t358.length co50 : Value).ownBlock ∧ (some k_ ≠ (.slice Ao51 t361.length co51 : Value).ownBlock ∧ (some k_ ≠ (.slice Ao57 t366.length co57 : Value).ownBlock ∧ (some k_ ≠ (.slice Ao63 t372.length co63 : Value).ownBlock ∧ (k_ ≠ gb347 ∧ (k_ ≠ gb348 ∧ (k_ ≠ gb365 ∧ k_ ≠ gb376)))))))))) _ _ l0_1 (fun k_ => (((P0_0_ k_ ∨ P0_1_ k_ ∨ P0_2_ k_ ∨ P1_2_ k_) ∨ w.heap.size ≤ k_) ∧ (some k_ ≠ (.slice Ao46 t355.length co46 : Value).ownBlock ∧ (some k_ ≠ (.slice Ao50 t358.length co50 : Value).ownBlock ∧ (some k_ ≠ (.slice Ao51 t361.length co51 : Value).ownBlock ∧ (some k_ ≠ (.slice Ao57 t366.length co57 : Value).ownBlock ∧ (some k_ ≠ (.slice Ao63 t372.length co63 : Value).ownBlock ∧ (k_ ≠ gb347 ∧ (k_ ≠ gb348 ∧ (k_ ≠ gb365 ∧ k_ ≠ gb376)))))))))) _ _ l0_2 _ _ l2 t377 t380 t383 t386 _ ?side1 ?side2 ?side3 ?side4 ?side5 ?side6 A25.out).mono ?_); (case side1 => exact Kd.C_y (Kd.V_reads' HO_348000.out).2.2); (case side2 => exact (Kd.V_reads' HO_348000.out).2.1); (case side3 => exact HO_348001.out); (case side4 => exact HO_348002.out); (case side5 => repeat (first | exact (Kd.C_below HR2.out HB.out) | exact HR2.out | (with_reducible refine Kd.C_alloc ?_ _) | (with_reducible refine Kd.C_drewN ?_ _) | (with_reducible refine Kd.C_drew ?_))); (case side6 => exact HC2.out); rintro e w66 ⟨v378, v381, v384, rfl, ho0, ho1, ho2, hb⟩; refine ⟨_, rfl, ?_⟩; have n0_ := Aside0.mk (Kd.V_mono (Kd.V_told (Kd.V_told (Kd.V_told (Kd.V_old (Kd.V_y HO_348000.out) hb) (Kd.R_base ho0)) (Kd.R_base ho1)) (Kd.N_base ho2)) (fun _ h_ => h_.1)); have n1_ := Aside0.mk (Kd.V_mono (Kd.V_told (Kd.V_told (Kd.V_told (Kd.V_old (Kd.V_y HO_348001.out) hb) (Kd.R_base ho0)) (Kd.R_base ho1)) (Kd.N_base ho2)) (fun _ h_ => h_.1)); have n2_ := Aside0.mk (Kd.V_mono (Kd.V_told (Kd.V_told (Kd.V_told (Kd.V_old (Kd.V_y HO_348002.out) hb) (Kd.R_base ho0)) (Kd.R_base ho1)) (Kd.N_base ho2)) (fun _ h_ => h_.1)); have n3_ := Aside0.mk (Kd.V_mono (Kd.V_told (Kd.V_told (Kd.V_told (Kd.V_old (Kd.V_y HO_349002.out) hb) (Kd.R_base ho0)) (Kd.R_base ho1)) (Kd.N_base ho2)) (fun _ h_ => h_.1)); have n4_ := Aside0.mk (Kd.R_mono (Kd.R_told (Kd.R_told (Kd.R_old (Kd.R_y HO357.out) hb) (Kd.R_base ho0)) (Kd.R_base ho1)) (fun _ h_ => h_.1)); have n5_ := Aside0.mk (Kd.R_mono (Kd.R_told (Kd.R_told (Kd.R_old (Kd.R_y HO360.out) hb) (Kd.R_base ho0)) (Kd.R_base ho1)) (fun _ h_ => h_.1)); have n6_ := Aside0.mk (Kd.N_mono (Kd.N_told (Kd.N_told (Kd.N_told (Kd.N_old (Kd.N_y HO363.out) hb) (Kd.R_base ho0)) (Kd.R_base ho1)) (Kd.N_base ho2)) (fun _ h_ => h_.1)); have n7_ := Aside0.mk (Kd.R_mono (Kd.R_told (Kd.R_told (Kd.R_old (Kd.R_y HO368.out) hb) (Kd.R_base ho0)) (Kd.R_base ho1)) (fun _ h_ => h_.1)); have n8_ := Aside0.mk (Kd.V_mono (Kd.V_told (Kd.V_told (Kd.V_told (Kd.V_old (Kd.V_y HO371.out) hb) (Kd.R_base ho0)) (Kd.R_base ho1)) (Kd.N_base ho2)) (fun _ h_ => h_.1)); have n9_ := Aside0.mk (Kd.N_mono (Kd.N_told (Kd.N_told (Kd.N_told (Kd.N_old (Kd.N_y HO374.out) hb) (Kd.R_base ho0)) (Kd.R_base ho1)) (Kd.N_base ho2)) (fun _ h_ => h_.1)); have n10_ := Aside0.mk (Kd.R_lower (Kd.R_new' (Kd.R_new' (Kd.R_new' (Kd.R_newM (M := fun k_ => (w.heap.size ≤ k_)) (Kd.R_mono (ok' := fun k_ => some k_ ≠ (v381 : Value).ownBlock) ho0 (fun _ hk_ => hk_.2)) (below_size (below_y HB.out)) (fun k_ h_ => h_)) (Kd.R_lt (Kd.R_y HO357.out))) (Kd.R_lt (Kd.R_y HO360.out))) (Kd.R_lt (Kd.R_y HO368.out))) (below_size (below_y HB.out))); have n11_ := Aside0.mk (Kd.R_lower (Kd.R_new' (Kd.R_new' (Kd.R_new' (Kd.R_newM (M := fun k_ => (w.heap.size ≤ k_)) (Kd.R_mono (ok' := fun k_ => some k_ ≠ (v378 : Value).ownBlock) ho1 (fun _ hk_ => hk_.2)) (below_size (below_y HB.out)) (fun k_ h_ => h_)) (Kd.R_lt (Kd.R_y HO357.out))) (Kd.R_lt (Kd.R_y HO360.out))) (Kd.R_lt (Kd.R_y HO368.out))) (below_size (below_y HB.out))); have n12_ := Aside0.mk (Kd.N_lower (Kd.N_mono (ok' := fun k_ => ((P0_0_ k_ ∨ P0_1_ k_ ∨ P0_2_ k_ ∨ P1_2_ k_) ∨ w.heap.size ≤ k_) ∧ some k_ ≠ (v378 : Value).ownBlock ∧ some k_ ≠ (v381 : Value).ownBlock ∧ some k_ ≠ (.slice Ao46 t355.length co46 : Value).ownBlock ∧ some k_ ≠ (.slice Ao50 t358.length co50 : Value).ownBlock ∧ some k_ ≠ (.slice Ao51 t361.length co51 : Value).ownBlock ∧ some k_ ≠ (.slice Ao57 t366.length co57 : Value).ownBlock ∧ some k_ ≠ (.slice Ao63 t372.length co63 : Value).ownBlock ∧ k_ ≠ gb347 ∧ k_ ≠ gb348 ∧ k_ ≠ gb365 ∧ k_ ≠ gb376) ho2 (fun k_ hk_ => ⟨Or.elim hk_.1 (fun hs_ => Or.elim hs_ (fun hs_ => hs_.1) (fun hs_ => hs_.1)) (fun hn_ => (.inr (Nat.le_trans (below_size (below_y HB.out)) hn_))), hk_.2.1, hk_.2.2, Or.elim hk_.1 (fun hs_ => Or.elim hs_ (fun hs_ => hs_.2.1) (fun hs_ => hs_.2.1)) (fun hn_ => (Kd.fresh' (Kd.R_lt (Kd.R_y HO357.out)) k_ hn_)), Or.elim hk_.1 (fun hs_ => Or.elim hs_ (fun hs_ => hs_.2.2.1) (fun hs_ => hs_.2.2.1)) (fun hn_ => (Kd.fresh' (Kd.R_lt (Kd.R_y HO360.out)) k_ hn_)), Or.elim hk_.1 (fun hs_ => Or.elim hs_ (fun hs_ => hs_.2.2.2.1) (fun hs_ => hs_.2.2.2.1)) (fun hn_ => (Kd.fresh' (Kd.N_lt (Kd.N_y HO363.out)) k_ hn_)), Or.elim hk_.1 (fun hs_ => Or.elim hs_ (fun hs_ => hs_.2.2.2.2.1) (fun hs_ => hs_.2.2.2.2.1)) (fun hn_ => (Kd.fresh' (Kd.R_lt (Kd.R_y HO368.out)) k_ hn_)), Or.elim hk_.1 (fun hs_ => Or.elim hs_ (fun hs_ => hs_.2.2.2.2.2.1) (fun hs_ => hs_.2.2.2.2.2.1)) (fun hn_ => (Kd.fresh' (Kd.N_lt (Kd.N_y HO374.out)) k_ hn_)), Or.elim hk_.1 (fun hs_ => Or.elim hs_ (fun hs_ => hs_.2.2.2.2.2.2.1) (fun hs_ => hs_.2.2.2.2.2.2.1)) (fun hn_ => (Kd.freshB (g := gb347) (o := .cells #[.slice A0_0 l0_0.length c0_0, .slice A0_1 l0_1.length c0_1, .slice A0_2 l0_2.length c0_2] 76 (0, 0)) (blk_y BK347.out) k_ hn_)), Or.elim hk_.1 (fun hs_ => Or.elim hs_ (fun hs_ => hs_.2.2.2.2.2.2.2.1) (fun hs_ => hs_.2.2.2.2.2.2.2.1)) (fun hn_ => (Kd.freshB (g := gb348) (o := .cells #[.bool a1_0, .int .i64 a1_1, .slice A1_2 l1_2.length c1_2] 78 (0, 0)) (blk_y BK348.out) k_ hn_)), Or.elim hk_.1 (fun hs_ => Or.elim hs_ (fun hs_ => hs_.2.2.2.2.2.2.2.2.1) (fun hs_ => hs_.2.2.2.2.2.2.2.2.1)) (fun hn_ => (Kd.freshB (g := gb365) (o := .cells #[.slice Ao46 t355.length co46, .slice Ao50 t358.length co50, .slice Ao51 t361.length co51] 76 (0, 0)) (blk_y BK365.out) k_ hn_)), Or.elim hk_.1 (fun hs_ => Or.elim hs_ (fun hs_ => hs_.2.2.2.2.2.2.2.2.2) (fun hs_ => hs_.2.2.2.2.2.2.2.2.2)) (fun hn_ => (Kd.freshB (g := gb376) (o := .cells #[.slice Ao57 t366.length co57, .slice Ao62 t369.length co62, .slice Ao63 t372.length co63] 76 (0, 0)) (blk_y BK376.out) k_ hn_))⟩)) (below_size (below_y HB.out))); have n13_ := Aside0.mk (blk_below (g := gb347) (o := .cells #[.slice A0_0 l0_0.length c0_0, .slice A0_1 l0_1.length c0_1, .slice A0_2 l0_2.length c0_2] 76 (0, 0)) (blk_y BK347.out) hb); have n14_ := Aside0.mk (blk_below (g := gb348) (o := .cells #[.bool a1_0, .int .i64 a1_1, .slice A1_2 l1_2.length c1_2] 78 (0, 0)) (blk_y BK348.out) hb); have n15_ := Aside0.mk (blk_below (g := gb365) (o := .cells #[.slice Ao46 t355.length co46, .slice Ao50 t358.length co50, .slice Ao51 t361.length co51] 76 (0, 0)) (blk_y BK365.out) hb); have n16_ := Aside0.mk (blk_below (g := gb376) (o := .cells #[.slice Ao57 t366.length co57, .slice Ao62 t369.length co62, .slice Ao63 t372.length co63] 76 (0, 0)) (blk_y BK376.out) hb); have n17_ := Aside0.mk (below_step (below_y HB.out) hb); clear HO_348000; clear HO_348001; clear HO_348002; clear HO_349002; clear HO357; clear HO360; clear HO363; clear HO368; clear HO371; clear HO374; clear BK347; clear BK348; clear BK365; clear BK376; clear HB; have HO_348000 := n0_; have HO_348001 := n1_; have HO_348002 := n2_; have HO_349002 := n3_; have HO357 := n4_; have HO360 := n5_; have HO363 := n6_; have HO368 := n7_; have HO371 := n8_; have HO374 := n9_; have HO379 := n10_; have HO382 := n11_; have HO385 := n12_; have BK347 := n13_; have BK348 := n14_; have BK365 := n15_; have BK376 := n16_; have HB := n17_; clear n0_ n1_ n2_ n3_ n4_ n5_ n6_ n7_ n8_ n9_ n10_ n11_ n12_ n13_ n14_ n15_ n16_ n17_; (try clear hb); (try clear hb2); (try clear hk); (try clear hi); (try clear ho0); (try clear ho1); (try clear ho2)) | ((with_reducible refine gate_dst (N := 11) rfl ?_); (try (refine gate_guard (by rfl) ?_; dsimp only)); refine box_event ?hg (N := 11) ?hd (cs := #[.slice none 0 0, .slice none 0 0, .slice none 0 0]) (t := 76) ?hr ?_; (case hd => rfl); (case hg => rfl); (case hr => first | (go_simp; done) | (go_simp; rfl)); intro gb387 hg w67 hbox hb; have n0_ := Aside0.mk (Kd.V_below (Kd.V_elderB (Kd.V_y HO_348000.out) gb387 (Nat.le_of_eq hg.symm)) hb); have n1_ := Aside0.mk (Kd.V_below (Kd.V_elderB (Kd.V_y HO_348001.out) gb387 (Nat.le_of_eq hg.symm)) hb); have n2_ := Aside0.mk (Kd.V_below (Kd.V_elderB (Kd.V_y HO_348002.out) gb387 (Nat.le_of_eq hg.symm)) hb); have n3_ := Aside0.mk (Kd.V_below (Kd.V_elderB (Kd.V_y HO_349002.out) gb387 (Nat.le_of_eq hg.symm)) hb); have n4_ := Aside0.mk (Kd.R_below (Kd.R_y HO357.out) hb); have n5_ := Aside0.mk (Kd.R_below (Kd.R_y HO360.out) hb); have n6_ := Aside0.mk (Kd.N_below (Kd.N_elderB (Kd.N_y HO363.out) gb387 (Nat.le_of_eq hg.symm)) hb); have n7_ := Aside0.mk (Kd.R_below (Kd.R_y HO368.out) hb); have n8_ := Aside0.mk (Kd.V_below (Kd.V_elderB (Kd.V_y HO371.out) gb387 (Nat.le_of_eq hg.symm)) hb); have n9_ := Aside0.mk (Kd.N_below (Kd.N_elderB (Kd.N_y HO374.out) gb387 (Nat.le_of_eq hg.symm)) hb); have n10_ := Aside0.mk (Kd.R_below (Kd.R_y HO379.out) hb); have n11_ := Aside0.mk (Kd.R_below (Kd.R_y HO382.out) hb); have n12_ := Aside0.mk (Kd.N_below (Kd.N_elderB (Kd.N_y HO385.out) gb387 (Nat.le_of_eq hg.symm)) hb); have n13_ := Aside0.mk (blk_below (g := gb347) (o := .cells #[.slice A0_0 l0_0.length c0_0, .slice A0_1 l0_1.length c0_1, .slice A0_2 l0_2.length c0_2] 76 (0, 0)) (blk_y BK347.out) hb); have n14_ := Aside0.mk (blk_below (g := gb348) (o := .cells #[.bool a1_0, .int .i64 a1_1, .slice A1_2 l1_2.length c1_2] 78 (0, 0)) (blk_y BK348.out) hb); have n15_ := Aside0.mk (blk_below (g := gb365) (o := .cells #[.slice Ao46 t355.length co46, .slice Ao50 t358.length co50, .slice Ao51 t361.length co51] 76 (0, 0)) (blk_y BK365.out) hb); have n16_ := Aside0.mk (blk_below (g := gb376) (o := .cells #[.slice Ao57 t366.length co57, .slice Ao62 t369.length co62, .slice Ao63 t372.length co63] 76 (0, 0)) (blk_y BK376.out) hb); have n17_ := Aside0.mk (below_step (below_y HB.out) hb); have n18_ := Aside0.mk (hbox); have n19_ := Aside0.mk ((by rw [hg]; exact (below_size (below_y HB.out)) : w.heap.size ≤ gb387)); have n20_ := Aside0.mk ((by rw [hg]; exact (below_size (below_y HB.out)) : w.heap.size ≤ gb387)); have n21_ := Aside0.mk ((by rw [hg]; exact Nat.ne_of_lt (blk_lt (g := gb347) (o := .cells #[.slice A0_0 l0_0.length c0_0, .slice A0_1 l0_1.length c0_1, .slice A0_2 l0_2.length c0_2] 76 (0, 0)) (blk_y BK347.out)) : gb347 ≠ gb387)); have n22_ := Aside0.mk ((by rw [hg]; exact Nat.ne_of_gt (blk_lt (g := gb347) (o := .cells #[.slice A0_0 l0_0.length c0_0, .slice A0_1 l0_1.length c0_1, .slice A0_2 l0_2.length c0_2] 76 (0, 0)) (blk_y BK347.out)) : gb387 ≠ gb347)); have n23_ := Aside0.mk ((by rw [hg]; exact Nat.ne_of_lt (blk_lt (g := gb348) (o := .cells #[.bool a1_0, .int .i64 a1_1, .slice A1_2 l1_2.length c1_2] 78 (0, 0)) (blk_y BK348.out)) : gb348 ≠ gb387)); have n24_ := Aside0.mk ((by rw [hg]; exact Nat.ne_of_gt (blk_lt (g := gb348) (o := .cells #[.bool a1_0, .int .i64 a1_1, .slice A1_2 l1_2.length c1_2] 78 (0, 0)) (blk_y BK348.out)) : gb387 ≠ gb348)); have n25_ := Aside0.mk ((by rw [hg]; exact Nat.ne_of_lt (blk_lt (g := gb365) (o := .cells #[.slice Ao46 t355.length co46, .slice Ao50 t358.length co50, .slice Ao51 t361.length co51] 76 (0, 0)) (blk_y BK365.out)) : gb365 ≠ gb387)); have n26_ := Aside0.mk ((by rw [hg]; exact Nat.ne_of_gt (blk_lt (g := gb365) (o := .cells #[.slice Ao46 t355.length co46, .slice Ao50 t358.length co50, .slice Ao51 t361.length co51] 76 (0, 0)) (blk_y BK365.out)) : gb387 ≠ gb365)); have n27_ := Aside0.mk ((by rw [hg]; exact Nat.ne_of_lt (blk_lt (g := gb376) (o := .cells #[.slice Ao57 t366.length co57, .slice Ao62 t369.length co62, .slice Ao63 t372.length co63] 76 (0, 0)) (blk_y BK376.out)) : gb376 ≠ gb387)); have n28_ := Aside0.mk ((by rw [hg]; exact Nat.ne_of_gt (blk_lt (g := gb376) (o := .cells #[.slice Ao57 t366.length co57, .slice Ao62 t369.length co62, .slice Ao63 t372.length co63] 76 (0, 0)) (blk_y BK376.out)) : gb387 ≠ gb376)); clear HO_348000; clear HO_348001; clear HO_348002; clear HO_349002; clear HO357; clear HO360; clear HO363; clear HO368; clear HO371; clear HO374; clear HO379; clear HO382; clear HO385; clear BK347; clear BK348; clear BK365; clear BK376; clear HB; have HO_348000 := n0_; have HO_348001 := n1_; have HO_348002 := n2_; have HO_349002 := n3_; have HO357 := n4_; have HO360 := n5_; have HO363 := n6_; have HO368 := n7_; have HO371 := n8_; have HO374 := n9_; have HO379 := n10_; have HO382 := n11_; have HO385 := n12_; have BK347 := n13_; have BK348 := n14_; have BK365 := n15_; have BK376 := n16_; have HB := n17_; have BK387 := n18_; have GW387 := n19_; have GE387 := n20_; have NB347_387 := n21_; have NB387_347 := n22_; have NB348_387 := n23_; have NB387_348 := n24_; have NB365_387 := n25_; have NB387_365 := n26_; have NB376_387 := n27_; have NB387_376 := n28_; clear n0_ n1_ n2_ n3_ n4_ n5_ n6_ n7_ n8_ n9_ n10_ n11_ n12_ n13_ n14_ n15_ n16_ n17_ n18_ n19_ n20_ n21_ n22_ n23_ n24_ n25_ n26_ n27_ n28_; clear hb hbox hg; obtain ⟨Ao68, co68, eo68⟩ := Kd.R_slice HO379.out; subst eo68; have hnb69 := NB387_347.out; have hnc69 := NB347_387.out; have hnb70 := NB387_348.out; have hnc70 := NB348_387.out; have hnb71 := NB387_365.out; have hnc71 := NB365_387.out; have hnb72 := NB387_376.out; have hnc72 := NB376_387.out; have hcz73_0 : w67.cell? ⟨gb387, 0, none⟩ = some (.slice none 0 0) := (blk_cell BK387.out 0).trans rfl; have hcz73_1 : w67.cell? ⟨gb387, 1, none⟩ = some (.slice none 0 0) := (blk_cell BK387.out 1).trans rfl; have hcz73_2 : w67.cell? ⟨gb387, 2, none⟩ = some (.slice none 0 0) := (blk_cell BK387.out 2).trans rfl; have hfz73_0 := blk_frozen BK387.out 0; have hfz73_1 := blk_frozen BK387.out 1; have hfz73_2 := blk_frozen BK387.out 2; obtain ⟨Ao74, co74, eo74⟩ := Kd.R_slice HO382.out; subst eo74; obtain ⟨Ao75, co75, eo75⟩ := Kd.N_slice HO385.out; subst eo75) | ((with_reducible refine gate_store (t := 76) (p := 11) rfl ?_); refine store_event (t := 76) (p := 11) (v := ?vo_w76) (w1 := (((w67.setCell ⟨gb387, 0, none⟩ (.slice Ao68 t377.length co68)).setCell ⟨gb387, 1, none⟩ (.slice Ao74 t380.length co74)).setCell ⟨gb387, 2, none⟩ (.slice Ao75 t383.length co75))) ?hg ?ho ?hn ?hr ?_; (case ho => rfl); (case hg => rfl); (case hn => rfl); (case hr => first | (go_simp; done) | (go_simp; rfl)); intro w76 hw; have n0_ : Aside0 (Kd.V (Kd.int .u8) 5 w76 w.heap.size (fun k_ => ((P0_0_ k_ ∨ P0_1_ k_ ∨ P0_2_ k_ ∨ P1_2_ k_) ∨ w.heap.size ≤ k_) ∧ some k_ ≠ (.slice Ao46 t355.length co46 : Value).ownBlock ∧ some k_ ≠ (.slice Ao50 t358.length co50 : Value).ownBlock ∧ some k_ ≠ (.slice Ao51 t361.length co51 : Value).ownBlock ∧ some k_ ≠ (.slice Ao57 t366.length co57 : Value).ownBlock ∧ some k_ ≠ (.slice Ao63 t372.length co63 : Value).ownBlock ∧ some k_ ≠ (.slice Ao68 t377.length co68 : Value).ownBlock ∧ some k_ ≠ (.slice Ao74 t380.length co74 : Value).ownBlock ∧ some k_ ≠ (.slice Ao75 t383.length co75 : Value).ownBlock ∧ k_ ≠ gb347 ∧ k_ ≠ gb348 ∧ k_ ≠ gb365 ∧ k_ ≠ gb376 ∧ k_ ≠ gb387) (.slice A0_0 l0_0.length c0_0) l0_0) := ⟨(by rw [hw]; exact (by (with_reducible repeat (first | apply Kd.V_alloc | apply Kd.V_drewN | apply Kd.V_drew)); exact Kd.V_mono (Kd.V_far (p := ⟨gb387, 2, none⟩) (Kd.V_far (p := ⟨gb387, 1, none⟩) (Kd.V_far (p := ⟨gb387, 0, none⟩) (Kd.V_mono HO_348000.out (fun k_ hk => (⟨hk, hk.2⟩ : _ ∧ k_ ≠ gb387))) (fun _ hk => hk.2) (.slice Ao68 t377.length co68)) (fun _ hk => hk.2) (.slice Ao74 t380.length co74)) (fun _ hk => hk.2) (.slice Ao75 t383.length co75)) (fun _ hk => ⟨hk.1.1.1.1.1.1, ⟨hk.1.1.1.1.1.2.1, ⟨hk.1.1.1.1.1.2.2.1, ⟨hk.1.1.1.1.1.2.2.2.1, ⟨hk.1.1.1.1.1.2.2.2.2.1, ⟨hk.1.1.1.1.1.2.2.2.2.2.1, ⟨hk.1.1.1.1.2, ⟨hk.1.1.1.2, ⟨hk.1.1.2, ⟨hk.1.1.1.1.1.2.2.2.2.2.2.1, ⟨hk.1.1.1.1.1.2.2.2.2.2.2.2.1, ⟨hk.1.1.1.1.1.2.2.2.2.2.2.2.2.1, ⟨hk.1.1.1.1.1.2.2.2.2.2.2.2.2.2, hk.1.2⟩⟩⟩⟩⟩⟩⟩⟩⟩⟩⟩⟩⟩)))⟩; have n1_ : Aside0 (Kd.V (Kd.int .u8) 5 w76 w.heap.size (fun k_ => ((P0_0_ k_ ∨ P0_1_ k_ ∨ P0_2_ k_ ∨ P1_2_ k_) ∨ w.heap.size ≤ k_) ∧ some k_ ≠ (.slice Ao46 t355.length co46 : Value).ownBlock ∧ some k_ ≠ (.slice Ao50 t358.length co50 : Value).ownBlock ∧ some k_ ≠ (.slice Ao51 t361.length co51 : Value).ownBlock ∧ some k_ ≠ (.slice Ao57 t366.length co57 : Value).ownBlock ∧ some k_ ≠ (.slice Ao63 t372.length co63 : Value).ownBlock ∧ some k_ ≠ (.slice Ao68 t377.length co68 : Value).ownBlock ∧ some k_ ≠ (.slice Ao74 t380.length co74 : Value).ownBlock ∧ some k_ ≠ (.slice Ao75 t383.length co75 : Value).ownBlock ∧ k_ ≠ gb347 ∧ k_ ≠ gb348 ∧ k_ ≠ gb365 ∧ k_ ≠ gb376 ∧ k_ ≠ gb387) (.slice A0_1 l0_1.length c0_1) l0_1) := ⟨(by rw [hw]; exact (by (with_reducible repeat (first | apply Kd.V_alloc | apply Kd.V_drewN | apply Kd.V_drew)); exact Kd.V_mono (Kd.V_far (p := ⟨gb387, 2, none⟩) (Kd.V_far (p := ⟨gb387, 1, none⟩) (Kd.V_far (p := ⟨gb387, 0, none⟩) (Kd.V_mono HO_348001.out (fun k_ hk => (⟨hk, hk.2⟩ : _ ∧ k_ ≠ gb387))) (fun _ hk => hk.2) (.slice Ao68 t377.length co68)) (fun _ hk => hk.2) (.slice Ao74 t380.length co74)) (fun _ hk => hk.2) (.slice Ao75 t383.length co75)) (fun _ hk => ⟨hk.1.1.1.1.1.1, ⟨hk.1.1.1.1.1.2.1, ⟨hk.1.1.1.1.1.2.2.1, ⟨hk.1.1.1.1.1.2.2.2.1, ⟨hk.1.1.1.1.1.2.2.2.2.1, ⟨hk.1.1.1.1.1.2.2.2.2.2.1, ⟨hk.1.1.1.1.2, ⟨hk.1.1.1.2, ⟨hk.1.1.2, ⟨hk.1.1.1.1.1.2.2.2.2.2.2.1, ⟨hk.1.1.1.1.1.2.2.2.2.2.2.2.1, ⟨hk.1.1.1.1.1.2.2.2.2.2.2.2.2.1, ⟨hk.1.1.1.1.1.2.2.2.2.2.2.2.2.2, hk.1.2⟩⟩⟩⟩⟩⟩⟩⟩⟩⟩⟩⟩⟩)))⟩; have n2_ : Aside0 (Kd.V k46 46 w76 w.heap.size (fun k_ => ((P0_0_ k_ ∨ P0_1_ k_ ∨ P0_2_ k_ ∨ P1_2_ k_) ∨ w.heap.size ≤ k_) ∧ some k_ ≠ (.slice Ao46 t355.length co46 : Value).ownBlock ∧ some k_ ≠ (.slice Ao50 t358.length co50 : Value).ownBlock ∧ some k_ ≠ (.slice Ao51 t361.length co51 : Value).ownBlock ∧ some k_ ≠ (.slice Ao57 t366.length co57 : Value).ownBlock ∧ some k_ ≠ (.slice Ao63 t372.length co63 : Value).ownBlock ∧ some k_ ≠ (.slice Ao68 t377.length co68 : Value).ownBlock ∧ some k_ ≠ (.slice Ao74 t380.length co74 : Value).ownBlock ∧ some k_ ≠ (.slice Ao75 t383.length co75 : Value).ownBlock ∧ k_ ≠ gb347 ∧ k_ ≠ gb348 ∧ k_ ≠ gb365 ∧ k_ ≠ gb376 ∧ k_ ≠ gb387) (.slice A0_2 l0_2.length c0_2) l0_2) := ⟨(by rw [hw]; exact (by (with_reducible repeat (first | apply Kd.V_alloc | apply Kd.V_drewN | apply Kd.V_drew)); exact Kd.V_mono (Kd.V_far (p := ⟨gb387, 2, none⟩) (Kd.V_far (p := ⟨gb387, 1, none⟩) (Kd.V_far (p := ⟨gb387, 0, none⟩) (Kd.V_mono HO_348002.out (fun k_ hk => (⟨hk, hk.2⟩ : _ ∧ k_ ≠ gb387))) (fun _ hk => hk.2) (.slice Ao68 t377.length co68)) (fun _ hk => hk.2) (.slice Ao74 t380.length co74)) (fun _ hk => hk.2) (.slice Ao75 t383.length co75)) (fun _ hk => ⟨hk.1.1.1.1.1.1, ⟨hk.1.1.1.1.1.2.1, ⟨hk.1.1.1.1.1.2.2.1, ⟨hk.1.1.1.1.1.2.2.2.1, ⟨hk.1.1.1.1.1.2.2.2.2.1, ⟨hk.1.1.1.1.1.2.2.2.2.2.1, ⟨hk.1.1.1.1.2, ⟨hk.1.1.1.2, ⟨hk.1.1.2, ⟨hk.1.1.1.1.1.2.2.2.2.2.2.1, ⟨hk.1.1.1.1.1.2.2.2.2.2.2.2.1, ⟨hk.1.1.1.1.1.2.2.2.2.2.2.2.2.1, ⟨hk.1.1.1.1.1.2.2.2.2.2.2.2.2.2, hk.1.2⟩⟩⟩⟩⟩⟩⟩⟩⟩⟩⟩⟩⟩)))⟩; have n3_ : Aside0 (Kd.V (Kd.int .u8) 5 w76 w.heap.size (fun k_ => ((P0_0_ k_ ∨ P0_1_ k_ ∨ P0_2_ k_ ∨ P1_2_ k_) ∨ w.heap.size ≤ k_) ∧ some k_ ≠ (.slice Ao46 t355.length co46 : Value).ownBlock ∧ some k_ ≠ (.slice Ao50 t358.length co50 : Value).ownBlock ∧ some k_ ≠ (.slice Ao51 t361.length co51 : Value).ownBlock ∧ some k_ ≠ (.slice Ao57 t366.length co57 : Value).ownBlock ∧ some k_ ≠ (.slice Ao63 t372.length co63 : Value).ownBlock ∧ some k_ ≠ (.slice Ao68 t377.length co68 : Value).ownBlock ∧ some k_ ≠ (.slice Ao74 t380.length co74 : Value).ownBlock ∧ some k_ ≠ (.slice Ao75 t383.length co75 : Value).ownBlock ∧ k_ ≠ gb347 ∧ k_ ≠ gb348 ∧ k_ ≠ gb365 ∧ k_ ≠ gb376 ∧ k_ ≠ gb387) (.slice A1_2 l1_2.length c1_2) l1_2) := ⟨(by rw [hw]; exact (by (with_reducible repeat (first | apply Kd.V_alloc | apply Kd.V_drewN | apply Kd.V_drew)); exact Kd.V_mono (Kd.V_far (p := ⟨gb387, 2, none⟩) (Kd.V_far (p := ⟨gb387, 1, none⟩) (Kd.V_far (p := ⟨gb387, 0, none⟩) (Kd.V_mono HO_349002.out (fun k_ hk => (⟨hk, hk.2⟩ : _ ∧ k_ ≠ gb387))) (fun _ hk => hk.2) (.slice Ao68 t377.length co68)) (fun _ hk => hk.2) (.slice Ao74 t380.length co74)) (fun _ hk => hk.2) (.slice Ao75 t383.length co75)) (fun _ hk => ⟨hk.1.1.1.1.1.1, ⟨hk.1.1.1.1.1.2.1, ⟨hk.1.1.1.1.1.2.2.1, ⟨hk.1.1.1.1.1.2.2.2.1, ⟨hk.1.1.1.1.1.2.2.2.2.1, ⟨hk.1.1.1.1.1.2.2.2.2.2.1, ⟨hk.1.1.1.1.2, ⟨hk.1.1.1.2, ⟨hk.1.1.2, ⟨hk.1.1.1.1.1.2.2.2.2.2.2.1, ⟨hk.1.1.1.1.1.2.2.2.2.2.2.2.1, ⟨hk.1.1.1.1.1.2.2.2.2.2.2.2.2.1, ⟨hk.1.1.1.1.1.2.2.2.2.2.2.2.2.2, hk.1.2⟩⟩⟩⟩⟩⟩⟩⟩⟩⟩⟩⟩⟩)))⟩; have n4_ : Aside0 (Kd.R (Kd.int .u8) 5 w76 w.heap.size (fun k_ => (w.heap.size ≤ k_) ∧ some k_ ≠ (.slice Ao50 t358.length co50 : Value).ownBlock ∧ some k_ ≠ (.slice Ao57 t366.length co57 : Value).ownBlock ∧ some k_ ≠ (.slice Ao68 t377.length co68 : Value).ownBlock ∧ some k_ ≠ (.slice Ao74 t380.length co74 : Value).ownBlock) (.slice Ao46 t355.length co46) t355) := ⟨(by rw [hw]; exact (by (with_reducible repeat (first | apply Kd.R_alloc | apply Kd.R_drewN | apply Kd.R_drew)); exact Kd.R_mono (Kd.R_far (p := ⟨gb387, 2, none⟩) (Kd.R_far (p := ⟨gb387, 1, none⟩) (Kd.R_far (p := ⟨gb387, 0, none⟩) (Kd.R_types HO357.out BK387.out (by decide)) (fun _ hk => hk.2) (.slice Ao68 t377.length co68)) (fun _ hk => hk.2) (.slice Ao74 t380.length co74)) (fun _ hk => hk.2) (.slice Ao75 t383.length co75)) (fun _ hk => ⟨hk.1.1.1.1, ⟨hk.1.1.1.2.1, ⟨hk.1.1.1.2.2, ⟨hk.1.1.2, hk.1.2⟩⟩⟩⟩)))⟩; have n5_ : Aside0 (Kd.R (Kd.int .u8) 5 w76 w.heap.size (fun k_ => (w.heap.size ≤ k_) ∧ some k_ ≠ (.slice Ao46 t355.length co46 : Value).ownBlock ∧ some k_ ≠ (.slice Ao57 t366.length co57 : Value).ownBlock ∧ some k_ ≠ (.slice Ao68 t377.length co68 : Value).ownBlock ∧ some k_ ≠ (.slice Ao74 t380.length co74 : Value).ownBlock) (.slice Ao50 t358.length co50) t358) := ⟨(by rw [hw]; exact (by (with_reducible repeat (first | apply Kd.R_alloc | apply Kd.R_drewN | apply Kd.R_drew)); exact Kd.R_mono (Kd.R_far (p := ⟨gb387, 2, none⟩) (Kd.R_far (p := ⟨gb387, 1, none⟩) (Kd.R_far (p := ⟨gb387, 0, none⟩) (Kd.R_types HO360.out BK387.out (by decide)) (fun _ hk => hk.2) (.slice Ao68 t377.length co68)) (fun _ hk => hk.2) (.slice Ao74 t380.length co74)) (fun _ hk => hk.2) (.slice Ao75 t383.length co75)) (fun _ hk => ⟨hk.1.1.1.1, ⟨hk.1.1.1.2.1, ⟨hk.1.1.1.2.2, ⟨hk.1.1.2, hk.1.2⟩⟩⟩⟩)))⟩; have n6_ : Aside0 (Kd.N k46 46 w76 w.heap.size (fun k_ => ((P0_0_ k_ ∨ P0_1_ k_ ∨ P0_2_ k_ ∨ P1_2_ k_) ∨ w.heap.size ≤ k_) ∧ some k_ ≠ (.slice Ao46 t355.length co46 : Value).ownBlock ∧ some k_ ≠ (.slice Ao50 t358.length co50 : Value).ownBlock ∧ some k_ ≠ (.slice Ao57 t366.length co57 : Value).ownBlock ∧ some k_ ≠ (.slice Ao63 t372.length co63 : Value).ownBlock ∧ some k_ ≠ (.slice Ao68 t377.length co68 : Value).ownBlock ∧ some k_ ≠ (.slice Ao74 t380.length co74 : Value).ownBlock ∧ some k_ ≠ (.slice Ao75 t383.length co75 : Value).ownBlock ∧ k_ ≠ gb347 ∧ k_ ≠ gb348 ∧ k_ ≠ gb365 ∧ k_ ≠ gb376 ∧ k_ ≠ gb387) (.slice Ao51 t361.length co51) t361) := ⟨(by rw [hw]; exact (by (with_reducible repeat (first | apply Kd.N_alloc | apply Kd.N_drewN | apply Kd.N_drew)); exact Kd.N_mono (Kd.N_far (p := ⟨gb387, 2, none⟩) (Kd.N_far (p := ⟨gb387, 1, none⟩) (Kd.N_far (p := ⟨gb387, 0, none⟩) (Kd.N_mono HO363.out (fun k_ hk => (⟨hk, hk.2⟩ : _ ∧ k_ ≠ gb387))) (fun _ hk => hk.2) (.slice Ao68 t377.length co68)) (fun _ hk => hk.2) (.slice Ao74 t380.length co74)) (fun _ hk => hk.2) (.slice Ao75 t383.length co75)) (fun _ hk => ⟨hk.1.1.1.1.1.1, ⟨hk.1.1.1.1.1.2.1, ⟨hk.1.1.1.1.1.2.2.1, ⟨hk.1.1.1.1.1.2.2.2.1, ⟨hk.1.1.1.1.1.2.2.2.2.1, ⟨hk.1.1.1.1.2, ⟨hk.1.1.1.2, ⟨hk.1.1.2, ⟨hk.1.1.1.1.1.2.2.2.2.2.1, ⟨hk.1.1.1.1.1.2.2.2.2.2.2.1, ⟨hk.1.1.1.1.1.2.2.2.2.2.2.2.1, ⟨hk.1.1.1.1.1.2.2.2.2.2.2.2.2, hk.1.2⟩⟩⟩⟩⟩⟩⟩⟩⟩⟩⟩⟩)))⟩; have n7_ : Aside0 (Kd.R (Kd.int .u8) 5 w76 w.heap.size (fun k_ => (w.heap.size ≤ k_) ∧ some k_ ≠ (.slice Ao46 t355.length co46 : Value).ownBlock ∧ some k_ ≠ (.slice Ao50 t358.length co50 : Value).ownBlock ∧ some k_ ≠ (.slice Ao68 t377.length co68 : Value).ownBlock ∧ some k_ ≠ (.slice Ao74 t380.length co74 : Value).ownBlock) (.slice Ao57 t366.length co57) t366) := ⟨(by rw [hw]; exact (by (with_reducible repeat (first | apply Kd.R_alloc | apply Kd.R_drewN | apply Kd.R_drew)); exact Kd.R_mono (Kd.R_far (p := ⟨gb387, 2, none⟩) (Kd.R_far (p := ⟨gb387, 1, none⟩) (Kd.R_far (p := ⟨gb387, 0, none⟩) (Kd.R_types HO368.out BK387.out (by decide)) (fun _ hk => hk.2) (.slice Ao68 t377.length co68)) (fun _ hk => hk.2) (.slice Ao74 t380.length co74)) (fun _ hk => hk.2) (.slice Ao75 t383.length co75)) (fun _ hk => ⟨hk.1.1.1.1, ⟨hk.1.1.1.2.1, ⟨hk.1.1.1.2.2, ⟨hk.1.1.2, hk.1.2⟩⟩⟩⟩)))⟩; have n8_ : Aside0 (Kd.V (Kd.int .u8) 5 w76 w.heap.size (fun k_ => ((P0_0_ k_ ∨ P0_1_ k_ ∨ P0_2_ k_ ∨ P1_2_ k_) ∨ w.heap.size ≤ k_) ∧ some k_ ≠ (.slice Ao46 t355.length co46 : Value).ownBlock ∧ some k_ ≠ (.slice Ao50 t358.length co50 : Value).ownBlock ∧ some k_ ≠ (.slice Ao51 t361.length co51 : Value).ownBlock ∧ some k_ ≠ (.slice Ao57 t366.length co57 : Value).ownBlock ∧ some k_ ≠ (.slice Ao63 t372.length co63 : Value).ownBlock ∧ some k_ ≠ (.slice Ao68 t377.length co68 : Value).ownBlock ∧ some k_ ≠ (.slice Ao74 t380.length co74 : Value).ownBlock ∧ some k_ ≠ (.slice Ao75 t383.length co75 : Value).ownBlock ∧ k_ ≠ gb347 ∧ k_ ≠ gb348 ∧ k_ ≠ gb365 ∧ k_ ≠ gb376 ∧ k_ ≠ gb387) (.slice Ao62 t369.length co62) t369) := ⟨(by rw [hw]; exact (by (with_reducible repeat (first | apply Kd.V_alloc | apply Kd.V_drewN | apply Kd.V_drew)); exact Kd.V_mono (Kd.V_far (p := ⟨gb387, 2, none⟩) (Kd.V_far (p := ⟨gb387, 1, none⟩) (Kd.V_far (p := ⟨gb387, 0, none⟩) (Kd.V_mono HO371.out (fun k_ hk => (⟨hk, hk.2⟩ : _ ∧ k_ ≠ gb387))) (fun _ hk => hk.2) (.slice Ao68 t377.length co68)) (fun _ hk => hk.2) (.slice Ao74 t380.length co74)) (fun _ hk => hk.2) (.slice Ao75 t383.length co75)) (fun _ hk => ⟨hk.1.1.1.1.1.1, ⟨hk.1.1.1.1.1.2.1, ⟨hk.1.1.1.1.1.2.2.1, ⟨hk.1.1.1.1.1.2.2.2.1, ⟨hk.1.1.1.1.1.2.2.2.2.1, ⟨hk.1.1.1.1.1.2.2.2.2.2.1, ⟨hk.1.1.1.1.2, ⟨hk.1.1.1.2, ⟨hk.1.1.2, ⟨hk.1.1.1.1.1.2.2.2.2.2.2.1, ⟨hk.1.1.1.1.1.2.2.2.2.2.2.2.1, ⟨hk.1.1.1.1.1.2.2.2.2.2.2.2.2.1, ⟨hk.1.1.1.1.1.2.2.2.2.2.2.2.2.2, hk.1.2⟩⟩⟩⟩⟩⟩⟩⟩⟩⟩⟩⟩⟩)))⟩; have n9_ : Aside0 (Kd.N k46 46 w76 w.heap.size (fun k_ => ((P0_0_ k_ ∨ P0_1_ k_ ∨ P0_2_ k_ ∨ P1_2_ k_) ∨ w.heap.size ≤ k_) ∧ some k_ ≠ (.slice Ao46 t355.length co46 : Value).ownBlock ∧ some k_ ≠ (.slice Ao50 t358.length co50 : Value).ownBlock ∧ some k_ ≠ (.slice Ao51 t361.length co51 : Value).ownBlock ∧ some k_ ≠ (.slice Ao57 t366.length co57 : Value).ownBlock ∧ some k_ ≠ (.slice Ao68 t377.length co68 : Value).ownBlock ∧ some k_ ≠ (.slice Ao74 t380.length co74 : Value).ownBlock ∧ some k_ ≠ (.slice Ao75 t383.length co75 : Value).ownBlock ∧ k_ ≠ gb347 ∧ k_ ≠ gb348 ∧ k_ ≠ gb365 ∧ k_ ≠ gb376 ∧ k_ ≠ gb387) (.slice Ao63 t372.length co63) t372) := ⟨(by rw [hw]; exact (by (with_reducible repeat (first | apply Kd.N_alloc | apply Kd.N_drewN | apply Kd.N_drew)); exact Kd.N_mono (Kd.N_far (p := ⟨gb387, 2, none⟩) (Kd.N_far (p := ⟨gb387, 1, none⟩) (Kd.N_far (p := ⟨gb387, 0, none⟩) (Kd.N_mono HO374.out (fun k_ hk => (⟨hk, hk.2⟩ : _ ∧ k_ ≠ gb387))) (fun _ hk => hk.2) (.slice Ao68 t377.length co68)) (fun _ hk => hk.2) (.slice Ao74 t380.length co74)) (fun _ hk => hk.2) (.slice Ao75 t383.length co75)) (fun _ hk => ⟨hk.1.1.1.1.1.1, ⟨hk.1.1.1.1.1.2.1, ⟨hk.1.1.1.1.1.2.2.1, ⟨hk.1.1.1.1.1.2.2.2.1, ⟨hk.1.1.1.1.1.2.2.2.2.1, ⟨hk.1.1.1.1.2, ⟨hk.1.1.1.2, ⟨hk.1.1.2, ⟨hk.1.1.1.1.1.2.2.2.2.2.1, ⟨hk.1.1.1.1.1.2.2.2.2.2.2.1, ⟨hk.1.1.1.1.1.2.2.2.2.2.2.2.1, ⟨hk.1.1.1.1.1.2.2.2.2.2.2.2.2, hk.1.2⟩⟩⟩⟩⟩⟩⟩⟩⟩⟩⟩⟩)))⟩; have n10_ : Aside0 (Kd.R (Kd.int .u8) 5 w76 w.heap.size (fun k_ => (w.heap.size ≤ k_) ∧ some k_ ≠ (.slice Ao46 t355.length co46 : Value).ownBlock ∧ some k_ ≠ (.slice Ao50 t358.length co50 : Value).ownBlock ∧ some k_ ≠ (.slice Ao57 t366.length co57 : Value).ownBlock ∧ some k_ ≠ (.slice Ao74 t380.length co74 : Value).ownBlock) (.slice Ao68 t377.length co68) t377) := ⟨(by rw [hw]; exact (by (with_reducible repeat (first | apply Kd.R_alloc | apply Kd.R_drewN | apply Kd.R_drew)); exact Kd.R_mono (Kd.R_far (p := ⟨gb387, 2, none⟩) (Kd.R_far (p := ⟨gb387, 1, none⟩) (Kd.R_far (p := ⟨gb387, 0, none⟩) (Kd.R_types HO379.out BK387.out (by decide)) (fun _ hk => hk.2) (.slice Ao68 t377.length co68)) (fun _ hk => hk.2) (.slice Ao74 t380.length co74)) (fun _ hk => hk.2) (.slice Ao75 t383.length co75)) (fun _ hk => ⟨hk.1.1.1.1.1, ⟨hk.1.1.1.2, ⟨hk.1.1.2, ⟨hk.1.2, hk.1.1.1.1.2⟩⟩⟩⟩)))⟩; have n11_ : Aside0 (Kd.R (Kd.int .u8) 5 w76 w.heap.size (fun k_ => (w.heap.size ≤ k_) ∧ some k_ ≠ (.slice Ao46 t355.length co46 : Value).ownBlock ∧ some k_ ≠ (.slice Ao50 t358.length co50 : Value).ownBlock ∧ some k_ ≠ (.slice Ao57 t366.length co57 : Value).ownBlock ∧ some k_ ≠ (.slice Ao68 t377.length co68 : Value).ownBlock) (.slice Ao74 t380.length co74) t380) := ⟨(by rw [hw]; exact (by (with_reducible repeat (first | apply Kd.R_alloc | apply Kd.R_drewN | apply Kd.R_drew)); exact Kd.R_mono (Kd.R_far (p := ⟨gb387, 2, none⟩) (Kd.R_far (p := ⟨gb387, 1, none⟩) (Kd.R_far (p := ⟨gb387, 0, none⟩) (Kd.R_types HO382.out BK387.out (by decide)) (fun _ hk => hk.2) (.slice Ao68 t377.length co68)) (fun _ hk => hk.2) (.slice Ao74 t380.length co74)) (fun _ hk => hk.2) (.slice Ao75 t383.length co75)) (fun _ hk => ⟨hk.1.1.1.1.1, ⟨hk.1.1.1.2, ⟨hk.1.1.2, ⟨hk.1.2, hk.1.1.1.1.2⟩⟩⟩⟩)))⟩; have n12_ : Aside0 (Kd.N k46 46 w76 w.heap.size (fun k_ => ((P0_0_ k_ ∨ P0_1_ k_ ∨ P0_2_ k_ ∨ P1_2_ k_) ∨ w.heap.size ≤ k_) ∧ some k_ ≠ (.slice Ao46 t355.length co46 : Value).ownBlock ∧ some k_ ≠ (.slice Ao50 t358.length co50 : Value).ownBlock ∧ some k_ ≠ (.slice Ao51 t361.length co51 : Value).ownBlock ∧ some k_ ≠ (.slice Ao57 t366.length co57 : Value).ownBlock ∧ some k_ ≠ (.slice Ao63 t372.length co63 : Value).ownBlock ∧ some k_ ≠ (.slice Ao68 t377.length co68 : Value).ownBlock ∧ some k_ ≠ (.slice Ao74 t380.length co74 : Value).ownBlock ∧ k_ ≠ gb347 ∧ k_ ≠ gb348 ∧ k_ ≠ gb365 ∧ k_ ≠ gb376 ∧ k_ ≠ gb387) (.slice Ao75 t383.length co75) t383) := ⟨(by rw [hw]; exact (by (with_reducible repeat (first | apply Kd.N_alloc | apply Kd.N_drewN | apply Kd.N_drew)); exact Kd.N_mono (Kd.N_far (p := ⟨gb387, 2, none⟩) (Kd.N_far (p := ⟨gb387, 1, none⟩) (Kd.N_far (p := ⟨gb387, 0, none⟩) (Kd.N_mono HO385.out (fun k_ hk => (⟨hk, hk.2⟩ : _ ∧ k_ ≠ gb387))) (fun _ hk => hk.2) (.slice Ao68 t377.length co68)) (fun _ hk => hk.2) (.slice Ao74 t380.length co74)) (fun _ hk => hk.2) (.slice Ao75 t383.length co75)) (fun _ hk => ⟨hk.1.1.1, ⟨hk.1.1.2.2.2.1, ⟨hk.1.1.2.2.2.2.1, ⟨hk.1.1.2.2.2.2.2.1, ⟨hk.1.1.2.2.2.2.2.2.1, ⟨hk.1.1.2.2.2.2.2.2.2.1, ⟨hk.1.1.2.1, ⟨hk.1.1.2.2.1, ⟨hk.1.1.2.2.2.2.2.2.2.2.1, ⟨hk.1.1.2.2.2.2.2.2.2.2.2.1, ⟨hk.1.1.2.2.2.2.2.2.2.2.2.2.1, ⟨hk.1.1.2.2.2.2.2.2.2.2.2.2.2, hk.1.2⟩⟩⟩⟩⟩⟩⟩⟩⟩⟩⟩⟩)))⟩; have n13_ : Aside0 (w76.heap[gb347]? = some (.cells #[.slice A0_0 l0_0.length c0_0, .slice A0_1 l0_1.length c0_1, .slice A0_2 l0_2.length c0_2] 76 (0, 0))) := ⟨(by rw [hw]; exact (by (with_reducible repeat (first | refine blk_drewN ?_ _ | refine blk_drew ?_ | refine blk_alloc ?_ _)); refine blk_far ?_ NB347_387.out _; (with_reducible repeat (first | refine blk_drewN ?_ _ | refine blk_drew ?_ | refine blk_alloc ?_ _)); refine blk_far ?_ NB347_387.out _; (with_reducible repeat (first | refine blk_drewN ?_ _ | refine blk_drew ?_ | refine blk_alloc ?_ _)); refine blk_far ?_ NB347_387.out _; (with_reducible repeat (first | refine blk_drewN ?_ _ | refine blk_drew ?_ | refine blk_alloc ?_ _)); exact BK347.out))⟩; have n14_ : Aside0 (w76.heap[gb348]? = some (.cells #[.bool a1_0, .int .i64 a1_1, .slice A1_2 l1_2.length c1_2] 78 (0, 0))) := ⟨(by rw [hw]; exact (by (with_reducible repeat (first | refine blk_drewN ?_ _ | refine blk_drew ?_ | refine blk_alloc ?_ _)); refine blk_far ?_ NB348_387.out _; (with_reducible repeat (first | refine blk_drewN ?_ _ | refine blk_drew ?_ | refine blk_alloc ?_ _)); refine blk_far ?_ NB348_387.out _; (with_reducible repeat (first | refine blk_drewN ?_ _ | refine blk_drew ?_ | refine blk_alloc ?_ _)); refine blk_far ?_ NB348_387.out _; (with_reducible repeat (first | refine blk_drewN ?_ _ | refine blk_drew ?_ | refine blk_alloc ?_ _)); exact BK348.out))⟩; have n15_ : Aside0 (w76.heap[gb365]? = some (.cells #[.slice Ao46 t355.length co46, .slice Ao50 t358.length co50, .slice Ao51 t361.length co51] 76 (0, 0))) := ⟨(by rw [hw]; exact (by (with_reducible repeat (first | refine blk_drewN ?_ _ | refine blk_drew ?_ | refine blk_alloc ?_ _)); refine blk_far ?_ NB365_387.out _; (with_reducible repeat (first | refine blk_drewN ?_ _ | refine blk_drew ?_ | refine blk_alloc ?_ _)); refine blk_far ?_ NB365_387.out _; (with_reducible repeat (first | refine blk_drewN ?_ _ | refine blk_drew ?_ | refine blk_alloc ?_ _)); refine blk_far ?_ NB365_387.out _; (with_reducible repeat (first | refine blk_drewN ?_ _ | refine blk_drew ?_ | refine blk_alloc ?_ _)); exact BK365.out))⟩; have n16_ : Aside0 (w76.heap[gb376]? = some (.cells #[.slice Ao57 t366.length co57, .slice Ao62 t369.length co62, .slice Ao63 t372.length co63] 76 (0, 0))) := ⟨(by rw [hw]; exact (by (with_reducible repeat (first | refine blk_drewN ?_ _ | refine blk_drew ?_ | refine blk_alloc ?_ _)); refine blk_far ?_ NB376_387.out _; (with_reducible repeat (first | refine blk_drewN ?_ _ | refine blk_drew ?_ | refine blk_alloc ?_ _)); refine blk_far ?_ NB376_387.out _; (with_reducible repeat (first | refine blk_drewN ?_ _ | refine blk_drew ?_ | refine blk_alloc ?_ _)); refine blk_far ?_ NB376_387.out _; (with_reducible repeat (first | refine blk_drewN ?_ _ | refine blk_drew ?_ | refine blk_alloc ?_ _)); exact BK376.out))⟩; have n17_ : Aside0 (w76.heap[gb387]? = some (.cells #[.slice Ao68 t377.length co68, .slice Ao74 t380.length co74, .slice Ao75 t383.length co75] 76 (0, 0))) := ⟨(by rw [hw]; exact (by (with_reducible repeat (first | refine blk_drewN ?_ _ | refine blk_drew ?_ | refine blk_alloc ?_ _)); refine blk_put (cs := #[.slice Ao68 t377.length co68, .slice Ao74 t380.length co74, .slice none 0 0]) ?_ 2 _ rfl; (with_reducible repeat (first | refine blk_drewN ?_ _ | refine blk_drew ?_ | refine blk_alloc ?_ _)); refine blk_put (cs := #[.slice Ao68 t377.length co68, .slice none 0 0, .slice none 0 0]) ?_ 1 _ rfl; (with_reducible repeat (first | refine blk_drewN ?_ _ | refine blk_drew ?_ | refine blk_alloc ?_ _)); refine blk_put (cs := #[.slice none 0 0, .slice none 0 0, .slice none 0 0]) ?_ 0 _ rfl; (with_reducible repeat (first | refine blk_drewN ?_ _ | refine blk_drew ?_ | refine blk_alloc ?_ _)); exact BK387.out))⟩; have n18_ : Aside0 (Below w.heap.size w w76) := ⟨(by rw [hw]; exact (below_y HB.out))⟩; clear hw; clear HO_348000; clear HO_348001; clear HO_348002; clear HO_349002; clear HO357; clear HO360; clear HO363; clear HO368; clear HO371; clear HO374; clear HO379; clear HO382; clear HO385; clear BK347; clear BK348; clear BK365; clear BK376; clear BK387; clear HB; have HO_348000 := n0_; have HO_348001 := n1_; have HO_348002 := n2_; have HO_349002 := n3_; have HO357 := n4_; have HO360 := n5_; have HO363 := n6_; have HO368 := n7_; have HO371 := n8_; have HO374 := n9_; have HO379 := n10_; have HO382 := n11_; have HO385 := n12_; have BK347 := n13_; have BK348 := n14_; have BK365 := n15_; have BK376 := n16_; have BK387 := n17_; have HB := n18_; clear n0_ n1_ n2_ n3_ n4_ n5_ n6_ n7_ n8_ n9_ n10_ n11_ n12_ n13_ n14_ n15_ n16_ n17_ n18_; have hcz77_0 : w76.cell? ⟨gb347, 0, none⟩ = some (.slice A0_0 l0_0.length c0_0) := (blk_cell BK347.out 0).trans rfl; have hcz77_1 : w76.cell? ⟨gb347, 1, none⟩ = some (.slice A0_1 l0_1.length c0_1) := (blk_cell BK347.out 1).trans rfl; have hcz77_2 : w76.cell? ⟨gb347, 2, none⟩ = some (.slice A0_2 l0_2.length c0_2) := (blk_cell BK347.out 2).trans rfl; have hfz77_0 := blk_frozen BK347.out 0; have hfz77_1 := blk_frozen BK347.out 1; have hfz77_2 := blk_frozen BK347.out 2) | ((with_reducible refine gate_callee (f := 55) rfl ?_); refine goesL_ (some 52) rfl rfl Try.func55 (by kernel_rfl) rfl #[.agg #[.slice A0_0 l0_0.length c0_0, .slice A0_1 l0_1.length c0_1, .slice A0_2 l0_2.length c0_2], .slice A2 l2.length c2] rfl (by (try simp only [List.map_toArray, List.map_cons, List.map_nil]); first | done | rfl | (simp only [List.length_drop, List.length_take]; rfl)) ?_; (with_reducible refine (newsreelref09_Crash.calls kj3 _ _ l0_0 _ _ l0_1 (fun k_ => (((P0_0_ k_ ∨ P0_1_ k_ ∨ P0_2_ k_ ∨ P1_2_ k_) ∨ w.heap.size ≤ k_) ∧ (some k_ ≠ (.slice Ao46 t355.length co46 : Value).ownBlock ∧ (some k_ ≠ (.slice Ao50 t358.length co50 : Value).ownBlock ∧ (some k_ ≠ (.slice Ao51 t361.length co51 : Value).ownBlock ∧ (some k_ ≠ (.slice Ao57 t366.length co57 : Value).ownBlock ∧ (some k_ ≠ (.slice Ao63 t372.length co63 : Value).ownBlock ∧ (some k_ ≠ (.slice Ao68 t377.length co68 : Value).ownBlock ∧ (some k_ ≠ (.slice Ao74 t380.length co74 : Value).ownBlock ∧ (some k_ ≠ (.slice Ao75 t383.length co75 : Value).ownBlock ∧ (k_ ≠ gb347 ∧ (k_ ≠ gb348 ∧ (k_ ≠ gb365 ∧ (k_ ≠ gb376 ∧ k_ ≠ gb387)))))))))))))) _ _ l0_2 _ _ l2 t388 t391 t394 t397 _ ?side1 ?side2 ?side3 ?side4 ?side5 ?side6 ?side7 A26.out).mono ?_); (case side1 => exact Kd.C_y (Kd.V_reads' HO_348000.out).2.2); (case side2 => exact (Kd.V_reads' HO_348000.out).2.1); (case side3 => exact Kd.C_y (Kd.V_reads' HO_348001.out).2.2); (case side4 => exact (Kd.V_reads' HO_348001.out).2.1); (case side5 => exact HO_348002.out); (case side6 => repeat (first | exact (Kd.C_below HR2.out HB.out) | exact HR2.out | (with_reducible refine Kd.C_alloc ?_ _) | (with_reducible refine Kd.C_drewN ?_ _) | (with_reducible refine Kd.C_drew ?_))); (case side7 => exact HC2.out); rintro e w78 ⟨v389, v392, v395, rfl, ho0, ho1, ho2, hb⟩; refine ⟨_, rfl, ?_⟩; have n0_ := Aside0.mk (Kd.V_elder' (Kd.V_y HO_348000.out) (Kd.N_base ho2) hb); have n1_ := Aside0.mk (Kd.V_elder' (Kd.V_y HO_348001.out) (Kd.N_base ho2) hb); have n2_ := Aside0.mk (Kd.V_elder' (Kd.V_y HO_348002.out) (Kd.N_base ho2) hb); have n3_ := Aside0.mk (Kd.V_elder' (Kd.V_y HO_349002.out) (Kd.N_base ho2) hb); have n4_ := Aside0.mk (Kd.R_below (Kd.R_y HO357.out) hb); have n5_ := Aside0.mk (Kd.R_below (Kd.R_y HO360.out) hb); have n6_ := Aside0.mk (Kd.N_elder' (Kd.N_y HO363.out) (Kd.N_base ho2) hb); have n7_ := Aside0.mk (Kd.R_below (Kd.R_y HO368.out) hb); have n8_ := Aside0.mk (Kd.V_elder' (Kd.V_y HO371.out) (Kd.N_base ho2) hb); have n9_ := Aside0.mk (Kd.N_elder' (Kd.N_y HO374.out) (Kd.N_base ho2) hb); have n10_ := Aside0.mk (Kd.R_below (Kd.R_y HO379.out) hb); have n11_ := Aside0.mk (Kd.R_below (Kd.R_y HO382.out) hb); have n12_ := Aside0.mk (Kd.N_elder' (Kd.N_y HO385.out) (Kd.N_base ho2) hb); have n13_ := Aside0.mk (Kd.V_lower (Kd.V_mono (ok' := fun k_ => ((P0_0_ k_ ∨ P0_1_ k_ ∨ P0_2_ k_ ∨ P1_2_ k_) ∨ w.heap.size ≤ k_) ∧ some k_ ≠ (v395 : Value).ownBlock ∧ some k_ ≠ (.slice Ao46 t355.length co46 : Value).ownBlock ∧ some k_ ≠ (.slice Ao50 t358.length co50 : Value).ownBlock ∧ some k_ ≠ (.slice Ao51 t361.length co51 : Value).ownBlock ∧ some k_ ≠ (.slice Ao57 t366.length co57 : Value).ownBlock ∧ some k_ ≠ (.slice Ao63 t372.length co63 : Value).ownBlock ∧ some k_ ≠ (.slice Ao68 t377.length co68 : Value).ownBlock ∧ some k_ ≠ (.slice Ao74 t380.length co74 : Value).ownBlock ∧ some k_ ≠ (.slice Ao75 t383.length co75 : Value).ownBlock ∧ k_ ≠ gb347 ∧ k_ ≠ gb348 ∧ k_ ≠ gb365 ∧ k_ ≠ gb376 ∧ k_ ≠ gb387) ho0 (fun k_ hk_ => ⟨Or.elim hk_.1 (fun hs_ => hs_.1) (fun hn_ => (.inr (Nat.le_trans (below_size (below_y HB.out)) hn_))), hk_.2, Or.elim hk_.1 (fun hs_ => hs_.2.1) (fun hn_ => (Kd.fresh' (Kd.R_lt (Kd.R_y HO357.out)) k_ hn_)), Or.elim hk_.1 (fun hs_ => hs_.2.2.1) (fun hn_ => (Kd.fresh' (Kd.R_lt (Kd.R_y HO360.out)) k_ hn_)), Or.elim hk_.1 (fun hs_ => hs_.2.2.2.1) (fun hn_ => (Kd.fresh' (Kd.N_lt (Kd.N_y HO363.out)) k_ hn_)), Or.elim hk_.1 (fun hs_ => hs_.2.2.2.2.1) (fun hn_ => (Kd.fresh' (Kd.R_lt (Kd.R_y HO368.out)) k_ hn_)), Or.elim hk_.1 (fun hs_ => hs_.2.2.2.2.2.1) (fun hn_ => (Kd.fresh' (Kd.N_lt (Kd.N_y HO374.out)) k_ hn_)), Or.elim hk_.1 (fun hs_ => hs_.2.2.2.2.2.2.1) (fun hn_ => (Kd.fresh' (Kd.R_lt (Kd.R_y HO379.out)) k_ hn_)), Or.elim hk_.1 (fun hs_ => hs_.2.2.2.2.2.2.2.1) (fun hn_ => (Kd.fresh' (Kd.R_lt (Kd.R_y HO382.out)) k_ hn_)), Or.elim hk_.1 (fun hs_ => hs_.2.2.2.2.2.2.2.2.1) (fun hn_ => (Kd.fresh' (Kd.N_lt (Kd.N_y HO385.out)) k_ hn_)), Or.elim hk_.1 (fun hs_ => hs_.2.2.2.2.2.2.2.2.2.1) (fun hn_ => (Kd.freshB (g := gb347) (o := .cells #[.slice A0_0 l0_0.length c0_0, .slice A0_1 l0_1.length c0_1, .slice A0_2 l0_2.length c0_2] 76 (0, 0)) (blk_y BK347.out) k_ hn_)), Or.elim hk_.1 (fun hs_ => hs_.2.2.2.2.2.2.2.2.2.2.1) (fun hn_ => (Kd.freshB (g := gb348) (o := .cells #[.bool a1_0, .int .i64 a1_1, .slice A1_2 l1_2.length c1_2] 78 (0, 0)) (blk_y BK348.out) k_ hn_)), Or.elim hk_.1 (fun hs_ => hs_.2.2.2.2.2.2.2.2.2.2.2.1) (fun hn_ => (Kd.freshB (g := gb365) (o := .cells #[.slice Ao46 t355.length co46, .slice Ao50 t358.length co50, .slice Ao51 t361.length co51] 76 (0, 0)) (blk_y BK365.out) k_ hn_)), Or.elim hk_.1 (fun hs_ => hs_.2.2.2.2.2.2.2.2.2.2.2.2.1) (fun hn_ => (Kd.freshB (g := gb376) (o := .cells #[.slice Ao57 t366.length co57, .slice Ao62 t369.length co62, .slice Ao63 t372.length co63] 76 (0, 0)) (blk_y BK376.out) k_ hn_)), Or.elim hk_.1 (fun hs_ => hs_.2.2.2.2.2.2.2.2.2.2.2.2.2) (fun hn_ => (Kd.freshB (g := gb387) (o := .cells #[.slice Ao68 t377.length co68, .slice Ao74 t380.length co74, .slice Ao75 t383.length co75] 76 (0, 0)) (blk_y BK387.out) k_ hn_))⟩)) (below_size (below_y HB.out))); have n14_ := Aside0.mk (Kd.V_lower (Kd.V_mono (ok' := fun k_ => ((P0_0_ k_ ∨ P0_1_ k_ ∨ P0_2_ k_ ∨ P1_2_ k_) ∨ w.heap.size ≤ k_) ∧ some k_ ≠ (v395 : Value).ownBlock ∧ some k_ ≠ (.slice Ao46 t355.length co46 : Value).ownBlock ∧ some k_ ≠ (.slice Ao50 t358.length co50 : Value).ownBlock ∧ some k_ ≠ (.slice Ao51 t361.length co51 : Value).ownBlock ∧ some k_ ≠ (.slice Ao57 t366.length co57 : Value).ownBlock ∧ some k_ ≠ (.slice Ao63 t372.length co63 : Value).ownBlock ∧ some k_ ≠ (.slice Ao68 t377.length co68 : Value).ownBlock ∧ some k_ ≠ (.slice Ao74 t380.length co74 : Value).ownBlock ∧ some k_ ≠ (.slice Ao75 t383.length co75 : Value).ownBlock ∧ k_ ≠ gb347 ∧ k_ ≠ gb348 ∧ k_ ≠ gb365 ∧ k_ ≠ gb376 ∧ k_ ≠ gb387) ho1 (fun k_ hk_ => ⟨Or.elim hk_.1 (fun hs_ => hs_.1) (fun hn_ => (.inr (Nat.le_trans (below_size (below_y HB.out)) hn_))), hk_.2, Or.elim hk_.1 (fun hs_ => hs_.2.1) (fun hn_ => (Kd.fresh' (Kd.R_lt (Kd.R_y HO357.out)) k_ hn_)), Or.elim hk_.1 (fun hs_ => hs_.2.2.1) (fun hn_ => (Kd.fresh' (Kd.R_lt (Kd.R_y HO360.out)) k_ hn_)), Or.elim hk_.1 (fun hs_ => hs_.2.2.2.1) (fun hn_ => (Kd.fresh' (Kd.N_lt (Kd.N_y HO363.out)) k_ hn_)), Or.elim hk_.1 (fun hs_ => hs_.2.2.2.2.1) (fun hn_ => (Kd.fresh' (Kd.R_lt (Kd.R_y HO368.out)) k_ hn_)), Or.elim hk_.1 (fun hs_ => hs_.2.2.2.2.2.1) (fun hn_ => (Kd.fresh' (Kd.N_lt (Kd.N_y HO374.out)) k_ hn_)), Or.elim hk_.1 (fun hs_ => hs_.2.2.2.2.2.2.1) (fun hn_ => (Kd.fresh' (Kd.R_lt (Kd.R_y HO379.out)) k_ hn_)), Or.elim hk_.1 (fun hs_ => hs_.2.2.2.2.2.2.2.1) (fun hn_ => (Kd.fresh' (Kd.R_lt (Kd.R_y HO382.out)) k_ hn_)), Or.elim hk_.1 (fun hs_ => hs_.2.2.2.2.2.2.2.2.1) (fun hn_ => (Kd.fresh' (Kd.N_lt (Kd.N_y HO385.out)) k_ hn_)), Or.elim hk_.1 (fun hs_ => hs_.2.2.2.2.2.2.2.2.2.1) (fun hn_ => (Kd.freshB (g := gb347) (o := .cells #[.slice A0_0 l0_0.length c0_0, .slice A0_1 l0_1.length c0_1, .slice A0_2 l0_2.length c0_2] 76 (0, 0)) (blk_y BK347.out) k_ hn_)), Or.elim hk_.1 (fun hs_ => hs_.2.2.2.2.2.2.2.2.2.2.1) (fun hn_ => (Kd.freshB (g := gb348) (o := .cells #[.bool a1_0, .int .i64 a1_1, .slice A1_2 l1_2.length c1_2] 78 (0, 0)) (blk_y BK348.out) k_ hn_)), Or.elim hk_.1 (fun hs_ => hs_.2.2.2.2.2.2.2.2.2.2.2.1) (fun hn_ => (Kd.freshB (g := gb365) (o := .cells #[.slice Ao46 t355.length co46, .slice Ao50 t358.length co50, .slice Ao51 t361.length co51] 76 (0, 0)) (blk_y BK365.out) k_ hn_)), Or.elim hk_.1 (fun hs_ => hs_.2.2.2.2.2.2.2.2.2.2.2.2.1) (fun hn_ => (Kd.freshB (g := gb376) (o := .cells #[.slice Ao57 t366.length co57, .slice Ao62 t369.length co62, .slice Ao63 t372.length co63] 76 (0, 0)) (blk_y BK376.out) k_ hn_)), Or.elim hk_.1 (fun hs_ => hs_.2.2.2.2.2.2.2.2.2.2.2.2.2) (fun hn_ => (Kd.freshB (g := gb387) (o := .cells #[.slice Ao68 t377.length co68, .slice Ao74 t380.length co74, .slice Ao75 t383.length co75] 76 (0, 0)) (blk_y BK387.out) k_ hn_))⟩)) (below_size (below_y HB.out))); have n15_ := Aside0.mk (Kd.N_lower (Kd.N_mono (ok' := fun k_ => ((P0_0_ k_ ∨ P0_1_ k_ ∨ P0_2_ k_ ∨ P1_2_ k_) ∨ w.heap.size ≤ k_) ∧ some k_ ≠ (.slice Ao46 t355.length co46 : Value).ownBlock ∧ some k_ ≠ (.slice Ao50 t358.length co50 : Value).ownBlock ∧ some k_ ≠ (.slice Ao51 t361.length co51 : Value).ownBlock ∧ some k_ ≠ (.slice Ao57 t366.length co57 : Value).ownBlock ∧ some k_ ≠ (.slice Ao63 t372.length co63 : Value).ownBlock ∧ some k_ ≠ (.slice Ao68 t377.length co68 : Value).ownBlock ∧ some k_ ≠ (.slice Ao74 t380.length co74 : Value).ownBlock ∧ some k_ ≠ (.slice Ao75 t383.length co75 : Value).ownBlock ∧ k_ ≠ gb347 ∧ k_ ≠ gb348 ∧ k_ ≠ gb365 ∧ k_ ≠ gb376 ∧ k_ ≠ gb387) ho2 (fun k_ hk_ => ⟨Or.elim hk_ (fun hs_ => hs_.1) (fun hn_ => (.inr (Nat.le_trans (below_size (below_y HB.out)) hn_))), Or.elim hk_ (fun hs_ => hs_.2.1) (fun hn_ => (Kd.fresh' (Kd.R_lt (Kd.R_y HO357.out)) k_ hn_)), Or.elim hk_ (fun hs_ => hs_.2.2.1) (fun hn_ => (Kd.fresh' (Kd.R_lt (Kd.R_y HO360.out)) k_ hn_)), Or.elim hk_ (fun hs_ => hs_.2.2.2.1) (fun hn_ => (Kd.fresh' (Kd.N_lt (Kd.N_y HO363.out)) k_ hn_)), Or.elim hk_ (fun hs_ => hs_.2.2.2.2.1) (fun hn_ => (Kd.fresh' (Kd.R_lt (Kd.R_y HO368.out)) k_ hn_)), Or.elim hk_ (fun hs_ => hs_.2.2.2.2.2.1) (fun hn_ => (Kd.fresh' (Kd.N_lt (Kd.N_y HO374.out)) k_ hn_)), Or.elim hk_ (fun hs_ => hs_.2.2.2.2.2.2.1) (fun hn_ => (Kd.fresh' (Kd.R_lt (Kd.R_y HO379.out)) k_ hn_)), Or.elim hk_ (fun hs_ => hs_.2.2.2.2.2.2.2.1) (fun hn_ => (Kd.fresh' (Kd.R_lt (Kd.R_y HO382.out)) k_ hn_)), Or.elim hk_ (fun hs_ => hs_.2.2.2.2.2.2.2.2.1) (fun hn_ => (Kd.fresh' (Kd.N_lt (Kd.N_y HO385.out)) k_ hn_)), Or.elim hk_ (fun hs_ => hs_.2.2.2.2.2.2.2.2.2.1) (fun hn_ => (Kd.freshB (g := gb347) (o := .cells #[.slice A0_0 l0_0.length c0_0, .slice A0_1 l0_1.length c0_1, .slice A0_2 l0_2.length c0_2] 76 (0, 0)) (blk_y BK347.out) k_ hn_)), Or.elim hk_ (fun hs_ => hs_.2.2.2.2.2.2.2.2.2.2.1) (fun hn_ => (Kd.freshB (g := gb348) (o := .cells #[.bool a1_0, .int .i64 a1_1, .slice A1_2 l1_2.length c1_2] 78 (0, 0)) (blk_y BK348.out) k_ hn_)), Or.elim hk_ (fun hs_ => hs_.2.2.2.2.2.2.2.2.2.2.2.1) (fun hn_ => (Kd.freshB (g := gb365) (o := .cells #[.slice Ao46 t355.length co46, .slice Ao50 t358.length co50, .slice Ao51 t361.length co51] 76 (0, 0)) (blk_y BK365.out) k_ hn_)), Or.elim hk_ (fun hs_ => hs_.2.2.2.2.2.2.2.2.2.2.2.2.1) (fun hn_ => (Kd.freshB (g := gb376) (o := .cells #[.slice Ao57 t366.length co57, .slice Ao62 t369.length co62, .slice Ao63 t372.length co63] 76 (0, 0)) (blk_y BK376.out) k_ hn_)), Or.elim hk_ (fun hs_ => hs_.2.2.2.2.2.2.2.2.2.2.2.2.2) (fun hn_ => (Kd.freshB (g := gb387) (o := .cells #[.slice Ao68 t377.length co68, .slice Ao74 t380.length co74, .slice Ao75 t383.length co75] 76 (0, 0)) (blk_y BK387.out) k_ hn_))⟩)) (below_size (below_y HB.out))); have n16_ := Aside0.mk (blk_below (g := gb347) (o := .cells #[.slice A0_0 l0_0.length c0_0, .slice A0_1 l0_1.length c0_1, .slice A0_2 l0_2.length c0_2] 76 (0, 0)) (blk_y BK347.out) hb); have n17_ := Aside0.mk (blk_below (g := gb348) (o := .cells #[.bool a1_0, .int .i64 a1_1, .slice A1_2 l1_2.length c1_2] 78 (0, 0)) (blk_y BK348.out) hb); have n18_ := Aside0.mk (blk_below (g := gb365) (o := .cells #[.slice Ao46 t355.length co46, .slice Ao50 t358.length co50, .slice Ao51 t361.length co51] 76 (0, 0)) (blk_y BK365.out) hb); have n19_ := Aside0.mk (blk_below (g := gb376) (o := .cells #[.slice Ao57 t366.length co57, .slice Ao62 t369.length co62, .slice Ao63 t372.length co63] 76 (0, 0)) (blk_y BK376.out) hb); have n20_ := Aside0.mk (blk_below (g := gb387) (o := .cells #[.slice Ao68 t377.length co68, .slice Ao74 t380.length co74, .slice Ao75 t383.length co75] 76 (0, 0)) (blk_y BK387.out) hb); have n21_ := Aside0.mk (below_step (below_y HB.out) hb); clear HO_348000; clear HO_348001; clear HO_348002; clear HO_349002; clear HO357; clear HO360; clear HO363; clear HO368; clear HO371; clear HO374; clear HO379; clear HO382; clear HO385; clear BK347; clear BK348; clear BK365; clear BK376; clear BK387; clear HB; have HO_348000 := n0_; have HO_348001 := n1_; have HO_348002 := n2_; have HO_349002 := n3_; have HO357 := n4_; have HO360 := n5_; have HO363 := n6_; have HO368 := n7_; have HO371 := n8_; have HO374 := n9_; have HO379 := n10_; have HO382 := n11_; have HO385 := n12_; have HO390 := n13_; have HO393 := n14_; have HO396 := n15_; have BK347 := n16_; have BK348 := n17_; have BK365 := n18_; have BK376 := n19_; have BK387 := n20_; have HB := n21_; clear n0_ n1_ n2_ n3_ n4_ n5_ n6_ n7_ n8_ n9_ n10_ n11_ n12_ n13_ n14_ n15_ n16_ n17_ n18_ n19_ n20_ n21_; (try clear hb); (try clear hb2); (try clear hk); (try clear hi); (try clear ho0); (try clear ho1); (try clear ho2)) | ((with_reducible refine gate_dst (N := 13) rfl ?_); (try (refine gate_guard (by rfl) ?_; dsimp only)); refine box_event ?hg (N := 13) ?hd (cs := #[.slice none 0 0, .slice none 0 0, .slice none 0 0]) (t := 76) ?hr ?_; (case hd => rfl); (case hg => rfl); (case hr => first | (go_simp; done) | (go_simp; rfl)); intro gb398 hg w79 hbox hb; have n0_ := Aside0.mk (Kd.V_below (Kd.V_elderB (Kd.V_y HO_348000.out) gb398 (Nat.le_of_eq hg.symm)) hb); have n1_ := Aside0.mk (Kd.V_below (Kd.V_elderB (Kd.V_y HO_348001.out) gb398 (Nat.le_of_eq hg.symm)) hb); have n2_ := Aside0.mk (Kd.V_below (Kd.V_elderB (Kd.V_y HO_348002.out) gb398 (Nat.le_of_eq hg.symm)) hb); have n3_ := Aside0.mk (Kd.V_below (Kd.V_elderB (Kd.V_y HO_349002.out) gb398 (Nat.le_of_eq hg.symm)) hb); have n4_ := Aside0.mk (Kd.R_below (Kd.R_y HO357.out) hb); have n5_ := Aside0.mk (Kd.R_below (Kd.R_y HO360.out) hb); have n6_ := Aside0.mk (Kd.N_below (Kd.N_elderB (Kd.N_y HO363.out) gb398 (Nat.le_of_eq hg.symm)) hb); have n7_ := Aside0.mk (Kd.R_below (Kd.R_y HO368.out) hb); have n8_ := Aside0.mk (Kd.V_below (Kd.V_elderB (Kd.V_y HO371.out) gb398 (Nat.le_of_eq hg.symm)) hb); have n9_ := Aside0.mk (Kd.N_below (Kd.N_elderB (Kd.N_y HO374.out) gb398 (Nat.le_of_eq hg.symm)) hb); have n10_ := Aside0.mk (Kd.R_below (Kd.R_y HO379.out) hb); have n11_ := Aside0.mk (Kd.R_below (Kd.R_y HO382.out) hb); have n12_ := Aside0.mk (Kd.N_below (Kd.N_elderB (Kd.N_y HO385.out) gb398 (Nat.le_of_eq hg.symm)) hb); have n13_ := Aside0.mk (Kd.V_below (Kd.V_elderB (Kd.V_y HO390.out) gb398 (Nat.le_of_eq hg.symm)) hb); have n14_ := Aside0.mk (Kd.V_below (Kd.V_elderB (Kd.V_y HO393.out) gb398 (Nat.le_of_eq hg.symm)) hb); have n15_ := Aside0.mk (Kd.N_below (Kd.N_elderB (Kd.N_y HO396.out) gb398 (Nat.le_of_eq hg.symm)) hb); have n16_ := Aside0.mk (blk_below (g := gb347) (o := .cells #[.slice A0_0 l0_0.length c0_0, .slice A0_1 l0_1.length c0_1, .slice A0_2 l0_2.length c0_2] 76 (0, 0)) (blk_y BK347.out) hb); have n17_ := Aside0.mk (blk_below (g := gb348) (o := .cells #[.bool a1_0, .int .i64 a1_1, .slice A1_2 l1_2.length c1_2] 78 (0, 0)) (blk_y BK348.out) hb); have n18_ := Aside0.mk (blk_below (g := gb365) (o := .cells #[.slice Ao46 t355.length co46, .slice Ao50 t358.length co50, .slice Ao51 t361.length co51] 76 (0, 0)) (blk_y BK365.out) hb); have n19_ := Aside0.mk (blk_below (g := gb376) (o := .cells #[.slice Ao57 t366.length co57, .slice Ao62 t369.length co62, .slice Ao63 t372.length co63] 76 (0, 0)) (blk_y BK376.out) hb); have n20_ := Aside0.mk (blk_below (g := gb387) (o := .cells #[.slice Ao68 t377.length co68, .slice Ao74 t380.length co74, .slice Ao75 t383.length co75] 76 (0, 0)) (blk_y BK387.out) hb); have n21_ := Aside0.mk (below_step (below_y HB.out) hb); have n22_ := Aside0.mk (hbox); have n23_ := Aside0.mk ((by rw [hg]; exact (below_size (below_y HB.out)) : w.heap.size ≤ gb398)); have n24_ := Aside0.mk ((by rw [hg]; exact (below_size (below_y HB.out)) : w.heap.size ≤ gb398)); have n25_ := Aside0.mk ((by rw [hg]; exact Nat.ne_of_lt (blk_lt (g := gb347) (o := .cells #[.slice A0_0 l0_0.length c0_0, .slice A0_1 l0_1.length c0_1, .slice A0_2 l0_2.length c0_2] 76 (0, 0)) (blk_y BK347.out)) : gb347 ≠ gb398)); have n26_ := Aside0.mk ((by rw [hg]; exact Nat.ne_of_gt (blk_lt (g := gb347) (o := .cells #[.slice A0_0 l0_0.length c0_0, .slice A0_1 l0_1.length c0_1, .slice A0_2 l0_2.length c0_2] 76 (0, 0)) (blk_y BK347.out)) : gb398 ≠ gb347)); have n27_ := Aside0.mk ((by rw [hg]; exact Nat.ne_of_lt (blk_lt (g := gb348) (o := .cells #[.bool a1_0, .int .i64 a1_1, .slice A1_2 l1_2.length c1_2] 78 (0, 0)) (blk_y BK348.out)) : gb348 ≠ gb398)); have n28_ := Aside0.mk ((by rw [hg]; exact Nat.ne_of_gt (blk_lt (g := gb348) (o := .cells #[.bool a1_0, .int .i64 a1_1, .slice A1_2 l1_2.length c1_2] 78 (0, 0)) (blk_y BK348.out)) : gb398 ≠ gb348)); have n29_ := Aside0.mk ((by rw [hg]; exact Nat.ne_of_lt (blk_lt (g := gb365) (o := .cells #[.slice Ao46 t355.length co46, .slice Ao50 t358.length co50, .slice Ao51 t361.length co51] 76 (0, 0)) (blk_y BK365.out)) : gb365 ≠ gb398)); have n30_ := Aside0.mk ((by rw [hg]; exact Nat.ne_of_gt (blk_lt (g := gb365) (o := .cells #[.slice Ao46 t355.length co46, .slice Ao50 t358.length co50, .slice Ao51 t361.length co51] 76 (0, 0)) (blk_y BK365.out)) : gb398 ≠ gb365)); have n31_ := Aside0.mk ((by rw [hg]; exact Nat.ne_of_lt (blk_lt (g := gb376) (o := .cells #[.slice Ao57 t366.length co57, .slice Ao62 t369.length co62, .slice Ao63 t372.length co63] 76 (0, 0)) (blk_y BK376.out)) : gb376 ≠ gb398)); have n32_ := Aside0.mk ((by rw [hg]; exact Nat.ne_of_gt (blk_lt (g := gb376) (o := .cells #[.slice Ao57 t366.length co57, .slice Ao62 t369.length co62, .slice Ao63 t372.length co63] 76 (0, 0)) (blk_y BK376.out)) : gb398 ≠ gb376)); have n33_ := Aside0.mk ((by rw [hg]; exact Nat.ne_of_lt (blk_lt (g := gb387) (o := .cells #[.slice Ao68 t377.length co68, .slice Ao74 t380.length co74, .slice Ao75 t383.length co75] 76 (0, 0)) (blk_y BK387.out)) : gb387 ≠ gb398)); have n34_ := Aside0.mk ((by rw [hg]; exact Nat.ne_of_gt (blk_lt (g := gb387) (o := .cells #[.slice Ao68 t377.length co68, .slice Ao74 t380.length co74, .slice Ao75 t383.length co75] 76 (0, 0)) (blk_y BK387.out)) : gb398 ≠ gb387)); clear HO_348000; clear HO_348001; clear HO_348002; clear HO_349002; clear HO357; clear HO360; clear HO363; clear HO368; clear HO371; clear HO374; clear HO379; clear HO382; clear HO385; clear HO390; clear HO393; clear HO396; clear BK347; clear BK348; clear BK365; clear BK376; clear BK387; clear HB; have HO_348000 := n0_; have HO_348001 := n1_; have HO_348002 := n2_; have HO_349002 := n3_; have HO357 := n4_; have HO360 := n5_; have HO363 := n6_; have HO368 := n7_; have HO371 := n8_; have HO374 := n9_; have HO379 := n10_; have HO382 := n11_; have HO385 := n12_; have HO390 := n13_; have HO393 := n14_; have HO396 := n15_; have BK347 := n16_; have BK348 := n17_; have BK365 := n18_; have BK376 := n19_; have BK387 := n20_; have HB := n21_; have BK398 := n22_; have GW398 := n23_; have GE398 := n24_; have NB347_398 := n25_; have NB398_347 := n26_; have NB348_398 := n27_; have NB398_348 := n28_; have NB365_398 := n29_; have NB398_365 := n30_; have NB376_398 := n31_; have NB398_376 := n32_; have NB387_398 := n33_; have NB398_387 := n34_; clear n0_ n1_ n2_ n3_ n4_ n5_ n6_ n7_ n8_ n9_ n10_ n11_ n12_ n13_ n14_ n15_ n16_ n17_ n18_ n19_ n20_ n21_ n22_ n23_ n24_ n25_ n26_ n27_ n28_ n29_ n30_ n31_ n32_ n33_ n34_; clear hb hbox hg; obtain ⟨Ao80, co80, eo80⟩ := Kd.V_slice HO390.out; subst eo80; have hnb81 := NB398_347.out; have hnc81 := NB347_398.out; have hnb82 := NB398_348.out; have hnc82 := NB348_398.out; have hnb83 := NB398_365.out; have hnc83 := NB365_398.out; have hnb84 := NB398_376.out; have hnc84 := NB376_398.out; have hnb85 := NB398_387.out; have hnc85 := NB387_398.out; have hcz86_0 : w79.cell? ⟨gb398, 0, none⟩ = some (.slice none 0 0) := (blk_cell BK398.out 0).trans rfl; have hcz86_1 : w79.cell? ⟨gb398, 1, none⟩ = some (.slice none 0 0) := (blk_cell BK398.out 1).trans rfl; have hcz86_2 : w79.cell? ⟨gb398, 2, none⟩ = some (.slice none 0 0) := (blk_cell BK398.out 2).trans rfl; have hfz86_0 := blk_frozen BK398.out 0; have hfz86_1 := blk_frozen BK398.out 1; have hfz86_2 := blk_frozen BK398.out 2; obtain ⟨Ao87, co87, eo87⟩ := Kd.V_slice HO393.out; subst eo87; obtain ⟨Ao88, co88, eo88⟩ := Kd.N_slice HO396.out; subst eo88))
                    have n0_ : Aside0 (Kd.V (Kd.int .u8) 5 (((w79.setCell ⟨gb398, 0, none⟩ (.slice Ao80 t388.length co80)).setCell ⟨gb398, 1, none⟩ (.slice Ao87 t391.length co87)).setCell ⟨gb398, 2, none⟩ (.slice Ao88 t394.length co88)) w.heap.size (fun k_ => ((P0_0_ k_ ∨ P0_1_ k_ ∨ P0_2_ k_ ∨ P1_2_ k_) ∨ w.heap.size ≤ k_) ∧ some k_ ≠ (.slice Ao46 t355.length co46 : Value).ownBlock ∧ some k_ ≠ (.slice Ao50 t358.length co50 : Value).ownBlock ∧ some k_ ≠ (.slice Ao51 t361.length co51 : Value).ownBlock ∧ some k_ ≠ (.slice Ao57 t366.length co57 : Value).ownBlock ∧ some k_ ≠ (.slice Ao63 t372.length co63 : Value).ownBlock ∧ some k_ ≠ (.slice Ao68 t377.length co68 : Value).ownBlock ∧ some k_ ≠ (.slice Ao74 t380.length co74 : Value).ownBlock ∧ some k_ ≠ (.slice Ao75 t383.length co75 : Value).ownBlock ∧ some k_ ≠ (.slice Ao88 t394.length co88 : Value).ownBlock ∧ k_ ≠ gb347 ∧ k_ ≠ gb348 ∧ k_ ≠ gb365 ∧ k_ ≠ gb376 ∧ k_ ≠ gb387 ∧ k_ ≠ gb398) (.slice A0_0 l0_0.length c0_0) l0_0) := ⟨by (with_reducible repeat (first | apply Kd.V_alloc | apply Kd.V_drewN | apply Kd.V_drew)); exact Kd.V_mono (Kd.V_far (p := ⟨gb398, 2, none⟩) (Kd.V_far (p := ⟨gb398, 1, none⟩) (Kd.V_far (p := ⟨gb398, 0, none⟩) (Kd.V_mono HO_348000.out (fun k_ hk => (⟨hk, hk.2⟩ : _ ∧ k_ ≠ gb398))) (fun _ hk => hk.2) (.slice Ao80 t388.length co80)) (fun _ hk => hk.2) (.slice Ao87 t391.length co87)) (fun _ hk => hk.2) (.slice Ao88 t394.length co88)) (fun _ hk => ⟨hk.1.1.1.1, ⟨hk.1.1.1.2.1, ⟨hk.1.1.1.2.2.1, ⟨hk.1.1.1.2.2.2.1, ⟨hk.1.1.1.2.2.2.2.1, ⟨hk.1.1.1.2.2.2.2.2.1, ⟨hk.1.1.1.2.2.2.2.2.2.1, ⟨hk.1.1.1.2.2.2.2.2.2.2.1, ⟨hk.1.1.1.2.2.2.2.2.2.2.2.1, ⟨hk.1.1.2, ⟨hk.1.1.1.2.2.2.2.2.2.2.2.2.1, ⟨hk.1.1.1.2.2.2.2.2.2.2.2.2.2.1, ⟨hk.1.1.1.2.2.2.2.2.2.2.2.2.2.2.1, ⟨hk.1.1.1.2.2.2.2.2.2.2.2.2.2.2.2.1, ⟨hk.1.1.1.2.2.2.2.2.2.2.2.2.2.2.2.2, hk.1.2⟩⟩⟩⟩⟩⟩⟩⟩⟩⟩⟩⟩⟩⟩⟩)⟩
                    have n1_ : Aside0 (Kd.V (Kd.int .u8) 5 (((w79.setCell ⟨gb398, 0, none⟩ (.slice Ao80 t388.length co80)).setCell ⟨gb398, 1, none⟩ (.slice Ao87 t391.length co87)).setCell ⟨gb398, 2, none⟩ (.slice Ao88 t394.length co88)) w.heap.size (fun k_ => ((P0_0_ k_ ∨ P0_1_ k_ ∨ P0_2_ k_ ∨ P1_2_ k_) ∨ w.heap.size ≤ k_) ∧ some k_ ≠ (.slice Ao46 t355.length co46 : Value).ownBlock ∧ some k_ ≠ (.slice Ao50 t358.length co50 : Value).ownBlock ∧ some k_ ≠ (.slice Ao51 t361.length co51 : Value).ownBlock ∧ some k_ ≠ (.slice Ao57 t366.length co57 : Value).ownBlock ∧ some k_ ≠ (.slice Ao63 t372.length co63 : Value).ownBlock ∧ some k_ ≠ (.slice Ao68 t377.length co68 : Value).ownBlock ∧ some k_ ≠ (.slice Ao74 t380.length co74 : Value).ownBlock ∧ some k_ ≠ (.slice Ao75 t383.length co75 : Value).ownBlock ∧ some k_ ≠ (.slice Ao88 t394.length co88 : Value).ownBlock ∧ k_ ≠ gb347 ∧ k_ ≠ gb348 ∧ k_ ≠ gb365 ∧ k_ ≠ gb376 ∧ k_ ≠ gb387 ∧ k_ ≠ gb398) (.slice A0_1 l0_1.length c0_1) l0_1) := ⟨by (with_reducible repeat (first | apply Kd.V_alloc | apply Kd.V_drewN | apply Kd.V_drew)); exact Kd.V_mono (Kd.V_far (p := ⟨gb398, 2, none⟩) (Kd.V_far (p := ⟨gb398, 1, none⟩) (Kd.V_far (p := ⟨gb398, 0, none⟩) (Kd.V_mono HO_348001.out (fun k_ hk => (⟨hk, hk.2⟩ : _ ∧ k_ ≠ gb398))) (fun _ hk => hk.2) (.slice Ao80 t388.length co80)) (fun _ hk => hk.2) (.slice Ao87 t391.length co87)) (fun _ hk => hk.2) (.slice Ao88 t394.length co88)) (fun _ hk => ⟨hk.1.1.1.1, ⟨hk.1.1.1.2.1, ⟨hk.1.1.1.2.2.1, ⟨hk.1.1.1.2.2.2.1, ⟨hk.1.1.1.2.2.2.2.1, ⟨hk.1.1.1.2.2.2.2.2.1, ⟨hk.1.1.1.2.2.2.2.2.2.1, ⟨hk.1.1.1.2.2.2.2.2.2.2.1, ⟨hk.1.1.1.2.2.2.2.2.2.2.2.1, ⟨hk.1.1.2, ⟨hk.1.1.1.2.2.2.2.2.2.2.2.2.1, ⟨hk.1.1.1.2.2.2.2.2.2.2.2.2.2.1, ⟨hk.1.1.1.2.2.2.2.2.2.2.2.2.2.2.1, ⟨hk.1.1.1.2.2.2.2.2.2.2.2.2.2.2.2.1, ⟨hk.1.1.1.2.2.2.2.2.2.2.2.2.2.2.2.2, hk.1.2⟩⟩⟩⟩⟩⟩⟩⟩⟩⟩⟩⟩⟩⟩⟩)⟩
                    have n2_ : Aside0 (Kd.V k46 46 (((w79.setCell ⟨gb398, 0, none⟩ (.slice Ao80 t388.length co80)).setCell ⟨gb398, 1, none⟩ (.slice Ao87 t391.length co87)).setCell ⟨gb398, 2, none⟩ (.slice Ao88 t394.length co88)) w.heap.size (fun k_ => ((P0_0_ k_ ∨ P0_1_ k_ ∨ P0_2_ k_ ∨ P1_2_ k_) ∨ w.heap.size ≤ k_) ∧ some k_ ≠ (.slice Ao46 t355.length co46 : Value).ownBlock ∧ some k_ ≠ (.slice Ao50 t358.length co50 : Value).ownBlock ∧ some k_ ≠ (.slice Ao51 t361.length co51 : Value).ownBlock ∧ some k_ ≠ (.slice Ao57 t366.length co57 : Value).ownBlock ∧ some k_ ≠ (.slice Ao63 t372.length co63 : Value).ownBlock ∧ some k_ ≠ (.slice Ao68 t377.length co68 : Value).ownBlock ∧ some k_ ≠ (.slice Ao74 t380.length co74 : Value).ownBlock ∧ some k_ ≠ (.slice Ao75 t383.length co75 : Value).ownBlock ∧ some k_ ≠ (.slice Ao88 t394.length co88 : Value).ownBlock ∧ k_ ≠ gb347 ∧ k_ ≠ gb348 ∧ k_ ≠ gb365 ∧ k_ ≠ gb376 ∧ k_ ≠ gb387 ∧ k_ ≠ gb398) (.slice A0_2 l0_2.length c0_2) l0_2) := ⟨by (with_reducible repeat (first | apply Kd.V_alloc | apply Kd.V_drewN | apply Kd.V_drew)); exact Kd.V_mono (Kd.V_far (p := ⟨gb398, 2, none⟩) (Kd.V_far (p := ⟨gb398, 1, none⟩) (Kd.V_far (p := ⟨gb398, 0, none⟩) (Kd.V_mono HO_348002.out (fun k_ hk => (⟨hk, hk.2⟩ : _ ∧ k_ ≠ gb398))) (fun _ hk => hk.2) (.slice Ao80 t388.length co80)) (fun _ hk => hk.2) (.slice Ao87 t391.length co87)) (fun _ hk => hk.2) (.slice Ao88 t394.length co88)) (fun _ hk => ⟨hk.1.1.1.1, ⟨hk.1.1.1.2.1, ⟨hk.1.1.1.2.2.1, ⟨hk.1.1.1.2.2.2.1, ⟨hk.1.1.1.2.2.2.2.1, ⟨hk.1.1.1.2.2.2.2.2.1, ⟨hk.1.1.1.2.2.2.2.2.2.1, ⟨hk.1.1.1.2.2.2.2.2.2.2.1, ⟨hk.1.1.1.2.2.2.2.2.2.2.2.1, ⟨hk.1.1.2, ⟨hk.1.1.1.2.2.2.2.2.2.2.2.2.1, ⟨hk.1.1.1.2.2.2.2.2.2.2.2.2.2.1, ⟨hk.1.1.1.2.2.2.2.2.2.2.2.2.2.2.1, ⟨hk.1.1.1.2.2.2.2.2.2.2.2.2.2.2.2.1, ⟨hk.1.1.1.2.2.2.2.2.2.2.2.2.2.2.2.2, hk.1.2⟩⟩⟩⟩⟩⟩⟩⟩⟩⟩⟩⟩⟩⟩⟩)⟩
                    have n3_ : Aside0 (Kd.V (Kd.int .u8) 5 (((w79.setCell ⟨gb398, 0, none⟩ (.slice Ao80 t388.length co80)).setCell ⟨gb398, 1, none⟩ (.slice Ao87 t391.length co87)).setCell ⟨gb398, 2, none⟩ (.slice Ao88 t394.length co88)) w.heap.size (fun k_ => ((P0_0_ k_ ∨ P0_1_ k_ ∨ P0_2_ k_ ∨ P1_2_ k_) ∨ w.heap.size ≤ k_) ∧ some k_ ≠ (.slice Ao46 t355.length co46 : Value).ownBlock ∧ some k_ ≠ (.slice Ao50 t358.length co50 : Value).ownBlock ∧ some k_ ≠ (.slice Ao51 t361.length co51 : Value).ownBlock ∧ some k_ ≠ (.slice Ao57 t366.length co57 : Value).ownBlock ∧ some k_ ≠ (.slice Ao63 t372.length co63 : Value).ownBlock ∧ some k_ ≠ (.slice Ao68 t377.length co68 : Value).ownBlock ∧ some k_ ≠ (.slice Ao74 t380.length co74 : Value).ownBlock ∧ some k_ ≠ (.slice Ao75 t383.length co75 : Value).ownBlock ∧ some k_ ≠ (.slice Ao88 t394.length co88 : Value).ownBlock ∧ k_ ≠ gb347 ∧ k_ ≠ gb348 ∧ k_ ≠ gb365 ∧ k_ ≠ gb376 ∧ k_ ≠ gb387 ∧ k_ ≠ gb398) (.slice A1_2 l1_2.length c1_2) l1_2) := ⟨by (with_reducible repeat (first | apply Kd.V_alloc | apply Kd.V_drewN | apply Kd.V_drew)); exact Kd.V_mono (Kd.V_far (p := ⟨gb398, 2, none⟩) (Kd.V_far (p := ⟨gb398, 1, none⟩) (Kd.V_far (p := ⟨gb398, 0, none⟩) (Kd.V_mono HO_349002.out (fun k_ hk => (⟨hk, hk.2⟩ : _ ∧ k_ ≠ gb398))) (fun _ hk => hk.2) (.slice Ao80 t388.length co80)) (fun _ hk => hk.2) (.slice Ao87 t391.length co87)) (fun _ hk => hk.2) (.slice Ao88 t394.length co88)) (fun _ hk => ⟨hk.1.1.1.1, ⟨hk.1.1.1.2.1, ⟨hk.1.1.1.2.2.1, ⟨hk.1.1.1.2.2.2.1, ⟨hk.1.1.1.2.2.2.2.1, ⟨hk.1.1.1.2.2.2.2.2.1, ⟨hk.1.1.1.2.2.2.2.2.2.1, ⟨hk.1.1.1.2.2.2.2.2.2.2.1, ⟨hk.1.1.1.2.2.2.2.2.2.2.2.1, ⟨hk.1.1.2, ⟨hk.1.1.1.2.2.2.2.2.2.2.2.2.1, ⟨hk.1.1.1.2.2.2.2.2.2.2.2.2.2.1, ⟨hk.1.1.1.2.2.2.2.2.2.2.2.2.2.2.1, ⟨hk.1.1.1.2.2.2.2.2.2.2.2.2.2.2.2.1, ⟨hk.1.1.1.2.2.2.2.2.2.2.2.2.2.2.2.2, hk.1.2⟩⟩⟩⟩⟩⟩⟩⟩⟩⟩⟩⟩⟩⟩⟩)⟩
                    have n4_ : Aside0 (Kd.R (Kd.int .u8) 5 (((w79.setCell ⟨gb398, 0, none⟩ (.slice Ao80 t388.length co80)).setCell ⟨gb398, 1, none⟩ (.slice Ao87 t391.length co87)).setCell ⟨gb398, 2, none⟩ (.slice Ao88 t394.length co88)) w.heap.size (fun k_ => (w.heap.size ≤ k_) ∧ some k_ ≠ (.slice Ao50 t358.length co50 : Value).ownBlock ∧ some k_ ≠ (.slice Ao57 t366.length co57 : Value).ownBlock ∧ some k_ ≠ (.slice Ao68 t377.length co68 : Value).ownBlock ∧ some k_ ≠ (.slice Ao74 t380.length co74 : Value).ownBlock) (.slice Ao46 t355.length co46) t355) := ⟨by (with_reducible repeat (first | apply Kd.R_alloc | apply Kd.R_drewN | apply Kd.R_drew)); exact Kd.R_mono (Kd.R_far (p := ⟨gb398, 2, none⟩) (Kd.R_far (p := ⟨gb398, 1, none⟩) (Kd.R_far (p := ⟨gb398, 0, none⟩) (Kd.R_types HO357.out BK398.out (by decide)) (fun _ hk => hk.2) (.slice Ao80 t388.length co80)) (fun _ hk => hk.2) (.slice Ao87 t391.length co87)) (fun _ hk => hk.2) (.slice Ao88 t394.length co88)) (fun _ hk => ⟨hk.1.1, ⟨hk.1.2.1, ⟨hk.1.2.2.1, ⟨hk.1.2.2.2.1, hk.1.2.2.2.2⟩⟩⟩⟩)⟩
                    have n5_ : Aside0 (Kd.R (Kd.int .u8) 5 (((w79.setCell ⟨gb398, 0, none⟩ (.slice Ao80 t388.length co80)).setCell ⟨gb398, 1, none⟩ (.slice Ao87 t391.length co87)).setCell ⟨gb398, 2, none⟩ (.slice Ao88 t394.length co88)) w.heap.size (fun k_ => (w.heap.size ≤ k_) ∧ some k_ ≠ (.slice Ao46 t355.length co46 : Value).ownBlock ∧ some k_ ≠ (.slice Ao57 t366.length co57 : Value).ownBlock ∧ some k_ ≠ (.slice Ao68 t377.length co68 : Value).ownBlock ∧ some k_ ≠ (.slice Ao74 t380.length co74 : Value).ownBlock) (.slice Ao50 t358.length co50) t358) := ⟨by (with_reducible repeat (first | apply Kd.R_alloc | apply Kd.R_drewN | apply Kd.R_drew)); exact Kd.R_mono (Kd.R_far (p := ⟨gb398, 2, none⟩) (Kd.R_far (p := ⟨gb398, 1, none⟩) (Kd.R_far (p := ⟨gb398, 0, none⟩) (Kd.R_types HO360.out BK398.out (by decide)) (fun _ hk => hk.2) (.slice Ao80 t388.length co80)) (fun _ hk => hk.2) (.slice Ao87 t391.length co87)) (fun _ hk => hk.2) (.slice Ao88 t394.length co88)) (fun _ hk => ⟨hk.1.1, ⟨hk.1.2.1, ⟨hk.1.2.2.1, ⟨hk.1.2.2.2.1, hk.1.2.2.2.2⟩⟩⟩⟩)⟩
                    have n6_ : Aside0 (Kd.N k46 46 (((w79.setCell ⟨gb398, 0, none⟩ (.slice Ao80 t388.length co80)).setCell ⟨gb398, 1, none⟩ (.slice Ao87 t391.length co87)).setCell ⟨gb398, 2, none⟩ (.slice Ao88 t394.length co88)) w.heap.size (fun k_ => ((P0_0_ k_ ∨ P0_1_ k_ ∨ P0_2_ k_ ∨ P1_2_ k_) ∨ w.heap.size ≤ k_) ∧ some k_ ≠ (.slice Ao46 t355.length co46 : Value).ownBlock ∧ some k_ ≠ (.slice Ao50 t358.length co50 : Value).ownBlock ∧ some k_ ≠ (.slice Ao57 t366.length co57 : Value).ownBlock ∧ some k_ ≠ (.slice Ao63 t372.length co63 : Value).ownBlock ∧ some k_ ≠ (.slice Ao68 t377.length co68 : Value).ownBlock ∧ some k_ ≠ (.slice Ao74 t380.length co74 : Value).ownBlock ∧ some k_ ≠ (.slice Ao75 t383.length co75 : Value).ownBlock ∧ some k_ ≠ (.slice Ao88 t394.length co88 : Value).ownBlock ∧ k_ ≠ gb347 ∧ k_ ≠ gb348 ∧ k_ ≠ gb365 ∧ k_ ≠ gb376 ∧ k_ ≠ gb387 ∧ k_ ≠ gb398) (.slice Ao51 t361.length co51) t361) := ⟨by (with_reducible repeat (first | apply Kd.N_alloc | apply Kd.N_drewN | apply Kd.N_drew)); exact Kd.N_mono (Kd.N_far (p := ⟨gb398, 2, none⟩) (Kd.N_far (p := ⟨gb398, 1, none⟩) (Kd.N_far (p := ⟨gb398, 0, none⟩) (Kd.N_mono HO363.out (fun k_ hk => (⟨hk, hk.2⟩ : _ ∧ k_ ≠ gb398))) (fun _ hk => hk.2) (.slice Ao80 t388.length co80)) (fun _ hk => hk.2) (.slice Ao87 t391.length co87)) (fun _ hk => hk.2) (.slice Ao88 t394.length co88)) (fun _ hk => ⟨hk.1.1.1.1, ⟨hk.1.1.1.2.1, ⟨hk.1.1.1.2.2.1, ⟨hk.1.1.1.2.2.2.1, ⟨hk.1.1.1.2.2.2.2.1, ⟨hk.1.1.1.2.2.2.2.2.1, ⟨hk.1.1.1.2.2.2.2.2.2.1, ⟨hk.1.1.1.2.2.2.2.2.2.2.1, ⟨hk.1.1.2, ⟨hk.1.1.1.2.2.2.2.2.2.2.2.1, ⟨hk.1.1.1.2.2.2.2.2.2.2.2.2.1, ⟨hk.1.1.1.2.2.2.2.2.2.2.2.2.2.1, ⟨hk.1.1.1.2.2.2.2.2.2.2.2.2.2.2.1, ⟨hk.1.1.1.2.2.2.2.2.2.2.2.2.2.2.2, hk.1.2⟩⟩⟩⟩⟩⟩⟩⟩⟩⟩⟩⟩⟩⟩)⟩
                    have n7_ : Aside0 (Kd.R (Kd.int .u8) 5 (((w79.setCell ⟨gb398, 0, none⟩ (.slice Ao80 t388.length co80)).setCell ⟨gb398, 1, none⟩ (.slice Ao87 t391.length co87)).setCell ⟨gb398, 2, none⟩ (.slice Ao88 t394.length co88)) w.heap.size (fun k_ => (w.heap.size ≤ k_) ∧ some k_ ≠ (.slice Ao46 t355.length co46 : Value).ownBlock ∧ some k_ ≠ (.slice Ao50 t358.length co50 : Value).ownBlock ∧ some k_ ≠ (.slice Ao68 t377.length co68 : Value).ownBlock ∧ some k_ ≠ (.slice Ao74 t380.length co74 : Value).ownBlock) (.slice Ao57 t366.length co57) t366) := ⟨by (with_reducible repeat (first | apply Kd.R_alloc | apply Kd.R_drewN | apply Kd.R_drew)); exact Kd.R_mono (Kd.R_far (p := ⟨gb398, 2, none⟩) (Kd.R_far (p := ⟨gb398, 1, none⟩) (Kd.R_far (p := ⟨gb398, 0, none⟩) (Kd.R_types HO368.out BK398.out (by decide)) (fun _ hk => hk.2) (.slice Ao80 t388.length co80)) (fun _ hk => hk.2) (.slice Ao87 t391.length co87)) (fun _ hk => hk.2) (.slice Ao88 t394.length co88)) (fun _ hk => ⟨hk.1.1, ⟨hk.1.2.1, ⟨hk.1.2.2.1, ⟨hk.1.2.2.2.1, hk.1.2.2.2.2⟩⟩⟩⟩)⟩
                    have n8_ : Aside0 (Kd.V (Kd.int .u8) 5 (((w79.setCell ⟨gb398, 0, none⟩ (.slice Ao80 t388.length co80)).setCell ⟨gb398, 1, none⟩ (.slice Ao87 t391.length co87)).setCell ⟨gb398, 2, none⟩ (.slice Ao88 t394.length co88)) w.heap.size (fun k_ => ((P0_0_ k_ ∨ P0_1_ k_ ∨ P0_2_ k_ ∨ P1_2_ k_) ∨ w.heap.size ≤ k_) ∧ some k_ ≠ (.slice Ao46 t355.length co46 : Value).ownBlock ∧ some k_ ≠ (.slice Ao50 t358.length co50 : Value).ownBlock ∧ some k_ ≠ (.slice Ao51 t361.length co51 : Value).ownBlock ∧ some k_ ≠ (.slice Ao57 t366.length co57 : Value).ownBlock ∧ some k_ ≠ (.slice Ao63 t372.length co63 : Value).ownBlock ∧ some k_ ≠ (.slice Ao68 t377.length co68 : Value).ownBlock ∧ some k_ ≠ (.slice Ao74 t380.length co74 : Value).ownBlock ∧ some k_ ≠ (.slice Ao75 t383.length co75 : Value).ownBlock ∧ some k_ ≠ (.slice Ao88 t394.length co88 : Value).ownBlock ∧ k_ ≠ gb347 ∧ k_ ≠ gb348 ∧ k_ ≠ gb365 ∧ k_ ≠ gb376 ∧ k_ ≠ gb387 ∧ k_ ≠ gb398) (.slice Ao62 t369.length co62) t369) := ⟨by (with_reducible repeat (first | apply Kd.V_alloc | apply Kd.V_drewN | apply Kd.V_drew)); exact Kd.V_mono (Kd.V_far (p := ⟨gb398, 2, none⟩) (Kd.V_far (p := ⟨gb398, 1, none⟩) (Kd.V_far (p := ⟨gb398, 0, none⟩) (Kd.V_mono HO371.out (fun k_ hk => (⟨hk, hk.2⟩ : _ ∧ k_ ≠ gb398))) (fun _ hk => hk.2) (.slice Ao80 t388.length co80)) (fun _ hk => hk.2) (.slice Ao87 t391.length co87)) (fun _ hk => hk.2) (.slice Ao88 t394.length co88)) (fun _ hk => ⟨hk.1.1.1.1, ⟨hk.1.1.1.2.1, ⟨hk.1.1.1.2.2.1, ⟨hk.1.1.1.2.2.2.1, ⟨hk.1.1.1.2.2.2.2.1, ⟨hk.1.1.1.2.2.2.2.2.1, ⟨hk.1.1.1.2.2.2.2.2.2.1, ⟨hk.1.1.1.2.2.2.2.2.2.2.1, ⟨hk.1.1.1.2.2.2.2.2.2.2.2.1, ⟨hk.1.1.2, ⟨hk.1.1.1.2.2.2.2.2.2.2.2.2.1, ⟨hk.1.1.1.2.2.2.2.2.2.2.2.2.2.1, ⟨hk.1.1.1.2.2.2.2.2.2.2.2.2.2.2.1, ⟨hk.1.1.1.2.2.2.2.2.2.2.2.2.2.2.2.1, ⟨hk.1.1.1.2.2.2.2.2.2.2.2.2.2.2.2.2, hk.1.2⟩⟩⟩⟩⟩⟩⟩⟩⟩⟩⟩⟩⟩⟩⟩)⟩
                    have n9_ : Aside0 (Kd.N k46 46 (((w79.setCell ⟨gb398, 0, none⟩ (.slice Ao80 t388.length co80)).setCell ⟨gb398, 1, none⟩ (.slice Ao87 t391.length co87)).setCell ⟨gb398, 2, none⟩ (.slice Ao88 t394.length co88)) w.heap.size (fun k_ => ((P0_0_ k_ ∨ P0_1_ k_ ∨ P0_2_ k_ ∨ P1_2_ k_) ∨ w.heap.size ≤ k_) ∧ some k_ ≠ (.slice Ao46 t355.length co46 : Value).ownBlock ∧ some k_ ≠ (.slice Ao50 t358.length co50 : Value).ownBlock ∧ some k_ ≠ (.slice Ao51 t361.length co51 : Value).ownBlock ∧ some k_ ≠ (.slice Ao57 t366.length co57 : Value).ownBlock ∧ some k_ ≠ (.slice Ao68 t377.length co68 : Value).ownBlock ∧ some k_ ≠ (.slice Ao74 t380.length co74 : Value).ownBlock ∧ some k_ ≠ (.slice Ao75 t383.length co75 : Value).ownBlock ∧ some k_ ≠ (.slice Ao88 t394.length co88 : Value).ownBlock ∧ k_ ≠ gb347 ∧ k_ ≠ gb348 ∧ k_ ≠ gb365 ∧ k_ ≠ gb376 ∧ k_ ≠ gb387 ∧ k_ ≠ gb398) (.slice Ao63 t372.length co63) t372) := ⟨by (with_reducible repeat (first | apply Kd.N_alloc | apply Kd.N_drewN | apply Kd.N_drew)); exact Kd.N_mono (Kd.N_far (p := ⟨gb398, 2, none⟩) (Kd.N_far (p := ⟨gb398, 1, none⟩) (Kd.N_far (p := ⟨gb398, 0, none⟩) (Kd.N_mono HO374.out (fun k_ hk => (⟨hk, hk.2⟩ : _ ∧ k_ ≠ gb398))) (fun _ hk => hk.2) (.slice Ao80 t388.length co80)) (fun _ hk => hk.2) (.slice Ao87 t391.length co87)) (fun _ hk => hk.2) (.slice Ao88 t394.length co88)) (fun _ hk => ⟨hk.1.1.1.1, ⟨hk.1.1.1.2.1, ⟨hk.1.1.1.2.2.1, ⟨hk.1.1.1.2.2.2.1, ⟨hk.1.1.1.2.2.2.2.1, ⟨hk.1.1.1.2.2.2.2.2.1, ⟨hk.1.1.1.2.2.2.2.2.2.1, ⟨hk.1.1.1.2.2.2.2.2.2.2.1, ⟨hk.1.1.2, ⟨hk.1.1.1.2.2.2.2.2.2.2.2.1, ⟨hk.1.1.1.2.2.2.2.2.2.2.2.2.1, ⟨hk.1.1.1.2.2.2.2.2.2.2.2.2.2.1, ⟨hk.1.1.1.2.2.2.2.2.2.2.2.2.2.2.1, ⟨hk.1.1.1.2.2.2.2.2.2.2.2.2.2.2.2, hk.1.2⟩⟩⟩⟩⟩⟩⟩⟩⟩⟩⟩⟩⟩⟩)⟩
                    have n10_ : Aside0 (Kd.R (Kd.int .u8) 5 (((w79.setCell ⟨gb398, 0, none⟩ (.slice Ao80 t388.length co80)).setCell ⟨gb398, 1, none⟩ (.slice Ao87 t391.length co87)).setCell ⟨gb398, 2, none⟩ (.slice Ao88 t394.length co88)) w.heap.size (fun k_ => (w.heap.size ≤ k_) ∧ some k_ ≠ (.slice Ao46 t355.length co46 : Value).ownBlock ∧ some k_ ≠ (.slice Ao50 t358.length co50 : Value).ownBlock ∧ some k_ ≠ (.slice Ao57 t366.length co57 : Value).ownBlock ∧ some k_ ≠ (.slice Ao74 t380.length co74 : Value).ownBlock) (.slice Ao68 t377.length co68) t377) := ⟨by (with_reducible repeat (first | apply Kd.R_alloc | apply Kd.R_drewN | apply Kd.R_drew)); exact Kd.R_mono (Kd.R_far (p := ⟨gb398, 2, none⟩) (Kd.R_far (p := ⟨gb398, 1, none⟩) (Kd.R_far (p := ⟨gb398, 0, none⟩) (Kd.R_types HO379.out BK398.out (by decide)) (fun _ hk => hk.2) (.slice Ao80 t388.length co80)) (fun _ hk => hk.2) (.slice Ao87 t391.length co87)) (fun _ hk => hk.2) (.slice Ao88 t394.length co88)) (fun _ hk => ⟨hk.1.1, ⟨hk.1.2.1, ⟨hk.1.2.2.1, ⟨hk.1.2.2.2.1, hk.1.2.2.2.2⟩⟩⟩⟩)⟩
                    have n11_ : Aside0 (Kd.R (Kd.int .u8) 5 (((w79.setCell ⟨gb398, 0, none⟩ (.slice Ao80 t388.length co80)).setCell ⟨gb398, 1, none⟩ (.slice Ao87 t391.length co87)).setCell ⟨gb398, 2, none⟩ (.slice Ao88 t394.length co88)) w.heap.size (fun k_ => (w.heap.size ≤ k_) ∧ some k_ ≠ (.slice Ao46 t355.length co46 : Value).ownBlock ∧ some k_ ≠ (.slice Ao50 t358.length co50 : Value).ownBlock ∧ some k_ ≠ (.slice Ao57 t366.length co57 : Value).ownBlock ∧ some k_ ≠ (.slice Ao68 t377.length co68 : Value).ownBlock) (.slice Ao74 t380.length co74) t380) := ⟨by (with_reducible repeat (first | apply Kd.R_alloc | apply Kd.R_drewN | apply Kd.R_drew)); exact Kd.R_mono (Kd.R_far (p := ⟨gb398, 2, none⟩) (Kd.R_far (p := ⟨gb398, 1, none⟩) (Kd.R_far (p := ⟨gb398, 0, none⟩) (Kd.R_types HO382.out BK398.out (by decide)) (fun _ hk => hk.2) (.slice Ao80 t388.length co80)) (fun _ hk => hk.2) (.slice Ao87 t391.length co87)) (fun _ hk => hk.2) (.slice Ao88 t394.length co88)) (fun _ hk => ⟨hk.1.1, ⟨hk.1.2.1, ⟨hk.1.2.2.1, ⟨hk.1.2.2.2.1, hk.1.2.2.2.2⟩⟩⟩⟩)⟩
                    have n12_ : Aside0 (Kd.N k46 46 (((w79.setCell ⟨gb398, 0, none⟩ (.slice Ao80 t388.length co80)).setCell ⟨gb398, 1, none⟩ (.slice Ao87 t391.length co87)).setCell ⟨gb398, 2, none⟩ (.slice Ao88 t394.length co88)) w.heap.size (fun k_ => ((P0_0_ k_ ∨ P0_1_ k_ ∨ P0_2_ k_ ∨ P1_2_ k_) ∨ w.heap.size ≤ k_) ∧ some k_ ≠ (.slice Ao46 t355.length co46 : Value).ownBlock ∧ some k_ ≠ (.slice Ao50 t358.length co50 : Value).ownBlock ∧ some k_ ≠ (.slice Ao51 t361.length co51 : Value).ownBlock ∧ some k_ ≠ (.slice Ao57 t366.length co57 : Value).ownBlock ∧ some k_ ≠ (.slice Ao63 t372.length co63 : Value).ownBlock ∧ some k_ ≠ (.slice Ao68 t377.length co68 : Value).ownBlock ∧ some k_ ≠ (.slice Ao74 t380.length co74 : Value).ownBlock ∧ some k_ ≠ (.slice Ao88 t394.length co88 : Value).ownBlock ∧ k_ ≠ gb347 ∧ k_ ≠ gb348 ∧ k_ ≠ gb365 ∧ k_ ≠ gb376 ∧ k_ ≠ gb387 ∧ k_ ≠ gb398) (.slice Ao75 t383.length co75) t383) := ⟨by (with_reducible repeat (first | apply Kd.N_alloc | apply Kd.N_drewN | apply Kd.N_drew)); exact Kd.N_mono (Kd.N_far (p := ⟨gb398, 2, none⟩) (Kd.N_far (p := ⟨gb398, 1, none⟩) (Kd.N_far (p := ⟨gb398, 0, none⟩) (Kd.N_mono HO385.out (fun k_ hk => (⟨hk, hk.2⟩ : _ ∧ k_ ≠ gb398))) (fun _ hk => hk.2) (.slice Ao80 t388.length co80)) (fun _ hk => hk.2) (.slice Ao87 t391.length co87)) (fun _ hk => hk.2) (.slice Ao88 t394.length co88)) (fun _ hk => ⟨hk.1.1.1.1, ⟨hk.1.1.1.2.1, ⟨hk.1.1.1.2.2.1, ⟨hk.1.1.1.2.2.2.1, ⟨hk.1.1.1.2.2.2.2.1, ⟨hk.1.1.1.2.2.2.2.2.1, ⟨hk.1.1.1.2.2.2.2.2.2.1, ⟨hk.1.1.1.2.2.2.2.2.2.2.1, ⟨hk.1.1.2, ⟨hk.1.1.1.2.2.2.2.2.2.2.2.1, ⟨hk.1.1.1.2.2.2.2.2.2.2.2.2.1, ⟨hk.1.1.1.2.2.2.2.2.2.2.2.2.2.1, ⟨hk.1.1.1.2.2.2.2.2.2.2.2.2.2.2.1, ⟨hk.1.1.1.2.2.2.2.2.2.2.2.2.2.2.2, hk.1.2⟩⟩⟩⟩⟩⟩⟩⟩⟩⟩⟩⟩⟩⟩)⟩
                    have n13_ : Aside0 (Kd.V (Kd.int .u8) 5 (((w79.setCell ⟨gb398, 0, none⟩ (.slice Ao80 t388.length co80)).setCell ⟨gb398, 1, none⟩ (.slice Ao87 t391.length co87)).setCell ⟨gb398, 2, none⟩ (.slice Ao88 t394.length co88)) w.heap.size (fun k_ => ((P0_0_ k_ ∨ P0_1_ k_ ∨ P0_2_ k_ ∨ P1_2_ k_) ∨ w.heap.size ≤ k_) ∧ some k_ ≠ (.slice Ao46 t355.length co46 : Value).ownBlock ∧ some k_ ≠ (.slice Ao50 t358.length co50 : Value).ownBlock ∧ some k_ ≠ (.slice Ao51 t361.length co51 : Value).ownBlock ∧ some k_ ≠ (.slice Ao57 t366.length co57 : Value).ownBlock ∧ some k_ ≠ (.slice Ao63 t372.length co63 : Value).ownBlock ∧ some k_ ≠ (.slice Ao68 t377.length co68 : Value).ownBlock ∧ some k_ ≠ (.slice Ao74 t380.length co74 : Value).ownBlock ∧ some k_ ≠ (.slice Ao75 t383.length co75 : Value).ownBlock ∧ some k_ ≠ (.slice Ao88 t394.length co88 : Value).ownBlock ∧ k_ ≠ gb347 ∧ k_ ≠ gb348 ∧ k_ ≠ gb365 ∧ k_ ≠ gb376 ∧ k_ ≠ gb387 ∧ k_ ≠ gb398) (.slice Ao80 t388.length co80) t388) := ⟨by (with_reducible repeat (first | apply Kd.V_alloc | apply Kd.V_drewN | apply Kd.V_drew)); exact Kd.V_mono (Kd.V_far (p := ⟨gb398, 2, none⟩) (Kd.V_far (p := ⟨gb398, 1, none⟩) (Kd.V_far (p := ⟨gb398, 0, none⟩) (Kd.V_mono HO390.out (fun k_ hk => (⟨hk, hk.2⟩ : _ ∧ k_ ≠ gb398))) (fun _ hk => hk.2) (.slice Ao80 t388.length co80)) (fun _ hk => hk.2) (.slice Ao87 t391.length co87)) (fun _ hk => hk.2) (.slice Ao88 t394.length co88)) (fun _ hk => ⟨hk.1.1.1, ⟨hk.1.1.2.2.1, ⟨hk.1.1.2.2.2.1, ⟨hk.1.1.2.2.2.2.1, ⟨hk.1.1.2.2.2.2.2.1, ⟨hk.1.1.2.2.2.2.2.2.1, ⟨hk.1.1.2.2.2.2.2.2.2.1, ⟨hk.1.1.2.2.2.2.2.2.2.2.1, ⟨hk.1.1.2.2.2.2.2.2.2.2.2.1, ⟨hk.1.1.2.1, ⟨hk.1.1.2.2.2.2.2.2.2.2.2.2.1, ⟨hk.1.1.2.2.2.2.2.2.2.2.2.2.2.1, ⟨hk.1.1.2.2.2.2.2.2.2.2.2.2.2.2.1, ⟨hk.1.1.2.2.2.2.2.2.2.2.2.2.2.2.2.1, ⟨hk.1.1.2.2.2.2.2.2.2.2.2.2.2.2.2.2, hk.1.2⟩⟩⟩⟩⟩⟩⟩⟩⟩⟩⟩⟩⟩⟩⟩)⟩
                    have n14_ : Aside0 (Kd.V (Kd.int .u8) 5 (((w79.setCell ⟨gb398, 0, none⟩ (.slice Ao80 t388.length co80)).setCell ⟨gb398, 1, none⟩ (.slice Ao87 t391.length co87)).setCell ⟨gb398, 2, none⟩ (.slice Ao88 t394.length co88)) w.heap.size (fun k_ => ((P0_0_ k_ ∨ P0_1_ k_ ∨ P0_2_ k_ ∨ P1_2_ k_) ∨ w.heap.size ≤ k_) ∧ some k_ ≠ (.slice Ao46 t355.length co46 : Value).ownBlock ∧ some k_ ≠ (.slice Ao50 t358.length co50 : Value).ownBlock ∧ some k_ ≠ (.slice Ao51 t361.length co51 : Value).ownBlock ∧ some k_ ≠ (.slice Ao57 t366.length co57 : Value).ownBlock ∧ some k_ ≠ (.slice Ao63 t372.length co63 : Value).ownBlock ∧ some k_ ≠ (.slice Ao68 t377.length co68 : Value).ownBlock ∧ some k_ ≠ (.slice Ao74 t380.length co74 : Value).ownBlock ∧ some k_ ≠ (.slice Ao75 t383.length co75 : Value).ownBlock ∧ some k_ ≠ (.slice Ao88 t394.length co88 : Value).ownBlock ∧ k_ ≠ gb347 ∧ k_ ≠ gb348 ∧ k_ ≠ gb365 ∧ k_ ≠ gb376 ∧ k_ ≠ gb387 ∧ k_ ≠ gb398) (.slice Ao87 t391.length co87) t391) := ⟨by (with_reducible repeat (first | apply Kd.V_alloc | apply Kd.V_drewN | apply Kd.V_drew)); exact Kd.V_mono (Kd.V_far (p := ⟨gb398, 2, none⟩) (Kd.V_far (p := ⟨gb398, 1, none⟩) (Kd.V_far (p := ⟨gb398, 0, none⟩) (Kd.V_mono HO393.out (fun k_ hk => (⟨hk, hk.2⟩ : _ ∧ k_ ≠ gb398))) (fun _ hk => hk.2) (.slice Ao80 t388.length co80)) (fun _ hk => hk.2) (.slice Ao87 t391.length co87)) (fun _ hk => hk.2) (.slice Ao88 t394.length co88)) (fun _ hk => ⟨hk.1.1.1, ⟨hk.1.1.2.2.1, ⟨hk.1.1.2.2.2.1, ⟨hk.1.1.2.2.2.2.1, ⟨hk.1.1.2.2.2.2.2.1, ⟨hk.1.1.2.2.2.2.2.2.1, ⟨hk.1.1.2.2.2.2.2.2.2.1, ⟨hk.1.1.2.2.2.2.2.2.2.2.1, ⟨hk.1.1.2.2.2.2.2.2.2.2.2.1, ⟨hk.1.1.2.1, ⟨hk.1.1.2.2.2.2.2.2.2.2.2.2.1, ⟨hk.1.1.2.2.2.2.2.2.2.2.2.2.2.1, ⟨hk.1.1.2.2.2.2.2.2.2.2.2.2.2.2.1, ⟨hk.1.1.2.2.2.2.2.2.2.2.2.2.2.2.2.1, ⟨hk.1.1.2.2.2.2.2.2.2.2.2.2.2.2.2.2, hk.1.2⟩⟩⟩⟩⟩⟩⟩⟩⟩⟩⟩⟩⟩⟩⟩)⟩
                    have n15_ : Aside0 (Kd.N k46 46 (((w79.setCell ⟨gb398, 0, none⟩ (.slice Ao80 t388.length co80)).setCell ⟨gb398, 1, none⟩ (.slice Ao87 t391.length co87)).setCell ⟨gb398, 2, none⟩ (.slice Ao88 t394.length co88)) w.heap.size (fun k_ => ((P0_0_ k_ ∨ P0_1_ k_ ∨ P0_2_ k_ ∨ P1_2_ k_) ∨ w.heap.size ≤ k_) ∧ some k_ ≠ (.slice Ao46 t355.length co46 : Value).ownBlock ∧ some k_ ≠ (.slice Ao50 t358.length co50 : Value).ownBlock ∧ some k_ ≠ (.slice Ao51 t361.length co51 : Value).ownBlock ∧ some k_ ≠ (.slice Ao57 t366.length co57 : Value).ownBlock ∧ some k_ ≠ (.slice Ao63 t372.length co63 : Value).ownBlock ∧ some k_ ≠ (.slice Ao68 t377.length co68 : Value).ownBlock ∧ some k_ ≠ (.slice Ao74 t380.length co74 : Value).ownBlock ∧ some k_ ≠ (.slice Ao75 t383.length co75 : Value).ownBlock ∧ k_ ≠ gb347 ∧ k_ ≠ gb348 ∧ k_ ≠ gb365 ∧ k_ ≠ gb376 ∧ k_ ≠ gb387 ∧ k_ ≠ gb398) (.slice Ao88 t394.length co88) t394) := ⟨by (with_reducible repeat (first | apply Kd.N_alloc | apply Kd.N_drewN | apply Kd.N_drew)); exact Kd.N_mono (Kd.N_far (p := ⟨gb398, 2, none⟩) (Kd.N_far (p := ⟨gb398, 1, none⟩) (Kd.N_far (p := ⟨gb398, 0, none⟩) (Kd.N_mono HO396.out (fun k_ hk => (⟨hk, hk.2⟩ : _ ∧ k_ ≠ gb398))) (fun _ hk => hk.2) (.slice Ao80 t388.length co80)) (fun _ hk => hk.2) (.slice Ao87 t391.length co87)) (fun _ hk => hk.2) (.slice Ao88 t394.length co88)) (fun _ hk => ⟨hk.1.1.1, ⟨hk.1.1.2.1, ⟨hk.1.1.2.2.1, ⟨hk.1.1.2.2.2.1, ⟨hk.1.1.2.2.2.2.1, ⟨hk.1.1.2.2.2.2.2.1, ⟨hk.1.1.2.2.2.2.2.2.1, ⟨hk.1.1.2.2.2.2.2.2.2.1, ⟨hk.1.1.2.2.2.2.2.2.2.2.1, ⟨hk.1.1.2.2.2.2.2.2.2.2.2.1, ⟨hk.1.1.2.2.2.2.2.2.2.2.2.2.1, ⟨hk.1.1.2.2.2.2.2.2.2.2.2.2.2.1, ⟨hk.1.1.2.2.2.2.2.2.2.2.2.2.2.2.1, ⟨hk.1.1.2.2.2.2.2.2.2.2.2.2.2.2.2, hk.1.2⟩⟩⟩⟩⟩⟩⟩⟩⟩⟩⟩⟩⟩⟩)⟩
                    have n16_ : Aside0 ((((w79.setCell ⟨gb398, 0, none⟩ (.slice Ao80 t388.length co80)).setCell ⟨gb398, 1, none⟩ (.slice Ao87 t391.length co87)).setCell ⟨gb398, 2, none⟩ (.slice Ao88 t394.length co88)).heap[gb347]? = some (.cells #[.slice A0_0 l0_0.length c0_0, .slice A0_1 l0_1.length c0_1, .slice A0_2 l0_2.length c0_2] 76 (0, 0))) := ⟨by (with_reducible repeat (first | refine blk_drewN ?_ _ | refine blk_drew ?_ | refine blk_alloc ?_ _)); refine blk_far ?_ NB347_398.out _; (with_reducible repeat (first | refine blk_drewN ?_ _ | refine blk_drew ?_ | refine blk_alloc ?_ _)); refine blk_far ?_ NB347_398.out _; (with_reducible repeat (first | refine blk_drewN ?_ _ | refine blk_drew ?_ | refine blk_alloc ?_ _)); refine blk_far ?_ NB347_398.out _; (with_reducible repeat (first | refine blk_drewN ?_ _ | refine blk_drew ?_ | refine blk_alloc ?_ _)); exact BK347.out⟩
                    have n17_ : Aside0 ((((w79.setCell ⟨gb398, 0, none⟩ (.slice Ao80 t388.length co80)).setCell ⟨gb398, 1, none⟩ (.slice Ao87 t391.length co87)).setCell ⟨gb398, 2, none⟩ (.slice Ao88 t394.length co88)).heap[gb348]? = some (.cells #[.bool a1_0, .int .i64 a1_1, .slice A1_2 l1_2.length c1_2] 78 (0, 0))) := ⟨by (with_reducible repeat (first | refine blk_drewN ?_ _ | refine blk_drew ?_ | refine blk_alloc ?_ _)); refine blk_far ?_ NB348_398.out _; (with_reducible repeat (first | refine blk_drewN ?_ _ | refine blk_drew ?_ | refine blk_alloc ?_ _)); refine blk_far ?_ NB348_398.out _; (with_reducible repeat (first | refine blk_drewN ?_ _ | refine blk_drew ?_ | refine blk_alloc ?_ _)); refine blk_far ?_ NB348_398.out _; (with_reducible repeat (first | refine blk_drewN ?_ _ | refine blk_drew ?_ | refine blk_alloc ?_ _)); exact BK348.out⟩
                    have n18_ : Aside0 ((((w79.setCell ⟨gb398, 0, none⟩ (.slice Ao80 t388.length co80)).setCell ⟨gb398, 1, none⟩ (.slice Ao87 t391.length co87)).setCell ⟨gb398, 2, none⟩ (.slice Ao88 t394.length co88)).heap[gb365]? = some (.cells #[.slice Ao46 t355.length co46, .slice Ao50 t358.length co50, .slice Ao51 t361.length co51] 76 (0, 0))) := ⟨by (with_reducible repeat (first | refine blk_drewN ?_ _ | refine blk_drew ?_ | refine blk_alloc ?_ _)); refine blk_far ?_ NB365_398.out _; (with_reducible repeat (first | refine blk_drewN ?_ _ | refine blk_drew ?_ | refine blk_alloc ?_ _)); refine blk_far ?_ NB365_398.out _; (with_reducible repeat (first | refine blk_drewN ?_ _ | refine blk_drew ?_ | refine blk_alloc ?_ _)); refine blk_far ?_ NB365_398.out _; (with_reducible repeat (first | refine blk_drewN ?_ _ | refine blk_drew ?_ | refine blk_alloc ?_ _)); exact BK365.out⟩
                    have n19_ : Aside0 ((((w79.setCell ⟨gb398, 0, none⟩ (.slice Ao80 t388.length co80)).setCell ⟨gb398, 1, none⟩ (.slice Ao87 t391.length co87)).setCell ⟨gb398, 2, none⟩ (.slice Ao88 t394.length co88)).heap[gb376]? = some (.cells #[.slice Ao57 t366.length co57, .slice Ao62 t369.length co62, .slice Ao63 t372.length co63] 76 (0, 0))) := ⟨by (with_reducible repeat (first | refine blk_drewN ?_ _ | refine blk_drew ?_ | refine blk_alloc ?_ _)); refine blk_far ?_ NB376_398.out _; (with_reducible repeat (first | refine blk_drewN ?_ _ | refine blk_drew ?_ | refine blk_alloc ?_ _)); refine blk_far ?_ NB376_398.out _; (with_reducible repeat (first | refine blk_drewN ?_ _ | refine blk_drew ?_ | refine blk_alloc ?_ _)); refine blk_far ?_ NB376_398.out _; (with_reducible repeat (first | refine blk_drewN ?_ _ | refine blk_drew ?_ | refine blk_alloc ?_ _)); exact BK376.out⟩
                    have n20_ : Aside0 ((((w79.setCell ⟨gb398, 0, none⟩ (.slice Ao80 t388.length co80)).setCell ⟨gb398, 1, none⟩ (.slice Ao87 t391.length co87)).setCell ⟨gb398, 2, none⟩ (.slice Ao88 t394.length co88)).heap[gb387]? = some (.cells #[.slice Ao68 t377.length co68, .slice Ao74 t380.length co74, .slice Ao75 t383.length co75] 76 (0, 0))) := ⟨by (with_reducible repeat (first | refine blk_drewN ?_ _ | refine blk_drew ?_ | refine blk_alloc ?_ _)); refine blk_far ?_ NB387_398.out _; (with_reducible repeat (first | refine blk_drewN ?_ _ | refine blk_drew ?_ | refine blk_alloc ?_ _)); refine blk_far ?_ NB387_398.out _; (with_reducible repeat (first | refine blk_drewN ?_ _ | refine blk_drew ?_ | refine blk_alloc ?_ _)); refine blk_far ?_ NB387_398.out _; (with_reducible repeat (first | refine blk_drewN ?_ _ | refine blk_drew ?_ | refine blk_alloc ?_ _)); exact BK387.out⟩
                    have n21_ : Aside0 ((((w79.setCell ⟨gb398, 0, none⟩ (.slice Ao80 t388.length co80)).setCell ⟨gb398, 1, none⟩ (.slice Ao87 t391.length co87)).setCell ⟨gb398, 2, none⟩ (.slice Ao88 t394.length co88)).heap[gb398]? = some (.cells #[.slice Ao80 t388.length co80, .slice Ao87 t391.length co87, .slice Ao88 t394.length co88] 76 (0, 0))) := ⟨by (with_reducible repeat (first | refine blk_drewN ?_ _ | refine blk_drew ?_ | refine blk_alloc ?_ _)); refine blk_put (cs := #[.slice Ao80 t388.length co80, .slice Ao87 t391.length co87, .slice none 0 0]) ?_ 2 _ rfl; (with_reducible repeat (first | refine blk_drewN ?_ _ | refine blk_drew ?_ | refine blk_alloc ?_ _)); refine blk_put (cs := #[.slice Ao80 t388.length co80, .slice none 0 0, .slice none 0 0]) ?_ 1 _ rfl; (with_reducible repeat (first | refine blk_drewN ?_ _ | refine blk_drew ?_ | refine blk_alloc ?_ _)); refine blk_put (cs := #[.slice none 0 0, .slice none 0 0, .slice none 0 0]) ?_ 0 _ rfl; (with_reducible repeat (first | refine blk_drewN ?_ _ | refine blk_drew ?_ | refine blk_alloc ?_ _)); exact BK398.out⟩
                    have n22_ : Aside0 (Below w.heap.size w (((w79.setCell ⟨gb398, 0, none⟩ (.slice Ao80 t388.length co80)).setCell ⟨gb398, 1, none⟩ (.slice Ao87 t391.length co87)).setCell ⟨gb398, 2, none⟩ (.slice Ao88 t394.length co88))) := ⟨by repeat (first | (with_reducible first | exact HB.out | apply below_alloc | apply pw_below_drewN | apply below_drew1 | refine below_set ?_ GE347.out | refine below_set ?_ GE348.out | refine below_set ?_ GE365.out | refine below_set ?_ GE376.out | refine below_set ?_ GE387.out | refine below_set ?_ GE398.out) | exact HB.out)⟩
                    (try clear HO_348000)
                    (try clear HO_348001)
                    (try clear HO_348002)
                    (try clear HO_349002)
                    (try clear HO357)
                    (try clear HO360)
                    (try clear HO363)
                    (try clear HO368)
                    (try clear HO371)
                    (try clear HO374)
                    (try clear HO379)
                    (try clear HO382)
                    (try clear HO385)
                    (try clear HO390)
                    (try clear HO393)
                    (try clear HO396)
                    (try clear BK347)
                    (try clear BK348)
                    (try clear BK365)
                    (try clear BK376)
                    (try clear BK387)
                    (try clear BK398)
                    (try clear HB)
                    generalize (((w79.setCell ⟨gb398, 0, none⟩ (.slice Ao80 t388.length co80)).setCell ⟨gb398, 1, none⟩ (.slice Ao87 t391.length co87)).setCell ⟨gb398, 2, none⟩ (.slice Ao88 t394.length co88)) = w89 at n0_ n1_ n2_ n3_ n4_ n5_ n6_ n7_ n8_ n9_ n10_ n11_ n12_ n13_ n14_ n15_ n16_ n17_ n18_ n19_ n20_ n21_ n22_ ⊢
                    have HO_348000 := n0_
                    have HO_348001 := n1_
                    have HO_348002 := n2_
                    have HO_349002 := n3_
                    have HO357 := n4_
                    have HO360 := n5_
                    have HO363 := n6_
                    have HO368 := n7_
                    have HO371 := n8_
                    have HO374 := n9_
                    have HO379 := n10_
                    have HO382 := n11_
                    have HO385 := n12_
                    have HO390 := n13_
                    have HO393 := n14_
                    have HO396 := n15_
                    have BK347 := n16_
                    have BK348 := n17_
                    have BK365 := n18_
                    have BK376 := n19_
                    have BK387 := n20_
                    have BK398 := n21_
                    have HB := n22_
                    clear n0_ n1_ n2_ n3_ n4_ n5_ n6_ n7_ n8_ n9_ n10_ n11_ n12_ n13_ n14_ n15_ n16_ n17_ n18_ n19_ n20_ n21_ n22_
                    have n0_ := Aside0.mk (Kd.V_drew HO_348000.out)
                    have n1_ := Aside0.mk (Kd.V_drew HO_348001.out)
                    have n2_ := Aside0.mk (Kd.V_drew HO_348002.out)
                    have n3_ := Aside0.mk (Kd.V_drew HO_349002.out)
                    have n4_ := Aside0.mk (Kd.R_drew HO357.out)
                    have n5_ := Aside0.mk (Kd.R_drew HO360.out)
                    have n6_ := Aside0.mk (Kd.N_drew HO363.out)
                    have n7_ := Aside0.mk (Kd.R_drew HO368.out)
                    have n8_ := Aside0.mk (Kd.V_drew HO371.out)
                    have n9_ := Aside0.mk (Kd.N_drew HO374.out)
                    have n10_ := Aside0.mk (Kd.R_drew HO379.out)
                    have n11_ := Aside0.mk (Kd.R_drew HO382.out)
                    have n12_ := Aside0.mk (Kd.N_drew HO385.out)
                    have n13_ := Aside0.mk (Kd.V_drew HO390.out)
                    have n14_ := Aside0.mk (Kd.V_drew HO393.out)
                    have n15_ := Aside0.mk (Kd.N_drew HO396.out)
                    have n16_ := Aside0.mk (blk_drew BK347.out)
                    have n17_ := Aside0.mk (blk_drew BK348.out)
                    have n18_ := Aside0.mk (blk_drew BK365.out)
                    have n19_ := Aside0.mk (blk_drew BK376.out)
                    have n20_ := Aside0.mk (blk_drew BK387.out)
                    have n21_ := Aside0.mk (blk_drew BK398.out)
                    try (have HBd_ := Aside0.mk (below_drew1 (pw_below_drewN HB.out nd)))
                    have n22_ := Aside0.mk (below_drew1 HB.out)
                    clear HO_348000
                    clear HO_348001
                    clear HO_348002
                    clear HO_349002
                    clear HO357
                    clear HO360
                    clear HO363
                    clear HO368
                    clear HO371
                    clear HO374
                    clear HO379
                    clear HO382
                    clear HO385
                    clear HO390
                    clear HO393
                    clear HO396
                    clear BK347
                    clear BK348
                    clear BK365
                    clear BK376
                    clear BK387
                    clear BK398
                    clear HB
                    have HO_348000 := n0_
                    have HO_348001 := n1_
                    have HO_348002 := n2_
                    have HO_349002 := n3_
                    have HO357 := n4_
                    have HO360 := n5_
                    have HO363 := n6_
                    have HO368 := n7_
                    have HO371 := n8_
                    have HO374 := n9_
                    have HO379 := n10_
                    have HO382 := n11_
                    have HO385 := n12_
                    have HO390 := n13_
                    have HO393 := n14_
                    have HO396 := n15_
                    have BK347 := n16_
                    have BK348 := n17_
                    have BK365 := n18_
                    have BK376 := n19_
                    have BK387 := n20_
                    have BK398 := n21_
                    have HB := n22_
                    clear n0_ n1_ n2_ n3_ n4_ n5_ n6_ n7_ n8_ n9_ n10_ n11_ n12_ n13_ n14_ n15_ n16_ n17_ n18_ n19_ n20_ n21_ n22_
                    refine start_ (n := 36) (S := fun w' => w'.cell? ⟨gb347, 0, none⟩ = some (.slice A0_0 l0_0.length c0_0) ∧ w'.cell? ⟨gb347, 1, none⟩ = some (.slice A0_1 l0_1.length c0_1) ∧ w'.cell? ⟨gb347, 2, none⟩ = some (.slice A0_2 l0_2.length c0_2) ∧ w'.cell? ⟨gb365, 0, none⟩ = some (.slice Ao46 t355.length co46) ∧ w'.cell? ⟨gb365, 1, none⟩ = some (.slice Ao50 t358.length co50) ∧ w'.cell? ⟨gb365, 2, none⟩ = some (.slice Ao51 t361.length co51) ∧ w'.cell? ⟨gb376, 0, none⟩ = some (.slice Ao57 t366.length co57) ∧ w'.cell? ⟨gb376, 1, none⟩ = some (.slice Ao62 t369.length co62) ∧ w'.cell? ⟨gb376, 2, none⟩ = some (.slice Ao63 t372.length co63) ∧ w'.cell? ⟨gb387, 0, none⟩ = some (.slice Ao68 t377.length co68) ∧ w'.cell? ⟨gb387, 1, none⟩ = some (.slice Ao74 t380.length co74) ∧ w'.cell? ⟨gb387, 2, none⟩ = some (.slice Ao75 t383.length co75) ∧ w'.cell? ⟨gb398, 0, none⟩ = some (.slice Ao80 t388.length co80) ∧ w'.cell? ⟨gb398, 1, none⟩ = some (.slice Ao87 t391.length co87) ∧ w'.cell? ⟨gb398, 2, none⟩ = some (.slice Ao88 t394.length co88)) (ds := []) #[false, false, false, false, false, false, false, false, false, false, false, false, false, false, false, false, false, false, false, false, false, false, false, false, false, false, false, false, false, false, false, false, false, false, false, false] (by kernel_rfl) rfl rfl ⟨(blk_cell BK347.out 0).trans rfl, (blk_cell BK347.out 1).trans rfl, (blk_cell BK347.out 2).trans rfl, (blk_cell BK365.out 0).trans rfl, (blk_cell BK365.out 1).trans rfl, (blk_cell BK365.out 2).trans rfl, (blk_cell BK376.out 0).trans rfl, (blk_cell BK376.out 1).trans rfl, (blk_cell BK376.out 2).trans rfl, (blk_cell BK387.out 0).trans rfl, (blk_cell BK387.out 1).trans rfl, (blk_cell BK387.out 2).trans rfl, (blk_cell BK398.out 0).trans rfl, (blk_cell BK398.out 1).trans rfl, (blk_cell BK398.out 2).trans rfl⟩ (fun hHeld => ?_); refine with_tabW newsreellaw09_FileTells.tab7 newsreellaw09_FileTells.bits7 (fun HT_ HW_ => ?_)
                    generalize w89.drew = w90 at HO_348000 HO_348001 HO_348002 HO_349002 HO357 HO360 HO363 HO368 HO371 HO374 HO379 HO382 HO385 HO390 HO393 HO396 BK347 BK348 BK365 BK376 BK387 BK398 HB hHeld ⊢
                    refine take_ (i := 0) (N := some 55) (v := ?_) (a' := ?_) #[true, false, false, false, false, false, false, false, false, false, false, false, false, false, false, false, false, false, false, false, false, false, false, false, false, false, false, false, false, false, false, false, false, false, false, false] rfl rfl (take_ofW HT_.out HW_.out (by kernel_rfl)) (fun _ _ _ h => h) (Or.inl ⟨by rfl, ?_⟩) hHeld ?_ ?_
                    rotate_left
                    · rintro w' ⟨s0, s1, s2, s3, s4, s5, s6, s7, s8, s9, s10, s11, s12, s13, s14⟩
                      go_simp
                      with_reducible rfl
                    rotate_left
                    · simp only [Act.put, List.setIfInBounds_toArray, List.set_cons_zero, List.set_cons_succ, i64_w, i32_w]
                      rfl
                    refine take_ (i := 2) (N := some 57) (v := ?_) (a' := ?_) #[true, false, true, false, false, false, false, false, false, false, false, false, false, false, false, false, false, false, false, false, false, false, false, false, false, false, false, false, false, false, false, false, false, false, false, false] rfl rfl (take_ofW HT_.out HW_.out (by kernel_rfl)) (fun _ _ _ h => h) (Or.inl ⟨by rfl, ?_⟩) hHeld ?_ ?_
                    rotate_left
                    · rintro w' ⟨s0, s1, s2, s3, s4, s5, s6, s7, s8, s9, s10, s11, s12, s13, s14⟩
                      go_simp
                      with_reducible rfl
                    rotate_left
                    · simp only [Act.put, List.setIfInBounds_toArray, List.set_cons_zero, List.set_cons_succ, i64_w, i32_w]
                      rfl
                    refine one_ (i := 1) (N := some 56) #[true, true, true, false, false, false, false, false, false, false, false, false, false, false, false, false, false, false, false, false, false, false, false, false, false, false, false, false, false, false, false, false, false, false, false, false] rfl rfl (one_of HT_.out (by kernel_rfl)) (by decide) (fun K hK => ?_)
                    refine goes_ Try.func56 (by kernel_rfl) rfl #[.agg #[.slice A0_0 l0_0.length c0_0, .slice A0_1 l0_1.length c0_1, .slice A0_2 l0_2.length c0_2]] (by rfl) rfl rfl (by (try simp only [List.map_toArray, List.map_cons, List.map_nil]); first | done | rfl | (simp only [List.length_drop, List.length_take]; rfl)) ?_
                    with_reducible refine (file_Right.calls kj3 _ _ l0_0 _ _ l0_1 _ _ l0_2 t399 _ ?side1 ?side2 ?side3 ?side4 ?side5 ?side6 A27.out).mono ?_
                    (case side1 => exact Kd.C_y (Kd.V_reads' HO_348000.out).2.2)
                    (case side2 => exact (Kd.V_reads' HO_348000.out).2.1)
                    (case side3 => exact Kd.C_y (Kd.V_reads' HO_348001.out).2.2)
                    (case side4 => exact (Kd.V_reads' HO_348001.out).2.1)
                    (case side5 => exact Kd.C_y (Kd.V_reads' HO_348002.out).2.2)
                    (case side6 => exact (Kd.V_reads' HO_348002.out).2.1)
                    rintro e w91 ⟨rfl, hb⟩
                    have hbk_w91 := Aside0.mk hb
                    refine ⟨_, rfl, ?_⟩
                    have n0_ := Aside0.mk (Kd.V_below (Kd.V_y HO_348000.out) hb)
                    have n1_ := Aside0.mk (Kd.V_below (Kd.V_y HO_348001.out) hb)
                    have n2_ := Aside0.mk (Kd.V_below (Kd.V_y HO_348002.out) hb)
                    have n3_ := Aside0.mk (Kd.V_below (Kd.V_y HO_349002.out) hb)
                    have n4_ := Aside0.mk (Kd.R_below (Kd.R_y HO357.out) hb)
                    have n5_ := Aside0.mk (Kd.R_below (Kd.R_y HO360.out) hb)
                    have n6_ := Aside0.mk (Kd.N_below (Kd.N_y HO363.out) hb)
                    have n7_ := Aside0.mk (Kd.R_below (Kd.R_y HO368.out) hb)
                    have n8_ := Aside0.mk (Kd.V_below (Kd.V_y HO371.out) hb)
                    have n9_ := Aside0.mk (Kd.N_below (Kd.N_y HO374.out) hb)
                    have n10_ := Aside0.mk (Kd.R_below (Kd.R_y HO379.out) hb)
                    have n11_ := Aside0.mk (Kd.R_below (Kd.R_y HO382.out) hb)
                    have n12_ := Aside0.mk (Kd.N_below (Kd.N_y HO385.out) hb)
                    have n13_ := Aside0.mk (Kd.V_below (Kd.V_y HO390.out) hb)
                    have n14_ := Aside0.mk (Kd.V_below (Kd.V_y HO393.out) hb)
                    have n15_ := Aside0.mk (Kd.N_below (Kd.N_y HO396.out) hb)
                    have n16_ := Aside0.mk (blk_below (g := gb347) (o := .cells #[.slice A0_0 l0_0.length c0_0, .slice A0_1 l0_1.length c0_1, .slice A0_2 l0_2.length c0_2] 76 (0, 0)) (blk_y BK347.out) hb)
                    have n17_ := Aside0.mk (blk_below (g := gb348) (o := .cells #[.bool a1_0, .int .i64 a1_1, .slice A1_2 l1_2.length c1_2] 78 (0, 0)) (blk_y BK348.out) hb)
                    have n18_ := Aside0.mk (blk_below (g := gb365) (o := .cells #[.slice Ao46 t355.length co46, .slice Ao50 t358.length co50, .slice Ao51 t361.length co51] 76 (0, 0)) (blk_y BK365.out) hb)
                    have n19_ := Aside0.mk (blk_below (g := gb376) (o := .cells #[.slice Ao57 t366.length co57, .slice Ao62 t369.length co62, .slice Ao63 t372.length co63] 76 (0, 0)) (blk_y BK376.out) hb)
                    have n20_ := Aside0.mk (blk_below (g := gb387) (o := .cells #[.slice Ao68 t377.length co68, .slice Ao74 t380.length co74, .slice Ao75 t383.length co75] 76 (0, 0)) (blk_y BK387.out) hb)
                    have n21_ := Aside0.mk (blk_below (g := gb398) (o := .cells #[.slice Ao80 t388.length co80, .slice Ao87 t391.length co87, .slice Ao88 t394.length co88] 76 (0, 0)) (blk_y BK398.out) hb)
                    have n22_ := Aside0.mk (below_step (below_y HB.out) hb)
                    clear HO_348000
                    clear HO_348001
                    clear HO_348002
                    clear HO_349002
                    clear HO357
                    clear HO360
                    clear HO363
                    clear HO368
                    clear HO371
                    clear HO374
                    clear HO379
                    clear HO382
                    clear HO385
                    clear HO390
                    clear HO393
                    clear HO396
                    clear BK347
                    clear BK348
                    clear BK365
                    clear BK376
                    clear BK387
                    clear BK398
                    clear HB
                    have HO_348000 := n0_
                    have HO_348001 := n1_
                    have HO_348002 := n2_
                    have HO_349002 := n3_
                    have HO357 := n4_
                    have HO360 := n5_
                    have HO363 := n6_
                    have HO368 := n7_
                    have HO371 := n8_
                    have HO374 := n9_
                    have HO379 := n10_
                    have HO382 := n11_
                    have HO385 := n12_
                    have HO390 := n13_
                    have HO393 := n14_
                    have HO396 := n15_
                    have BK347 := n16_
                    have BK348 := n17_
                    have BK365 := n18_
                    have BK376 := n19_
                    have BK387 := n20_
                    have BK398 := n21_
                    have HB := n22_
                    clear n0_ n1_ n2_ n3_ n4_ n5_ n6_ n7_ n8_ n9_ n10_ n11_ n12_ n13_ n14_ n15_ n16_ n17_ n18_ n19_ n20_ n21_ n22_
                    (try clear hb)
                    (try clear hb2)
                    (try clear hk)
                    (try clear hi)
                    refine hK.out _ _ ⟨(blk_cell BK347.out 0).trans rfl, (blk_cell BK347.out 1).trans rfl, (blk_cell BK347.out 2).trans rfl, (blk_cell BK365.out 0).trans rfl, (blk_cell BK365.out 1).trans rfl, (blk_cell BK365.out 2).trans rfl, (blk_cell BK376.out 0).trans rfl, (blk_cell BK376.out 1).trans rfl, (blk_cell BK376.out 2).trans rfl, (blk_cell BK387.out 0).trans rfl, (blk_cell BK387.out 1).trans rfl, (blk_cell BK387.out 2).trans rfl, (blk_cell BK398.out 0).trans rfl, (blk_cell BK398.out 1).trans rfl, (blk_cell BK398.out 2).trans rfl⟩ (fun hHeld => ?_)
                    clear hK K
                    refine norm_ (a' := ?_) ?_ ?_
                    rotate_left
                    · show Act.put _ (some 56) _ = _
                      simp only [Act.put, List.setIfInBounds_toArray, List.set_cons_zero, List.set_cons_succ, i64_w, i32_w]
                      rfl
                    refine one_ (i := 3) (N := some 58) #[true, true, true, true, false, false, false, false, false, false, false, false, false, false, false, false, false, false, false, false, false, false, false, false, false, false, false, false, false, false, false, false, false, false, false, false] rfl rfl (one_of HT_.out (by kernel_rfl)) (by decide) (fun K hK => ?_)
                    refine goes_ Try.func57 (by kernel_rfl) rfl #[.agg #[.slice A0_0 l0_0.length c0_0, .slice A0_1 l0_1.length c0_1, .slice A0_2 l0_2.length c0_2]] (by rfl) rfl rfl (by (try simp only [List.map_toArray, List.map_cons, List.map_nil]); first | done | rfl | (simp only [List.length_drop, List.length_take]; rfl)) ?_
                    with_reducible refine (newsreelref09_Right.calls kj3 _ _ l0_0 _ _ l0_1 _ _ l0_2 t400 _ ?side1 ?side2 ?side3 ?side4 ?side5 ?side6 A28.out).mono ?_
                    (case side1 => exact Kd.C_y (Kd.V_reads' HO_348000.out).2.2)
                    (case side2 => exact (Kd.V_reads' HO_348000.out).2.1)
                    (case side3 => exact Kd.C_y (Kd.V_reads' HO_348001.out).2.2)
                    (case side4 => exact (Kd.V_reads' HO_348001.out).2.1)
                    (case side5 => exact Kd.C_y (Kd.V_reads' HO_348002.out).2.2)
                    (case side6 => exact (Kd.V_reads' HO_348002.out).2.1)
                    rintro e w92 ⟨rfl, hb⟩
                    have hbk_w92 := Aside0.mk hb
                    refine ⟨_, rfl, ?_⟩
                    have n0_ := Aside0.mk (Kd.V_below (Kd.V_y HO_348000.out) hb)
                    have n1_ := Aside0.mk (Kd.V_below (Kd.V_y HO_348001.out) hb)
                    have n2_ := Aside0.mk (Kd.V_below (Kd.V_y HO_348002.out) hb)
                    have n3_ := Aside0.mk (Kd.V_below (Kd.V_y HO_349002.out) hb)
                    have n4_ := Aside0.mk (Kd.R_below (Kd.R_y HO357.out) hb)
                    have n5_ := Aside0.mk (Kd.R_below (Kd.R_y HO360.out) hb)
                    have n6_ := Aside0.mk (Kd.N_below (Kd.N_y HO363.out) hb)
                    have n7_ := Aside0.mk (Kd.R_below (Kd.R_y HO368.out) hb)
                    have n8_ := Aside0.mk (Kd.V_below (Kd.V_y HO371.out) hb)
                    have n9_ := Aside0.mk (Kd.N_below (Kd.N_y HO374.out) hb)
                    have n10_ := Aside0.mk (Kd.R_below (Kd.R_y HO379.out) hb)
                    have n11_ := Aside0.mk (Kd.R_below (Kd.R_y HO382.out) hb)
                    have n12_ := Aside0.mk (Kd.N_below (Kd.N_y HO385.out) hb)
                    have n13_ := Aside0.mk (Kd.V_below (Kd.V_y HO390.out) hb)
                    have n14_ := Aside0.mk (Kd.V_below (Kd.V_y HO393.out) hb)
                    have n15_ := Aside0.mk (Kd.N_below (Kd.N_y HO396.out) hb)
                    have n16_ := Aside0.mk (blk_below (g := gb347) (o := .cells #[.slice A0_0 l0_0.length c0_0, .slice A0_1 l0_1.length c0_1, .slice A0_2 l0_2.length c0_2] 76 (0, 0)) (blk_y BK347.out) hb)
                    have n17_ := Aside0.mk (blk_below (g := gb348) (o := .cells #[.bool a1_0, .int .i64 a1_1, .slice A1_2 l1_2.length c1_2] 78 (0, 0)) (blk_y BK348.out) hb)
                    have n18_ := Aside0.mk (blk_below (g := gb365) (o := .cells #[.slice Ao46 t355.length co46, .slice Ao50 t358.length co50, .slice Ao51 t361.length co51] 76 (0, 0)) (blk_y BK365.out) hb)
                    have n19_ := Aside0.mk (blk_below (g := gb376) (o := .cells #[.slice Ao57 t366.length co57, .slice Ao62 t369.length co62, .slice Ao63 t372.length co63] 76 (0, 0)) (blk_y BK376.out) hb)
                    have n20_ := Aside0.mk (blk_below (g := gb387) (o := .cells #[.slice Ao68 t377.length co68, .slice Ao74 t380.length co74, .slice Ao75 t383.length co75] 76 (0, 0)) (blk_y BK387.out) hb)
                    have n21_ := Aside0.mk (blk_below (g := gb398) (o := .cells #[.slice Ao80 t388.length co80, .slice Ao87 t391.length co87, .slice Ao88 t394.length co88] 76 (0, 0)) (blk_y BK398.out) hb)
                    have n22_ := Aside0.mk (below_step (below_y HB.out) hb)
                    clear HO_348000
                    clear HO_348001
                    clear HO_348002
                    clear HO_349002
                    clear HO357
                    clear HO360
                    clear HO363
                    clear HO368
                    clear HO371
                    clear HO374
                    clear HO379
                    clear HO382
                    clear HO385
                    clear HO390
                    clear HO393
                    clear HO396
                    clear BK347
                    clear BK348
                    clear BK365
                    clear BK376
                    clear BK387
                    clear BK398
                    clear HB
                    have HO_348000 := n0_
                    have HO_348001 := n1_
                    have HO_348002 := n2_
                    have HO_349002 := n3_
                    have HO357 := n4_
                    have HO360 := n5_
                    have HO363 := n6_
                    have HO368 := n7_
                    have HO371 := n8_
                    have HO374 := n9_
                    have HO379 := n10_
                    have HO382 := n11_
                    have HO385 := n12_
                    have HO390 := n13_
                    have HO393 := n14_
                    have HO396 := n15_
                    have BK347 := n16_
                    have BK348 := n17_
                    have BK365 := n18_
                    have BK376 := n19_
                    have BK387 := n20_
                    have BK398 := n21_
                    have HB := n22_
                    clear n0_ n1_ n2_ n3_ n4_ n5_ n6_ n7_ n8_ n9_ n10_ n11_ n12_ n13_ n14_ n15_ n16_ n17_ n18_ n19_ n20_ n21_ n22_
                    (try clear hb)
                    (try clear hb2)
                    (try clear hk)
                    (try clear hi)
                    refine hK.out _ _ ⟨(blk_cell BK347.out 0).trans rfl, (blk_cell BK347.out 1).trans rfl, (blk_cell BK347.out 2).trans rfl, (blk_cell BK365.out 0).trans rfl, (blk_cell BK365.out 1).trans rfl, (blk_cell BK365.out 2).trans rfl, (blk_cell BK376.out 0).trans rfl, (blk_cell BK376.out 1).trans rfl, (blk_cell BK376.out 2).trans rfl, (blk_cell BK387.out 0).trans rfl, (blk_cell BK387.out 1).trans rfl, (blk_cell BK387.out 2).trans rfl, (blk_cell BK398.out 0).trans rfl, (blk_cell BK398.out 1).trans rfl, (blk_cell BK398.out 2).trans rfl⟩ (fun hHeld => ?_)
                    clear hK K
                    refine norm_ (a' := ?_) ?_ ?_
                    rotate_left
                    · show Act.put _ (some 58) _ = _
                      simp only [Act.put, List.setIfInBounds_toArray, List.set_cons_zero, List.set_cons_succ, i64_w, i32_w]
                      rfl
                    refine pure_ (i := 4) (N := some 59) (v := ?_) (a' := ?_) #[true, true, true, true, true, false, false, false, false, false, false, false, false, false, false, false, false, false, false, false, false, false, false, false, false, false, false, false, false, false, false, false, false, false, false, false] rfl rfl (any_of HT_.out (by kernel_rfl)) (fun _ _ _ h => h) (Or.inl ⟨by rfl, ?_⟩) ?_ ?_
                    rotate_left
                    · intro w'
                      go_simp
                      with_reducible rfl
                    rotate_left
                    · simp only [Act.put, List.setIfInBounds_toArray, List.set_cons_zero, List.set_cons_succ, i64_w, i32_w]
                      rfl
                    refine pure_ (i := 5) (N := some 60) (v := ?_) (a' := ?_) #[true, true, true, true, true, true, false, false, false, false, false, false, false, false, false, false, false, false, false, false, false, false, false, false, false, false, false, false, false, false, false, false, false, false, false, false] rfl rfl (any_of HT_.out (by kernel_rfl)) (fun _ _ _ h => h) (Or.inl ⟨by rfl, ?_⟩) ?_ ?_
                    rotate_left
                    · intro w'
                      go_simp
                      with_reducible rfl
                    rotate_left
                    · simp only [Act.put, List.setIfInBounds_toArray, List.set_cons_zero, List.set_cons_succ, i64_w, i32_w]
                      rfl
                    refine take_ (i := 6) (N := some 61) (v := ?_) (a' := ?_) #[true, true, true, true, true, true, true, false, false, false, false, false, false, false, false, false, false, false, false, false, false, false, false, false, false, false, false, false, false, false, false, false, false, false, false, false] rfl rfl (take_ofW HT_.out HW_.out (by kernel_rfl)) (fun _ _ _ h => h) (Or.inl ⟨by rfl, ?_⟩) hHeld ?_ ?_
                    rotate_left
                    · rintro w' ⟨s0, s1, s2, s3, s4, s5, s6, s7, s8, s9, s10, s11, s12, s13, s14⟩
                      go_simp
                      with_reducible rfl
                    rotate_left
                    · simp only [Act.put, List.setIfInBounds_toArray, List.set_cons_zero, List.set_cons_succ, i64_w, i32_w]
                      rfl
                    refine take_ (i := 7) (N := some 62) (v := ?_) (a' := ?_) #[true, true, true, true, true, true, true, true, false, false, false, false, false, false, false, false, false, false, false, false, false, false, false, false, false, false, false, false, false, false, false, false, false, false, false, false] rfl rfl (take_ofW HT_.out HW_.out (by kernel_rfl)) (fun _ _ _ h => h) (Or.inl ⟨by rfl, ?_⟩) hHeld ?_ ?_
                    rotate_left
                    · rintro w' ⟨s0, s1, s2, s3, s4, s5, s6, s7, s8, s9, s10, s11, s12, s13, s14⟩
                      go_simp
                      with_reducible rfl
                    rotate_left
                    · simp only [Act.put, List.setIfInBounds_toArray, List.set_cons_zero, List.set_cons_succ, i64_w, i32_w]
                      rfl
                    refine one_ (i := 8) (N := some 63) #[true, true, true, true, true, true, true, true, true, false, false, false, false, false, false, false, false, false, false, false, false, false, false, false, false, false, false, false, false, false, false, false, false, false, false, false] rfl rfl (one_of HT_.out (by kernel_rfl)) (by decide) (fun K hK => ?_)
                    refine goes_ Try.func58 (by kernel_rfl) rfl #[.agg #[.slice Ao46 t355.length co46, .slice Ao50 t358.length co50, .slice Ao51 t361.length co51], .agg #[.slice Ao57 t366.length co57, .slice Ao62 t369.length co62, .slice Ao63 t372.length co63]] (by rfl) rfl rfl (by (try simp only [List.map_toArray, List.map_cons, List.map_nil]); first | done | rfl | (simp only [List.length_drop, List.length_take]; rfl)) ?_
                    with_reducible refine (newsreelref09_Same.calls kj3 _ _ t355 _ _ t358 _ _ t361 _ _ t366 _ _ t369 _ _ t372 true _ ?side1 ?side2 ?side3 ?side4 ?side5 ?side6 ?side7 ?side8 ?side9 ?side10 ?side11 ?side12 A30.out).mono ?_
                    (case side1 => exact Kd.C_y (Kd.R_reads' HO357.out).2.2)
                    (case side2 => exact (Kd.R_reads' HO357.out).2.1)
                    (case side3 => exact Kd.C_y (Kd.R_reads' HO360.out).2.2)
                    (case side4 => exact (Kd.R_reads' HO360.out).2.1)
                    (case side5 => exact Kd.C_y (Kd.N_reads' HO363.out).2.2)
                    (case side6 => exact (Kd.N_reads' HO363.out).2.1)
                    (case side7 => exact Kd.C_y (Kd.R_reads' HO368.out).2.2)
                    (case side8 => exact (Kd.R_reads' HO368.out).2.1)
                    (case side9 => exact Kd.C_y (Kd.V_reads' HO371.out).2.2)
                    (case side10 => exact (Kd.V_reads' HO371.out).2.1)
                    (case side11 => exact Kd.C_y (Kd.N_reads' HO374.out).2.2)
                    (case side12 => exact (Kd.N_reads' HO374.out).2.1)
                    rintro e w93 ⟨rfl, hb⟩
                    have hbk_w93 := Aside0.mk hb
                    refine ⟨_, rfl, ?_⟩
                    have n0_ := Aside0.mk (Kd.V_below (Kd.V_y HO_348000.out) hb)
                    have n1_ := Aside0.mk (Kd.V_below (Kd.V_y HO_348001.out) hb)
                    have n2_ := Aside0.mk (Kd.V_below (Kd.V_y HO_348002.out) hb)
                    have n3_ := Aside0.mk (Kd.V_below (Kd.V_y HO_349002.out) hb)
                    have n4_ := Aside0.mk (Kd.R_below (Kd.R_y HO357.out) hb)
                    have n5_ := Aside0.mk (Kd.R_below (Kd.R_y HO360.out) hb)
                    have n6_ := Aside0.mk (Kd.N_below (Kd.N_y HO363.out) hb)
                    have n7_ := Aside0.mk (Kd.R_below (Kd.R_y HO368.out) hb)
                    have n8_ := Aside0.mk (Kd.V_below (Kd.V_y HO371.out) hb)
                    have n9_ := Aside0.mk (Kd.N_below (Kd.N_y HO374.out) hb)
                    have n10_ := Aside0.mk (Kd.R_below (Kd.R_y HO379.out) hb)
                    have n11_ := Aside0.mk (Kd.R_below (Kd.R_y HO382.out) hb)
                    have n12_ := Aside0.mk (Kd.N_below (Kd.N_y HO385.out) hb)
                    have n13_ := Aside0.mk (Kd.V_below (Kd.V_y HO390.out) hb)
                    have n14_ := Aside0.mk (Kd.V_below (Kd.V_y HO393.out) hb)
                    have n15_ := Aside0.mk (Kd.N_below (Kd.N_y HO396.out) hb)
                    have n16_ := Aside0.mk (blk_below (g := gb347) (o := .cells #[.slice A0_0 l0_0.length c0_0, .slice A0_1 l0_1.length c0_1, .slice A0_2 l0_2.length c0_2] 76 (0, 0)) (blk_y BK347.out) hb)
                    have n17_ := Aside0.mk (blk_below (g := gb348) (o := .cells #[.bool a1_0, .int .i64 a1_1, .slice A1_2 l1_2.length c1_2] 78 (0, 0)) (blk_y BK348.out) hb)
                    have n18_ := Aside0.mk (blk_below (g := gb365) (o := .cells #[.slice Ao46 t355.length co46, .slice Ao50 t358.length co50, .slice Ao51 t361.length co51] 76 (0, 0)) (blk_y BK365.out) hb)
                    have n19_ := Aside0.mk (blk_below (g := gb376) (o := .cells #[.slice Ao57 t366.length co57, .slice Ao62 t369.length co62, .slice Ao63 t372.length co63] 76 (0, 0)) (blk_y BK376.out) hb)
                    have n20_ := Aside0.mk (blk_below (g := gb387) (o := .cells #[.slice Ao68 t377.length co68, .slice Ao74 t380.length co74, .slice Ao75 t383.length co75] 76 (0, 0)) (blk_y BK387.out) hb)
                    have n21_ := Aside0.mk (blk_below (g := gb398) (o := .cells #[.slice Ao80 t388.length co80, .slice Ao87 t391.length co87, .slice Ao88 t394.length co88] 76 (0, 0)) (blk_y BK398.out) hb)
                    have n22_ := Aside0.mk (below_step (below_y HB.out) hb)
                    clear HO_348000
                    clear HO_348001
                    clear HO_348002
                    clear HO_349002
                    clear HO357
                    clear HO360
                    clear HO363
                    clear HO368
                    clear HO371
                    clear HO374
                    clear HO379
                    clear HO382
                    clear HO385
                    clear HO390
                    clear HO393
                    clear HO396
                    clear BK347
                    clear BK348
                    clear BK365
                    clear BK376
                    clear BK387
                    clear BK398
                    clear HB
                    have HO_348000 := n0_
                    have HO_348001 := n1_
                    have HO_348002 := n2_
                    have HO_349002 := n3_
                    have HO357 := n4_
                    have HO360 := n5_
                    have HO363 := n6_
                    have HO368 := n7_
                    have HO371 := n8_
                    have HO374 := n9_
                    have HO379 := n10_
                    have HO382 := n11_
                    have HO385 := n12_
                    have HO390 := n13_
                    have HO393 := n14_
                    have HO396 := n15_
                    have BK347 := n16_
                    have BK348 := n17_
                    have BK365 := n18_
                    have BK376 := n19_
                    have BK387 := n20_
                    have BK398 := n21_
                    have HB := n22_
                    clear n0_ n1_ n2_ n3_ n4_ n5_ n6_ n7_ n8_ n9_ n10_ n11_ n12_ n13_ n14_ n15_ n16_ n17_ n18_ n19_ n20_ n21_ n22_
                    (try clear hb)
                    (try clear hb2)
                    (try clear hk)
                    (try clear hi)
                    refine hK.out _ _ ⟨(blk_cell BK347.out 0).trans rfl, (blk_cell BK347.out 1).trans rfl, (blk_cell BK347.out 2).trans rfl, (blk_cell BK365.out 0).trans rfl, (blk_cell BK365.out 1).trans rfl, (blk_cell BK365.out 2).trans rfl, (blk_cell BK376.out 0).trans rfl, (blk_cell BK376.out 1).trans rfl, (blk_cell BK376.out 2).trans rfl, (blk_cell BK387.out 0).trans rfl, (blk_cell BK387.out 1).trans rfl, (blk_cell BK387.out 2).trans rfl, (blk_cell BK398.out 0).trans rfl, (blk_cell BK398.out 1).trans rfl, (blk_cell BK398.out 2).trans rfl⟩ (fun hHeld => ?_)
                    clear hK K
                    refine norm_ (a' := ?_) ?_ ?_
                    rotate_left
                    · show Act.put _ (some 63) _ = _
                      simp only [Act.put, List.setIfInBounds_toArray, List.set_cons_zero, List.set_cons_succ, i64_w, i32_w]
                      rfl
                    refine pure_ (i := 9) (N := some 64) (v := ?_) (a' := ?_) #[true, true, true, true, true, true, true, true, true, true, false, false, false, false, false, false, false, false, false, false, false, false, false, false, false, false, false, false, false, false, false, false, false, false, false, false] rfl rfl (any_of HT_.out (by kernel_rfl)) (fun _ _ _ h => h) (Or.inl ⟨by rfl, ?_⟩) ?_ ?_
                    rotate_left
                    · intro w'
                      go_simp
                      with_reducible rfl
                    rotate_left
                    · simp only [Act.put, List.setIfInBounds_toArray, List.set_cons_zero, List.set_cons_succ, i64_w, i32_w]
                      rfl
                    refine pure_ (i := 10) (N := some 65) (v := ?_) (a' := ?_) #[true, true, true, true, true, true, true, true, true, true, true, false, false, false, false, false, false, false, false, false, false, false, false, false, false, false, false, false, false, false, false, false, false, false, false, false] rfl rfl (any_of HT_.out (by kernel_rfl)) (fun _ _ _ h => h) (Or.inl ⟨by rfl, ?_⟩) ?_ ?_
                    rotate_left
                    · intro w'
                      go_simp
                      with_reducible rfl
                    rotate_left
                    · simp only [Act.put, List.setIfInBounds_toArray, List.set_cons_zero, List.set_cons_succ, i64_w, i32_w]
                      rfl
                    refine pure_ (i := 11) (N := some 66) (v := ?_) (a' := ?_) #[true, true, true, true, true, true, true, true, true, true, true, true, false, false, false, false, false, false, false, false, false, false, false, false, false, false, false, false, false, false, false, false, false, false, false, false] rfl rfl (any_of HT_.out (by kernel_rfl)) (fun _ _ _ h => h) (Or.inl ⟨by rfl, ?_⟩) ?_ ?_
                    rotate_left
                    · intro w'
                      go_simp
                      with_reducible rfl
                    rotate_left
                    · simp only [Act.put, List.setIfInBounds_toArray, List.set_cons_zero, List.set_cons_succ, i64_w, i32_w]
                      rfl
                    refine pure_ (i := 12) (N := some 67) (v := ?_) (a' := ?_) #[true, true, true, true, true, true, true, true, true, true, true, true, true, false, false, false, false, false, false, false, false, false, false, false, false, false, false, false, false, false, false, false, false, false, false, false] rfl rfl (any_of HT_.out (by kernel_rfl)) (fun _ _ _ h => h) (Or.inl ⟨by rfl, ?_⟩) ?_ ?_
                    rotate_left
                    · intro w'
                      go_simp
                      with_reducible rfl
                    rotate_left
                    · simp only [Act.put, List.setIfInBounds_toArray, List.set_cons_zero, List.set_cons_succ, i64_w, i32_w]
                      rfl
                    refine pure_ (i := 13) (N := some 68) (v := ?_) (a' := ?_) #[true, true, true, true, true, true, true, true, true, true, true, true, true, true, false, false, false, false, false, false, false, false, false, false, false, false, false, false, false, false, false, false, false, false, false, false] rfl rfl (any_of HT_.out (by kernel_rfl)) (fun _ _ _ h => h) (Or.inl ⟨by rfl, ?_⟩) ?_ ?_
                    rotate_left
                    · intro w'
                      go_simp
                      with_reducible rfl
                    rotate_left
                    · simp only [Act.put, List.setIfInBounds_toArray, List.set_cons_zero, List.set_cons_succ, i64_w, i32_w]
                      rfl
                    refine pure_ (i := 14) (N := some 69) (v := ?_) (a' := ?_) #[true, true, true, true, true, true, true, true, true, true, true, true, true, true, true, false, false, false, false, false, false, false, false, false, false, false, false, false, false, false, false, false, false, false, false, false] rfl rfl (any_of HT_.out (by kernel_rfl)) (fun _ _ _ h => h) (Or.inl ⟨by rfl, ?_⟩) ?_ ?_
                    rotate_left
                    · intro w'
                      go_simp
                      with_reducible rfl
                    rotate_left
                    · simp only [Act.put, List.setIfInBounds_toArray, List.set_cons_zero, List.set_cons_succ, i64_w, i32_w]
                      rfl
                    refine pure_ (i := 15) (N := some 70) (v := ?_) (a' := ?_) #[true, true, true, true, true, true, true, true, true, true, true, true, true, true, true, true, false, false, false, false, false, false, false, false, false, false, false, false, false, false, false, false, false, false, false, false] rfl rfl (any_of HT_.out (by kernel_rfl)) (fun _ _ _ h => h) (Or.inl ⟨by rfl, ?_⟩) ?_ ?_
                    rotate_left
                    · intro w'
                      go_simp
                      with_reducible rfl
                    rotate_left
                    · simp only [Act.put, List.setIfInBounds_toArray, List.set_cons_zero, List.set_cons_succ, i64_w, i32_w]
                      rfl
                    refine take_ (i := 16) (N := some 71) (v := ?_) (a' := ?_) #[true, true, true, true, true, true, true, true, true, true, true, true, true, true, true, true, true, false, false, false, false, false, false, false, false, false, false, false, false, false, false, false, false, false, false, false] rfl rfl (take_ofW HT_.out HW_.out (by kernel_rfl)) (fun _ _ _ h => h) (Or.inl ⟨by rfl, ?_⟩) hHeld ?_ ?_
                    rotate_left
                    · rintro w' ⟨s0, s1, s2, s3, s4, s5, s6, s7, s8, s9, s10, s11, s12, s13, s14⟩
                      go_simp
                      with_reducible rfl
                    rotate_left
                    · simp only [Act.put, List.setIfInBounds_toArray, List.set_cons_zero, List.set_cons_succ, i64_w, i32_w]
                      rfl
                    refine take_ (i := 18) (N := some 73) (v := ?_) (a' := ?_) #[true, true, true, true, true, true, true, true, true, true, true, true, true, true, true, true, true, false, true, false, false, false, false, false, false, false, false, false, false, false, false, false, false, false, false, false] rfl rfl (take_ofW HT_.out HW_.out (by kernel_rfl)) (fun _ _ _ h => h) (Or.inl ⟨by rfl, ?_⟩) hHeld ?_ ?_
                    rotate_left
                    · rintro w' ⟨s0, s1, s2, s3, s4, s5, s6, s7, s8, s9, s10, s11, s12, s13, s14⟩
                      go_simp
                      with_reducible rfl
                    rotate_left
                    · simp only [Act.put, List.setIfInBounds_toArray, List.set_cons_zero, List.set_cons_succ, i64_w, i32_w]
                      rfl
                    refine one_ (i := 17) (N := some 72) #[true, true, true, true, true, true, true, true, true, true, true, true, true, true, true, true, true, true, true, false, false, false, false, false, false, false, false, false, false, false, false, false, false, false, false, false] rfl rfl (one_of HT_.out (by kernel_rfl)) (by decide) (fun K hK => ?_)
                    refine goes_ Try.func59 (by kernel_rfl) rfl #[.agg #[.slice A0_0 l0_0.length c0_0, .slice A0_1 l0_1.length c0_1, .slice A0_2 l0_2.length c0_2]] (by rfl) rfl rfl (by (try simp only [List.map_toArray, List.map_cons, List.map_nil]); first | done | rfl | (simp only [List.length_drop, List.length_take]; rfl)) ?_
                    with_reducible refine (file_Sync.calls kj3 _ _ l0_0 _ _ l0_1 _ _ l0_2 t402 t405 t408 _ ?side1 ?side2 ?side3 ?side4 ?side5 ?side6 A33.out).mono ?_
                    (case side1 => exact Kd.C_y (Kd.V_reads' HO_348000.out).2.2)
                    (case side2 => exact (Kd.V_reads' HO_348000.out).2.1)
                    (case side3 => exact Kd.C_y (Kd.V_reads' HO_348001.out).2.2)
                    (case side4 => exact (Kd.V_reads' HO_348001.out).2.1)
                    (case side5 => exact Kd.C_y (Kd.V_reads' HO_348002.out).2.2)
                    (case side6 => exact (Kd.V_reads' HO_348002.out).2.1)
                    rintro e w94 ⟨v403, v406, v409, rfl, ho0, ho1, ho2, hb⟩
                    refine ⟨_, rfl, ?_⟩
                    have n0_ := Aside0.mk (Kd.V_mono (Kd.V_told (Kd.V_told (Kd.V_told (Kd.V_old (Kd.V_y HO_348000.out) hb) (Kd.R_base ho0)) (Kd.R_base ho1)) (Kd.S_base ho2)) (fun _ h_ => h_.1))
                    have n1_ := Aside0.mk (Kd.V_mono (Kd.V_told (Kd.V_told (Kd.V_told (Kd.V_old (Kd.V_y HO_348001.out) hb) (Kd.R_base ho0)) (Kd.R_base ho1)) (Kd.S_base ho2)) (fun _ h_ => h_.1))
                    have n2_ := Aside0.mk (Kd.V_mono (Kd.V_told (Kd.V_told (Kd.V_told (Kd.V_old (Kd.V_y HO_348002.out) hb) (Kd.R_base ho0)) (Kd.R_base ho1)) (Kd.S_base ho2)) (fun _ h_ => h_.1))
                    have n3_ := Aside0.mk (Kd.V_mono (Kd.V_told (Kd.V_told (Kd.V_told (Kd.V_old (Kd.V_y HO_349002.out) hb) (Kd.R_base ho0)) (Kd.R_base ho1)) (Kd.S_base ho2)) (fun _ h_ => h_.1))
                    have n4_ := Aside0.mk (Kd.R_mono (Kd.R_told (Kd.R_told (Kd.R_old (Kd.R_y HO357.out) hb) (Kd.R_base ho0)) (Kd.R_base ho1)) (fun _ h_ => h_.1))
                    have n5_ := Aside0.mk (Kd.R_mono (Kd.R_told (Kd.R_told (Kd.R_old (Kd.R_y HO360.out) hb) (Kd.R_base ho0)) (Kd.R_base ho1)) (fun _ h_ => h_.1))
                    have n6_ := Aside0.mk (Kd.N_mono (Kd.N_told (Kd.N_told (Kd.N_told (Kd.N_old (Kd.N_y HO363.out) hb) (Kd.R_base ho0)) (Kd.R_base ho1)) (Kd.S_base ho2)) (fun _ h_ => h_.1))
                    have n7_ := Aside0.mk (Kd.R_mono (Kd.R_told (Kd.R_told (Kd.R_old (Kd.R_y HO368.out) hb) (Kd.R_base ho0)) (Kd.R_base ho1)) (fun _ h_ => h_.1))
                    have n8_ := Aside0.mk (Kd.V_mono (Kd.V_told (Kd.V_told (Kd.V_told (Kd.V_old (Kd.V_y HO371.out) hb) (Kd.R_base ho0)) (Kd.R_base ho1)) (Kd.S_base ho2)) (fun _ h_ => h_.1))
                    have n9_ := Aside0.mk (Kd.N_mono (Kd.N_told (Kd.N_told (Kd.N_told (Kd.N_old (Kd.N_y HO374.out) hb) (Kd.R_base ho0)) (Kd.R_base ho1)) (Kd.S_base ho2)) (fun _ h_ => h_.1))
                    have n10_ := Aside0.mk (Kd.R_mono (Kd.R_told (Kd.R_told (Kd.R_old (Kd.R_y HO379.out) hb) (Kd.R_base ho0)) (Kd.R_base ho1)) (fun _ h_ => h_.1))
                    have n11_ := Aside0.mk (Kd.R_mono (Kd.R_told (Kd.R_told (Kd.R_old (Kd.R_y HO382.out) hb) (Kd.R_base ho0)) (Kd.R_base ho1)) (fun _ h_ => h_.1))
                    have n12_ := Aside0.mk (Kd.N_mono (Kd.N_told (Kd.N_told (Kd.N_told (Kd.N_old (Kd.N_y HO385.out) hb) (Kd.R_base ho0)) (Kd.R_base ho1)) (Kd.S_base ho2)) (fun _ h_ => h_.1))
                    have n13_ := Aside0.mk (Kd.V_mono (Kd.V_told (Kd.V_told (Kd.V_told (Kd.V_old (Kd.V_y HO390.out) hb) (Kd.R_base ho0)) (Kd.R_base ho1)) (Kd.S_base ho2)) (fun _ h_ => h_.1))
                    have n14_ := Aside0.mk (Kd.V_mono (Kd.V_told (Kd.V_told (Kd.V_told (Kd.V_old (Kd.V_y HO393.out) hb) (Kd.R_base ho0)) (Kd.R_base ho1)) (Kd.S_base ho2)) (fun _ h_ => h_.1))
                    have n15_ := Aside0.mk (Kd.N_mono (Kd.N_told (Kd.N_told (Kd.N_told (Kd.N_old (Kd.N_y HO396.out) hb) (Kd.R_base ho0)) (Kd.R_base ho1)) (Kd.S_base ho2)) (fun _ h_ => h_.1))
                    have n16_ := Aside0.mk (Kd.R_lower (Kd.R_new' (Kd.R_new' (Kd.R_new' (Kd.R_new' (Kd.R_new' (Kd.R_newM (M := fun k_ => (w.heap.size ≤ k_)) ho0 (below_size (below_y HB.out)) (fun k_ h_ => h_)) (Kd.R_lt (Kd.R_y HO357.out))) (Kd.R_lt (Kd.R_y HO360.out))) (Kd.R_lt (Kd.R_y HO368.out))) (Kd.R_lt (Kd.R_y HO379.out))) (Kd.R_lt (Kd.R_y HO382.out))) (below_size (below_y HB.out)))
                    have n17_ := Aside0.mk (Kd.R_lower (Kd.R_new' (Kd.R_new' (Kd.R_new' (Kd.R_new' (Kd.R_new' (Kd.R_newM (M := fun k_ => (w.heap.size ≤ k_)) ho1 (below_size (below_y HB.out)) (fun k_ h_ => h_)) (Kd.R_lt (Kd.R_y HO357.out))) (Kd.R_lt (Kd.R_y HO360.out))) (Kd.R_lt (Kd.R_y HO368.out))) (Kd.R_lt (Kd.R_y HO379.out))) (Kd.R_lt (Kd.R_y HO382.out))) (below_size (below_y HB.out)))
                    have n18_ := Aside0.mk (Kd.N_lower (Kd.N_mono (ok' := fun k_ => ((P0_0_ k_ ∨ P0_1_ k_ ∨ P0_2_ k_ ∨ P1_2_ k_) ∨ w.heap.size ≤ k_) ∧ some k_ ≠ (v403 : Value).ownBlock ∧ some k_ ≠ (v406 : Value).ownBlock ∧ some k_ ≠ (.slice Ao46 t355.length co46 : Value).ownBlock ∧ some k_ ≠ (.slice Ao50 t358.length co50 : Value).ownBlock ∧ some k_ ≠ (.slice Ao51 t361.length co51 : Value).ownBlock ∧ some k_ ≠ (.slice Ao57 t366.length co57 : Value).ownBlock ∧ some k_ ≠ (.slice Ao63 t372.length co63 : Value).ownBlock ∧ some k_ ≠ (.slice Ao68 t377.length co68 : Value).ownBlock ∧ some k_ ≠ (.slice Ao74 t380.length co74 : Value).ownBlock ∧ some k_ ≠ (.slice Ao75 t383.length co75 : Value).ownBlock ∧ some k_ ≠ (.slice Ao88 t394.length co88 : Value).ownBlock ∧ k_ ≠ gb347 ∧ k_ ≠ gb348 ∧ k_ ≠ gb365 ∧ k_ ≠ gb376 ∧ k_ ≠ gb387 ∧ k_ ≠ gb398) (Kd.S_N (Kd.S_bound ho2)) (fun k_ hk_ => ⟨(.inr (Nat.le_trans (below_size (below_y HB.out)) hk_.2.1)), hk_.1.1, hk_.1.2, (Kd.fresh' (Kd.R_lt (Kd.R_y HO357.out)) k_ hk_.2.1), (Kd.fresh' (Kd.R_lt (Kd.R_y HO360.out)) k_ hk_.2.1), (Kd.fresh' (Kd.N_lt (Kd.N_y HO363.out)) k_ hk_.2.1), (Kd.fresh' (Kd.R_lt (Kd.R_y HO368.out)) k_ hk_.2.1), (Kd.fresh' (Kd.N_lt (Kd.N_y HO374.out)) k_ hk_.2.1), (Kd.fresh' (Kd.R_lt (Kd.R_y HO379.out)) k_ hk_.2.1), (Kd.fresh' (Kd.R_lt (Kd.R_y HO382.out)) k_ hk_.2.1), (Kd.fresh' (Kd.N_lt (Kd.N_y HO385.out)) k_ hk_.2.1), (Kd.fresh' (Kd.N_lt (Kd.N_y HO396.out)) k_ hk_.2.1), (Kd.freshB (g := gb347) (o := .cells #[.slice A0_0 l0_0.length c0_0, .slice A0_1 l0_1.length c0_1, .slice A0_2 l0_2.length c0_2] 76 (0, 0)) (blk_y BK347.out) k_ hk_.2.1), (Kd.freshB (g := gb348) (o := .cells #[.bool a1_0, .int .i64 a1_1, .slice A1_2 l1_2.length c1_2] 78 (0, 0)) (blk_y BK348.out) k_ hk_.2.1), (Kd.freshB (g := gb365) (o := .cells #[.slice Ao46 t355.length co46, .slice Ao50 t358.length co50, .slice Ao51 t361.length co51] 76 (0, 0)) (blk_y BK365.out) k_ hk_.2.1), (Kd.freshB (g := gb376) (o := .cells #[.slice Ao57 t366.length co57, .slice Ao62 t369.length co62, .slice Ao63 t372.length co63] 76 (0, 0)) (blk_y BK376.out) k_ hk_.2.1), (Kd.freshB (g := gb387) (o := .cells #[.slice Ao68 t377.length co68, .slice Ao74 t380.length co74, .slice Ao75 t383.length co75] 76 (0, 0)) (blk_y BK387.out) k_ hk_.2.1), (Kd.freshB (g := gb398) (o := .cells #[.slice Ao80 t388.length co80, .slice Ao87 t391.length co87, .slice Ao88 t394.length co88] 76 (0, 0)) (blk_y BK398.out) k_ hk_.2.1)⟩)) (below_size (below_y HB.out)))
                    have n19_ := Aside0.mk (blk_below (g := gb347) (o := .cells #[.slice A0_0 l0_0.length c0_0, .slice A0_1 l0_1.length c0_1, .slice A0_2 l0_2.length c0_2] 76 (0, 0)) (blk_y BK347.out) hb)
                    have n20_ := Aside0.mk (blk_below (g := gb348) (o := .cells #[.bool a1_0, .int .i64 a1_1, .slice A1_2 l1_2.length c1_2] 78 (0, 0)) (blk_y BK348.out) hb)
                    have n21_ := Aside0.mk (blk_below (g := gb365) (o := .cells #[.slice Ao46 t355.length co46, .slice Ao50 t358.length co50, .slice Ao51 t361.length co51] 76 (0, 0)) (blk_y BK365.out) hb)
                    have n22_ := Aside0.mk (blk_below (g := gb376) (o := .cells #[.slice Ao57 t366.length co57, .slice Ao62 t369.length co62, .slice Ao63 t372.length co63] 76 (0, 0)) (blk_y BK376.out) hb)
                    have n23_ := Aside0.mk (blk_below (g := gb387) (o := .cells #[.slice Ao68 t377.length co68, .slice Ao74 t380.length co74, .slice Ao75 t383.length co75] 76 (0, 0)) (blk_y BK387.out) hb)
                    have n24_ := Aside0.mk (blk_below (g := gb398) (o := .cells #[.slice Ao80 t388.length co80, .slice Ao87 t391.length co87, .slice Ao88 t394.length co88] 76 (0, 0)) (blk_y BK398.out) hb)
                    have n25_ := Aside0.mk (below_step (below_y HB.out) hb)
                    clear HO_348000
                    clear HO_348001
                    clear HO_348002
                    clear HO_349002
                    clear HO357
                    clear HO360
                    clear HO363
                    clear HO368
                    clear HO371
                    clear HO374
                    clear HO379
                    clear HO382
                    clear HO385
                    clear HO390
                    clear HO393
                    clear HO396
                    clear BK347
                    clear BK348
                    clear BK365
                    clear BK376
                    clear BK387
                    clear BK398
                    clear HB
                    have HO_348000 := n0_
                    have HO_348001 := n1_
                    have HO_348002 := n2_
                    have HO_349002 := n3_
                    have HO357 := n4_
                    have HO360 := n5_
                    have HO363 := n6_
                    have HO368 := n7_
                    have HO371 := n8_
                    have HO374 := n9_
                    have HO379 := n10_
                    have HO382 := n11_
                    have HO385 := n12_
                    have HO390 := n13_
                    have HO393 := n14_
                    have HO396 := n15_
                    have HO404 := n16_
                    have HO407 := n17_
                    have HO410 := n18_
                    have BK347 := n19_
                    have BK348 := n20_
                    have BK365 := n21_
                    have BK376 := n22_
                    have BK387 := n23_
                    have BK398 := n24_
                    have HB := n25_
                    clear n0_ n1_ n2_ n3_ n4_ n5_ n6_ n7_ n8_ n9_ n10_ n11_ n12_ n13_ n14_ n15_ n16_ n17_ n18_ n19_ n20_ n21_ n22_ n23_ n24_ n25_
                    (try clear hb)
                    (try clear hb2)
                    (try clear hk)
                    (try clear hi)
                    (try clear ho0)
                    (try clear ho1)
                    (try clear ho2)
                    refine hK.out _ _ ⟨(blk_cell BK347.out 0).trans rfl, (blk_cell BK347.out 1).trans rfl, (blk_cell BK347.out 2).trans rfl, (blk_cell BK365.out 0).trans rfl, (blk_cell BK365.out 1).trans rfl, (blk_cell BK365.out 2).trans rfl, (blk_cell BK376.out 0).trans rfl, (blk_cell BK376.out 1).trans rfl, (blk_cell BK376.out 2).trans rfl, (blk_cell BK387.out 0).trans rfl, (blk_cell BK387.out 1).trans rfl, (blk_cell BK387.out 2).trans rfl, (blk_cell BK398.out 0).trans rfl, (blk_cell BK398.out 1).trans rfl, (blk_cell BK398.out 2).trans rfl⟩ (fun hHeld => ?_)
                    clear hK K
                    refine norm_ (a' := ?_) ?_ ?_
                    rotate_left
                    · show Act.put _ (some 72) _ = _
                      simp only [Act.put, List.setIfInBounds_toArray, List.set_cons_zero, List.set_cons_succ, i64_w, i32_w]
                      rfl
                    refine one_ (i := 19) (N := some 74) #[true, true, true, true, true, true, true, true, true, true, true, true, true, true, true, true, true, true, true, true, false, false, false, false, false, false, false, false, false, false, false, false, false, false, false, false] rfl rfl (one_of HT_.out (by kernel_rfl)) (by decide) (fun K hK => ?_)
                    refine goes_ Try.func60 (by kernel_rfl) rfl #[.agg #[.slice A0_0 l0_0.length c0_0, .slice A0_1 l0_1.length c0_1, .slice A0_2 l0_2.length c0_2]] (by rfl) rfl rfl (by (try simp only [List.map_toArray, List.map_cons, List.map_nil]); first | done | rfl | (simp only [List.length_drop, List.length_take]; rfl)) ?_
                    with_reducible refine (newsreelref09_Sync.calls kj3 (fun k_ => ((((((P0_0_ k_ ∨ P0_1_ k_ ∨ P0_2_ k_ ∨ P1_2_ k_) ∨ w.heap.size ≤ k_) ∧ (some k_ ≠ (.slice Ao46 t355.length co46 : Value).ownBlock ∧ (some k_ ≠ (.slice Ao50 t358.length co50 : Value).ownBlock ∧ (some k_ ≠ (.slice Ao51 t361.length co51 : Value).ownBlock ∧ (some k_ ≠ (.slice Ao57 t366.length co57 : Value).ownBlock ∧ (some k_ ≠ (.slice Ao63 t372.length co63 : Value).ownBlock ∧ (some k_ ≠ (.slice Ao68 t377.length co68 : Value).ownBlock ∧ (some k_ ≠ (.slice Ao74 t380.length co74 : Value).ownBlock ∧ (some k_ ≠ (.slice Ao75 t383.length co75 : Value).ownBlock ∧ (some k_ ≠ (.slice Ao88 t394.length co88 : Value).ownBlock ∧ (k_ ≠ gb347 ∧ (k_ ≠ gb348 ∧ (k_ ≠ gb365 ∧ (k_ ≠ gb376 ∧ (k_ ≠ gb387 ∧ k_ ≠ gb398))))))))))))))) ∧ some k_ ≠ (v403 : Value).ownBlock) ∧ some k_ ≠ (v406 : Value).ownBlock) ∧ some k_ ≠ (v409 : Value).ownBlock)) _ _ l0_0 _ _ l0_1 _ _ l0_2 t411 t414 t417 _ ?side1 ?side2 ?side3 ?side4 ?side5 A34.out).mono ?_
                    (case side1 => exact HO_348000.out)
                    (case side2 => exact Kd.C_y (Kd.V_reads' HO_348001.out).2.2)
                    (case side3 => exact (Kd.V_reads' HO_348001.out).2.1)
                    (case side4 => exact Kd.C_y (Kd.V_reads' HO_348002.out).2.2)
                    (case side5 => exact (Kd.V_reads' HO_348002.out).2.1)
                    rintro e w95 ⟨v412, v415, v418, rfl, ho0, ho1, ho2, hb⟩
                    refine ⟨_, rfl, ?_⟩
                    have n0_ := Aside0.mk (Kd.V_elder' (Kd.V_y HO_348000.out) (Kd.S_base ho2) hb)
                    have n1_ := Aside0.mk (Kd.V_elder' (Kd.V_y HO_348001.out) (Kd.S_base ho2) hb)
                    have n2_ := Aside0.mk (Kd.V_elder' (Kd.V_y HO_348002.out) (Kd.S_base ho2) hb)
                    have n3_ := Aside0.mk (Kd.V_elder' (Kd.V_y HO_349002.out) (Kd.S_base ho2) hb)
                    have n4_ := Aside0.mk (Kd.R_below (Kd.R_y HO357.out) hb)
                    have n5_ := Aside0.mk (Kd.R_below (Kd.R_y HO360.out) hb)
                    have n6_ := Aside0.mk (Kd.N_elder' (Kd.N_y HO363.out) (Kd.S_base ho2) hb)
                    have n7_ := Aside0.mk (Kd.R_below (Kd.R_y HO368.out) hb)
                    have n8_ := Aside0.mk (Kd.V_elder' (Kd.V_y HO371.out) (Kd.S_base ho2) hb)
                    have n9_ := Aside0.mk (Kd.N_elder' (Kd.N_y HO374.out) (Kd.S_base ho2) hb)
                    have n10_ := Aside0.mk (Kd.R_below (Kd.R_y HO379.out) hb)
                    have n11_ := Aside0.mk (Kd.R_below (Kd.R_y HO382.out) hb)
                    have n12_ := Aside0.mk (Kd.N_elder' (Kd.N_y HO385.out) (Kd.S_base ho2) hb)
                    have n13_ := Aside0.mk (Kd.V_elder' (Kd.V_y HO390.out) (Kd.S_base ho2) hb)
                    have n14_ := Aside0.mk (Kd.V_elder' (Kd.V_y HO393.out) (Kd.S_base ho2) hb)
                    have n15_ := Aside0.mk (Kd.N_elder' (Kd.N_y HO396.out) (Kd.S_base ho2) hb)
                    have n16_ := Aside0.mk (Kd.R_below (Kd.R_y HO404.out) hb)
                    have n17_ := Aside0.mk (Kd.R_below (Kd.R_y HO407.out) hb)
                    have n18_ := Aside0.mk (Kd.N_elder' (Kd.N_y HO410.out) (Kd.S_base ho2) hb)
                    have n19_ := Aside0.mk (Kd.V_lower (Kd.V_mono (ok' := fun k_ => ((P0_0_ k_ ∨ P0_1_ k_ ∨ P0_2_ k_ ∨ P1_2_ k_) ∨ w.heap.size ≤ k_) ∧ some k_ ≠ (v418 : Value).ownBlock ∧ some k_ ≠ (.slice Ao46 t355.length co46 : Value).ownBlock ∧ some k_ ≠ (.slice Ao50 t358.length co50 : Value).ownBlock ∧ some k_ ≠ (.slice Ao51 t361.length co51 : Value).ownBlock ∧ some k_ ≠ (.slice Ao57 t366.length co57 : Value).ownBlock ∧ some k_ ≠ (.slice Ao63 t372.length co63 : Value).ownBlock ∧ some k_ ≠ (.slice Ao68 t377.length co68 : Value).ownBlock ∧ some k_ ≠ (.slice Ao74 t380.length co74 : Value).ownBlock ∧ some k_ ≠ (.slice Ao75 t383.length co75 : Value).ownBlock ∧ some k_ ≠ (.slice Ao88 t394.length co88 : Value).ownBlock ∧ some k_ ≠ (v403 : Value).ownBlock ∧ some k_ ≠ (v406 : Value).ownBlock ∧ some k_ ≠ (v409 : Value).ownBlock ∧ k_ ≠ gb347 ∧ k_ ≠ gb348 ∧ k_ ≠ gb365 ∧ k_ ≠ gb376 ∧ k_ ≠ gb387 ∧ k_ ≠ gb398) ho0 (fun k_ hk_ => ⟨Or.elim hk_.1 (fun hs_ => hs_.1.1.1.1) (fun hn_ => (.inr (Nat.le_trans (below_size (below_y HB.out)) hn_))), hk_.2, Or.elim hk_.1 (fun hs_ => hs_.1.1.1.2.1) (fun hn_ => (Kd.fresh' (Kd.R_lt (Kd.R_y HO357.out)) k_ hn_)), Or.elim hk_.1 (fun hs_ => hs_.1.1.1.2.2.1) (fun hn_ => (Kd.fresh' (Kd.R_lt (Kd.R_y HO360.out)) k_ hn_)), Or.elim hk_.1 (fun hs_ => hs_.1.1.1.2.2.2.1) (fun hn_ => (Kd.fresh' (Kd.N_lt (Kd.N_y HO363.out)) k_ hn_)), Or.elim hk_.1 (fun hs_ => hs_.1.1.1.2.2.2.2.1) (fun hn_ => (Kd.fresh' (Kd.R_lt (Kd.R_y HO368.out)) k_ hn_)), Or.elim hk_.1 (fun hs_ => hs_.1.1.1.2.2.2.2.2.1) (fun hn_ => (Kd.fresh' (Kd.N_lt (Kd.N_y HO374.out)) k_ hn_)), Or.elim hk_.1 (fun hs_ => hs_.1.1.1.2.2.2.2.2.2.1) (fun hn_ => (Kd.fresh' (Kd.R_lt (Kd.R_y HO379.out)) k_ hn_)), Or.elim hk_.1 (fun hs_ => hs_.1.1.1.2.2.2.2.2.2.2.1) (fun hn_ => (Kd.fresh' (Kd.R_lt (Kd.R_y HO382.out)) k_ hn_)), Or.elim hk_.1 (fun hs_ => hs_.1.1.1.2.2.2.2.2.2.2.2.1) (fun hn_ => (Kd.fresh' (Kd.N_lt (Kd.N_y HO385.out)) k_ hn_)), Or.elim hk_.1 (fun hs_ => hs_.1.1.1.2.2.2.2.2.2.2.2.2.1) (fun hn_ => (Kd.fresh' (Kd.N_lt (Kd.N_y HO396.out)) k_ hn_)), Or.elim hk_.1 (fun hs_ => hs_.1.1.2) (fun hn_ => (Kd.fresh' (Kd.R_lt (Kd.R_y HO404.out)) k_ hn_)), Or.elim hk_.1 (fun hs_ => hs_.1.2) (fun hn_ => (Kd.fresh' (Kd.R_lt (Kd.R_y HO407.out)) k_ hn_)), Or.elim hk_.1 (fun hs_ => hs_.2) (fun hn_ => (Kd.fresh' (Kd.N_lt (Kd.N_y HO410.out)) k_ hn_)), Or.elim hk_.1 (fun hs_ => hs_.1.1.1.2.2.2.2.2.2.2.2.2.2.1) (fun hn_ => (Kd.freshB (g := gb347) (o := .cells #[.slice A0_0 l0_0.length c0_0, .slice A0_1 l0_1.length c0_1, .slice A0_2 l0_2.length c0_2] 76 (0, 0)) (blk_y BK347.out) k_ hn_)), Or.elim hk_.1 (fun hs_ => hs_.1.1.1.2.2.2.2.2.2.2.2.2.2.2.1) (fun hn_ => (Kd.freshB (g := gb348) (o := .cells #[.bool a1_0, .int .i64 a1_1, .slice A1_2 l1_2.length c1_2] 78 (0, 0)) (blk_y BK348.out) k_ hn_)), Or.elim hk_.1 (fun hs_ => hs_.1.1.1.2.2.2.2.2.2.2.2.2.2.2.2.1) (fun hn_ => (Kd.freshB (g := gb365) (o := .cells #[.slice Ao46 t355.length co46, .slice Ao50 t358.length co50, .slice Ao51 t361.length co51] 76 (0, 0)) (blk_y BK365.out) k_ hn_)), Or.elim hk_.1 (fun hs_ => hs_.1.1.1.2.2.2.2.2.2.2.2.2.2.2.2.2.1) (fun hn_ => (Kd.freshB (g := gb376) (o := .cells #[.slice Ao57 t366.length co57, .slice Ao62 t369.length co62, .slice Ao63 t372.length co63] 76 (0, 0)) (blk_y BK376.out) k_ hn_)), Or.elim hk_.1 (fun hs_ => hs_.1.1.1.2.2.2.2.2.2.2.2.2.2.2.2.2.2.1) (fun hn_ => (Kd.freshB (g := gb387) (o := .cells #[.slice Ao68 t377.length co68, .slice Ao74 t380.length co74, .slice Ao75 t383.length co75] 76 (0, 0)) (blk_y BK387.out) k_ hn_)), Or.elim hk_.1 (fun hs_ => hs_.1.1.1.2.2.2.2.2.2.2.2.2.2.2.2.2.2.2) (fun hn_ => (Kd.freshB (g := gb398) (o := .cells #[.slice Ao80 t388.length co80, .slice Ao87 t391.length co87, .slice Ao88 t394.length co88] 76 (0, 0)) (blk_y BK398.out) k_ hn_))⟩)) (below_size (below_y HB.out)))
                    have n20_ := Aside0.mk (Kd.V_lower (Kd.V_mono (ok' := fun k_ => ((P0_0_ k_ ∨ P0_1_ k_ ∨ P0_2_ k_ ∨ P1_2_ k_) ∨ w.heap.size ≤ k_) ∧ some k_ ≠ (v418 : Value).ownBlock ∧ some k_ ≠ (.slice Ao46 t355.length co46 : Value).ownBlock ∧ some k_ ≠ (.slice Ao50 t358.length co50 : Value).ownBlock ∧ some k_ ≠ (.slice Ao51 t361.length co51 : Value).ownBlock ∧ some k_ ≠ (.slice Ao57 t366.length co57 : Value).ownBlock ∧ some k_ ≠ (.slice Ao63 t372.length co63 : Value).ownBlock ∧ some k_ ≠ (.slice Ao68 t377.length co68 : Value).ownBlock ∧ some k_ ≠ (.slice Ao74 t380.length co74 : Value).ownBlock ∧ some k_ ≠ (.slice Ao75 t383.length co75 : Value).ownBlock ∧ some k_ ≠ (.slice Ao88 t394.length co88 : Value).ownBlock ∧ some k_ ≠ (v403 : Value).ownBlock ∧ some k_ ≠ (v406 : Value).ownBlock ∧ some k_ ≠ (v409 : Value).ownBlock ∧ k_ ≠ gb347 ∧ k_ ≠ gb348 ∧ k_ ≠ gb365 ∧ k_ ≠ gb376 ∧ k_ ≠ gb387 ∧ k_ ≠ gb398) ho1 (fun k_ hk_ => ⟨Or.elim hk_.1 (fun hs_ => hs_.1.1.1.1) (fun hn_ => (.inr (Nat.le_trans (below_size (below_y HB.out)) hn_))), hk_.2, Or.elim hk_.1 (fun hs_ => hs_.1.1.1.2.1) (fun hn_ => (Kd.fresh' (Kd.R_lt (Kd.R_y HO357.out)) k_ hn_)), Or.elim hk_.1 (fun hs_ => hs_.1.1.1.2.2.1) (fun hn_ => (Kd.fresh' (Kd.R_lt (Kd.R_y HO360.out)) k_ hn_)), Or.elim hk_.1 (fun hs_ => hs_.1.1.1.2.2.2.1) (fun hn_ => (Kd.fresh' (Kd.N_lt (Kd.N_y HO363.out)) k_ hn_)), Or.elim hk_.1 (fun hs_ => hs_.1.1.1.2.2.2.2.1) (fun hn_ => (Kd.fresh' (Kd.R_lt (Kd.R_y HO368.out)) k_ hn_)), Or.elim hk_.1 (fun hs_ => hs_.1.1.1.2.2.2.2.2.1) (fun hn_ => (Kd.fresh' (Kd.N_lt (Kd.N_y HO374.out)) k_ hn_)), Or.elim hk_.1 (fun hs_ => hs_.1.1.1.2.2.2.2.2.2.1) (fun hn_ => (Kd.fresh' (Kd.R_lt (Kd.R_y HO379.out)) k_ hn_)), Or.elim hk_.1 (fun hs_ => hs_.1.1.1.2.2.2.2.2.2.2.1) (fun hn_ => (Kd.fresh' (Kd.R_lt (Kd.R_y HO382.out)) k_ hn_)), Or.elim hk_.1 (fun hs_ => hs_.1.1.1.2.2.2.2.2.2.2.2.1) (fun hn_ => (Kd.fresh' (Kd.N_lt (Kd.N_y HO385.out)) k_ hn_)), Or.elim hk_.1 (fun hs_ => hs_.1.1.1.2.2.2.2.2.2.2.2.2.1) (fun hn_ => (Kd.fresh' (Kd.N_lt (Kd.N_y HO396.out)) k_ hn_)), Or.elim hk_.1 (fun hs_ => hs_.1.1.2) (fun hn_ => (Kd.fresh' (Kd.R_lt (Kd.R_y HO404.out)) k_ hn_)), Or.elim hk_.1 (fun hs_ => hs_.1.2) (fun hn_ => (Kd.fresh' (Kd.R_lt (Kd.R_y HO407.out)) k_ hn_)), Or.elim hk_.1 (fun hs_ => hs_.2) (fun hn_ => (Kd.fresh' (Kd.N_lt (Kd.N_y HO410.out)) k_ hn_)), Or.elim hk_.1 (fun hs_ => hs_.1.1.1.2.2.2.2.2.2.2.2.2.2.1) (fun hn_ => (Kd.freshB (g := gb347) (o := .cells #[.slice A0_0 l0_0.length c0_0, .slice A0_1 l0_1.length c0_1, .slice A0_2 l0_2.length c0_2] 76 (0, 0)) (blk_y BK347.out) k_ hn_)), Or.elim hk_.1 (fun hs_ => hs_.1.1.1.2.2.2.2.2.2.2.2.2.2.2.1) (fun hn_ => (Kd.freshB (g := gb348) (o := .cells #[.bool a1_0, .int .i64 a1_1, .slice A1_2 l1_2.length c1_2] 78 (0, 0)) (blk_y BK348.out) k_ hn_)), Or.elim hk_.1 (fun hs_ => hs_.1.1.1.2.2.2.2.2.2.2.2.2.2.2.2.1) (fun hn_ => (Kd.freshB (g := gb365) (o := .cells #[.slice Ao46 t355.length co46, .slice Ao50 t358.length co50, .slice Ao51 t361.length co51] 76 (0, 0)) (blk_y BK365.out) k_ hn_)), Or.elim hk_.1 (fun hs_ => hs_.1.1.1.2.2.2.2.2.2.2.2.2.2.2.2.2.1) (fun hn_ => (Kd.freshB (g := gb376) (o := .cells #[.slice Ao57 t366.length co57, .slice Ao62 t369.length co62, .slice Ao63 t372.length co63] 76 (0, 0)) (blk_y BK376.out) k_ hn_)), Or.elim hk_.1 (fun hs_ => hs_.1.1.1.2.2.2.2.2.2.2.2.2.2.2.2.2.2.1) (fun hn_ => (Kd.freshB (g := gb387) (o := .cells #[.slice Ao68 t377.length co68, .slice Ao74 t380.length co74, .slice Ao75 t383.length co75] 76 (0, 0)) (blk_y BK387.out) k_ hn_)), Or.elim hk_.1 (fun hs_ => hs_.1.1.1.2.2.2.2.2.2.2.2.2.2.2.2.2.2.2) (fun hn_ => (Kd.freshB (g := gb398) (o := .cells #[.slice Ao80 t388.length co80, .slice Ao87 t391.length co87, .slice Ao88 t394.length co88] 76 (0, 0)) (blk_y BK398.out) k_ hn_))⟩)) (below_size (below_y HB.out)))
                    have n21_ := Aside0.mk (Kd.N_lower (Kd.N_mono (ok' := fun k_ => ((P0_0_ k_ ∨ P0_1_ k_ ∨ P0_2_ k_ ∨ P1_2_ k_) ∨ w.heap.size ≤ k_) ∧ some k_ ≠ (.slice Ao46 t355.length co46 : Value).ownBlock ∧ some k_ ≠ (.slice Ao50 t358.length co50 : Value).ownBlock ∧ some k_ ≠ (.slice Ao51 t361.length co51 : Value).ownBlock ∧ some k_ ≠ (.slice Ao57 t366.length co57 : Value).ownBlock ∧ some k_ ≠ (.slice Ao63 t372.length co63 : Value).ownBlock ∧ some k_ ≠ (.slice Ao68 t377.length co68 : Value).ownBlock ∧ some k_ ≠ (.slice Ao74 t380.length co74 : Value).ownBlock ∧ some k_ ≠ (.slice Ao75 t383.length co75 : Value).ownBlock ∧ some k_ ≠ (.slice Ao88 t394.length co88 : Value).ownBlock ∧ some k_ ≠ (v403 : Value).ownBlock ∧ some k_ ≠ (v406 : Value).ownBlock ∧ some k_ ≠ (v409 : Value).ownBlock ∧ k_ ≠ gb347 ∧ k_ ≠ gb348 ∧ k_ ≠ gb365 ∧ k_ ≠ gb376 ∧ k_ ≠ gb387 ∧ k_ ≠ gb398) (Kd.S_N ho2) (fun k_ hk_ => ⟨(fun hn_ => (.inr (Nat.le_trans (below_size (below_y HB.out)) hn_))) hk_, (fun hn_ => (Kd.fresh' (Kd.R_lt (Kd.R_y HO357.out)) k_ hn_)) hk_, (fun hn_ => (Kd.fresh' (Kd.R_lt (Kd.R_y HO360.out)) k_ hn_)) hk_, (fun hn_ => (Kd.fresh' (Kd.N_lt (Kd.N_y HO363.out)) k_ hn_)) hk_, (fun hn_ => (Kd.fresh' (Kd.R_lt (Kd.R_y HO368.out)) k_ hn_)) hk_, (fun hn_ => (Kd.fresh' (Kd.N_lt (Kd.N_y HO374.out)) k_ hn_)) hk_, (fun hn_ => (Kd.fresh' (Kd.R_lt (Kd.R_y HO379.out)) k_ hn_)) hk_, (fun hn_ => (Kd.fresh' (Kd.R_lt (Kd.R_y HO382.out)) k_ hn_)) hk_, (fun hn_ => (Kd.fresh' (Kd.N_lt (Kd.N_y HO385.out)) k_ hn_)) hk_, (fun hn_ => (Kd.fresh' (Kd.N_lt (Kd.N_y HO396.out)) k_ hn_)) hk_, (fun hn_ => (Kd.fresh' (Kd.R_lt (Kd.R_y HO404.out)) k_ hn_)) hk_, (fun hn_ => (Kd.fresh' (Kd.R_lt (Kd.R_y HO407.out)) k_ hn_)) hk_, (fun hn_ => (Kd.fresh' (Kd.N_lt (Kd.N_y HO410.out)) k_ hn_)) hk_, (fun hn_ => (Kd.freshB (g := gb347) (o := .cells #[.slice A0_0 l0_0.length c0_0, .slice A0_1 l0_1.length c0_1, .slice A0_2 l0_2.length c0_2] 76 (0, 0)) (blk_y BK347.out) k_ hn_)) hk_, (fun hn_ => (Kd.freshB (g := gb348) (o := .cells #[.bool a1_0, .int .i64 a1_1, .slice A1_2 l1_2.length c1_2] 78 (0, 0)) (blk_y BK348.out) k_ hn_)) hk_, (fun hn_ => (Kd.freshB (g := gb365) (o := .cells #[.slice Ao46 t355.length co46, .slice Ao50 t358.length co50, .slice Ao51 t361.length co51] 76 (0, 0)) (blk_y BK365.out) k_ hn_)) hk_, (fun hn_ => (Kd.freshB (g := gb376) (o := .cells #[.slice Ao57 t366.length co57, .slice Ao62 t369.length co62, .slice Ao63 t372.length co63] 76 (0, 0)) (blk_y BK376.out) k_ hn_)) hk_, (fun hn_ => (Kd.freshB (g := gb387) (o := .cells #[.slice Ao68 t377.length co68, .slice Ao74 t380.length co74, .slice Ao75 t383.length co75] 76 (0, 0)) (blk_y BK387.out) k_ hn_)) hk_, (fun hn_ => (Kd.freshB (g := gb398) (o := .cells #[.slice Ao80 t388.length co80, .slice Ao87 t391.length co87, .slice Ao88 t394.length co88] 76 (0, 0)) (blk_y BK398.out) k_ hn_)) hk_⟩)) (below_size (below_y HB.out)))
                    have n22_ := Aside0.mk (blk_below (g := gb347) (o := .cells #[.slice A0_0 l0_0.length c0_0, .slice A0_1 l0_1.length c0_1, .slice A0_2 l0_2.length c0_2] 76 (0, 0)) (blk_y BK347.out) hb)
                    have n23_ := Aside0.mk (blk_below (g := gb348) (o := .cells #[.bool a1_0, .int .i64 a1_1, .slice A1_2 l1_2.length c1_2] 78 (0, 0)) (blk_y BK348.out) hb)
                    have n24_ := Aside0.mk (blk_below (g := gb365) (o := .cells #[.slice Ao46 t355.length co46, .slice Ao50 t358.length co50, .slice Ao51 t361.length co51] 76 (0, 0)) (blk_y BK365.out) hb)
                    have n25_ := Aside0.mk (blk_below (g := gb376) (o := .cells #[.slice Ao57 t366.length co57, .slice Ao62 t369.length co62, .slice Ao63 t372.length co63] 76 (0, 0)) (blk_y BK376.out) hb)
                    have n26_ := Aside0.mk (blk_below (g := gb387) (o := .cells #[.slice Ao68 t377.length co68, .slice Ao74 t380.length co74, .slice Ao75 t383.length co75] 76 (0, 0)) (blk_y BK387.out) hb)
                    have n27_ := Aside0.mk (blk_below (g := gb398) (o := .cells #[.slice Ao80 t388.length co80, .slice Ao87 t391.length co87, .slice Ao88 t394.length co88] 76 (0, 0)) (blk_y BK398.out) hb)
                    have n28_ := Aside0.mk (below_step (below_y HB.out) hb)
                    clear HO_348000
                    clear HO_348001
                    clear HO_348002
                    clear HO_349002
                    clear HO357
                    clear HO360
                    clear HO363
                    clear HO368
                    clear HO371
                    clear HO374
                    clear HO379
                    clear HO382
                    clear HO385
                    clear HO390
                    clear HO393
                    clear HO396
                    clear HO404
                    clear HO407
                    clear HO410
                    clear BK347
                    clear BK348
                    clear BK365
                    clear BK376
                    clear BK387
                    clear BK398
                    clear HB
                    have HO_348000 := n0_
                    have HO_348001 := n1_
                    have HO_348002 := n2_
                    have HO_349002 := n3_
                    have HO357 := n4_
                    have HO360 := n5_
                    have HO363 := n6_
                    have HO368 := n7_
                    have HO371 := n8_
                    have HO374 := n9_
                    have HO379 := n10_
                    have HO382 := n11_
                    have HO385 := n12_
                    have HO390 := n13_
                    have HO393 := n14_
                    have HO396 := n15_
                    have HO404 := n16_
                    have HO407 := n17_
                    have HO410 := n18_
                    have HO413 := n19_
                    have HO416 := n20_
                    have HO419 := n21_
                    have BK347 := n22_
                    have BK348 := n23_
                    have BK365 := n24_
                    have BK376 := n25_
                    have BK387 := n26_
                    have BK398 := n27_
                    have HB := n28_
                    clear n0_ n1_ n2_ n3_ n4_ n5_ n6_ n7_ n8_ n9_ n10_ n11_ n12_ n13_ n14_ n15_ n16_ n17_ n18_ n19_ n20_ n21_ n22_ n23_ n24_ n25_ n26_ n27_ n28_
                    (try clear hb)
                    (try clear hb2)
                    (try clear hk)
                    (try clear hi)
                    (try clear ho0)
                    (try clear ho1)
                    (try clear ho2)
                    obtain ⟨Ao96, co96, eo96⟩ := Kd.R_slice HO404.out
                    (first | subst eo96 | (injection eo96 with f1_ f2_ f3_; have f4_ := f1_.symm; have f5_ := f3_.symm; clear f1_ f2_ f3_; subst f4_; subst f5_))
                    obtain ⟨Ao97, co97, eo97⟩ := Kd.R_slice HO407.out
                    (first | subst eo97 | (injection eo97 with f1_ f2_ f3_; have f4_ := f1_.symm; have f5_ := f3_.symm; clear f1_ f2_ f3_; subst f4_; subst f5_))
                    obtain ⟨Ao98, co98, eo98⟩ := Kd.N_slice HO410.out
                    (first | subst eo98 | (injection eo98 with f1_ f2_ f3_; have f4_ := f1_.symm; have f5_ := f3_.symm; clear f1_ f2_ f3_; subst f4_; subst f5_))
                    obtain ⟨Ao99, co99, eo99⟩ := Kd.V_slice HO413.out
                    (first | subst eo99 | (injection eo99 with f1_ f2_ f3_; have f4_ := f1_.symm; have f5_ := f3_.symm; clear f1_ f2_ f3_; subst f4_; subst f5_))
                    obtain ⟨Ao100, co100, eo100⟩ := Kd.V_slice HO416.out
                    (first | subst eo100 | (injection eo100 with f1_ f2_ f3_; have f4_ := f1_.symm; have f5_ := f3_.symm; clear f1_ f2_ f3_; subst f4_; subst f5_))
                    obtain ⟨Ao101, co101, eo101⟩ := Kd.N_slice HO419.out
                    (first | subst eo101 | (injection eo101 with f1_ f2_ f3_; have f4_ := f1_.symm; have f5_ := f3_.symm; clear f1_ f2_ f3_; subst f4_; subst f5_))
                    refine hK.out _ _ ⟨(blk_cell BK347.out 0).trans rfl, (blk_cell BK347.out 1).trans rfl, (blk_cell BK347.out 2).trans rfl, (blk_cell BK365.out 0).trans rfl, (blk_cell BK365.out 1).trans rfl, (blk_cell BK365.out 2).trans rfl, (blk_cell BK376.out 0).trans rfl, (blk_cell BK376.out 1).trans rfl, (blk_cell BK376.out 2).trans rfl, (blk_cell BK387.out 0).trans rfl, (blk_cell BK387.out 1).trans rfl, (blk_cell BK387.out 2).trans rfl, (blk_cell BK398.out 0).trans rfl, (blk_cell BK398.out 1).trans rfl, (blk_cell BK398.out 2).trans rfl⟩ (fun hHeld => ?_)
                    clear hK K
                    refine norm_ (a' := ?_) ?_ ?_
                    rotate_left
                    · show Act.put _ (some 74) _ = _
                      simp only [Act.put, List.setIfInBounds_toArray, List.set_cons_zero, List.set_cons_succ, i64_w, i32_w]
                      rfl
                    refine one_ (i := 20) (N := some 75) #[true, true, true, true, true, true, true, true, true, true, true, true, true, true, true, true, true, true, true, true, true, false, false, false, false, false, false, false, false, false, false, false, false, false, false, false] rfl rfl (one_of HT_.out (by kernel_rfl)) (by decide) (fun K hK => ?_)
                    refine goes_ Try.func58 (by kernel_rfl) rfl #[.agg #[.slice Ao96 t402.length co96, .slice Ao97 t405.length co97, .slice Ao98 t408.length co98], .agg #[.slice Ao99 t411.length co99, .slice Ao100 t414.length co100, .slice Ao101 t417.length co101]] (by rfl) rfl rfl (by (try simp only [List.map_toArray, List.map_cons, List.map_nil]); first | done | rfl | (simp only [List.length_drop, List.length_take]; rfl)) ?_
                    with_reducible refine (newsreelref09_Same.calls kj3 _ _ t402 _ _ t405 _ _ t408 _ _ t411 _ _ t414 _ _ t417 true _ ?side1 ?side2 ?side3 ?side4 ?side5 ?side6 ?side7 ?side8 ?side9 ?side10 ?side11 ?side12 A35.out).mono ?_
                    (case side1 => exact Kd.C_y (Kd.R_reads' HO404.out).2.2)
                    (case side2 => exact (Kd.R_reads' HO404.out).2.1)
                    (case side3 => exact Kd.C_y (Kd.R_reads' HO407.out).2.2)
                    (case side4 => exact (Kd.R_reads' HO407.out).2.1)
                    (case side5 => exact Kd.C_y (Kd.N_reads' HO410.out).2.2)
                    (case side6 => exact (Kd.N_reads' HO410.out).2.1)
                    (case side7 => exact Kd.C_y (Kd.V_reads' HO413.out).2.2)
                    (case side8 => exact (Kd.V_reads' HO413.out).2.1)
                    (case side9 => exact Kd.C_y (Kd.V_reads' HO416.out).2.2)
                    (case side10 => exact (Kd.V_reads' HO416.out).2.1)
                    (case side11 => exact Kd.C_y (Kd.N_reads' HO419.out).2.2)
                    (case side12 => exact (Kd.N_reads' HO419.out).2.1)
                    rintro e w102 ⟨rfl, hb⟩
                    have hbk_w102 := Aside0.mk hb
                    refine ⟨_, rfl, ?_⟩
                    have n0_ := Aside0.mk (Kd.V_below (Kd.V_y HO_348000.out) hb)
                    have n1_ := Aside0.mk (Kd.V_below (Kd.V_y HO_348001.out) hb)
                    have n2_ := Aside0.mk (Kd.V_below (Kd.V_y HO_348002.out) hb)
                    have n3_ := Aside0.mk (Kd.V_below (Kd.V_y HO_349002.out) hb)
                    have n4_ := Aside0.mk (Kd.R_below (Kd.R_y HO357.out) hb)
                    have n5_ := Aside0.mk (Kd.R_below (Kd.R_y HO360.out) hb)
                    have n6_ := Aside0.mk (Kd.N_below (Kd.N_y HO363.out) hb)
                    have n7_ := Aside0.mk (Kd.R_below (Kd.R_y HO368.out) hb)
                    have n8_ := Aside0.mk (Kd.V_below (Kd.V_y HO371.out) hb)
                    have n9_ := Aside0.mk (Kd.N_below (Kd.N_y HO374.out) hb)
                    have n10_ := Aside0.mk (Kd.R_below (Kd.R_y HO379.out) hb)
                    have n11_ := Aside0.mk (Kd.R_below (Kd.R_y HO382.out) hb)
                    have n12_ := Aside0.mk (Kd.N_below (Kd.N_y HO385.out) hb)
                    have n13_ := Aside0.mk (Kd.V_below (Kd.V_y HO390.out) hb)
                    have n14_ := Aside0.mk (Kd.V_below (Kd.V_y HO393.out) hb)
                    have n15_ := Aside0.mk (Kd.N_below (Kd.N_y HO396.out) hb)
                    have n16_ := Aside0.mk (Kd.R_below (Kd.R_y HO404.out) hb)
                    have n17_ := Aside0.mk (Kd.R_below (Kd.R_y HO407.out) hb)
                    have n18_ := Aside0.mk (Kd.N_below (Kd.N_y HO410.out) hb)
                    have n19_ := Aside0.mk (Kd.V_below (Kd.V_y HO413.out) hb)
                    have n20_ := Aside0.mk (Kd.V_below (Kd.V_y HO416.out) hb)
                    have n21_ := Aside0.mk (Kd.N_below (Kd.N_y HO419.out) hb)
                    have n22_ := Aside0.mk (blk_below (g := gb347) (o := .cells #[.slice A0_0 l0_0.length c0_0, .slice A0_1 l0_1.length c0_1, .slice A0_2 l0_2.length c0_2] 76 (0, 0)) (blk_y BK347.out) hb)
                    have n23_ := Aside0.mk (blk_below (g := gb348) (o := .cells #[.bool a1_0, .int .i64 a1_1, .slice A1_2 l1_2.length c1_2] 78 (0, 0)) (blk_y BK348.out) hb)
                    have n24_ := Aside0.mk (blk_below (g := gb365) (o := .cells #[.slice Ao46 t355.length co46, .slice Ao50 t358.length co50, .slice Ao51 t361.length co51] 76 (0, 0)) (blk_y BK365.out) hb)
                    have n25_ := Aside0.mk (blk_below (g := gb376) (o := .cells #[.slice Ao57 t366.length co57, .slice Ao62 t369.length co62, .slice Ao63 t372.length co63] 76 (0, 0)) (blk_y BK376.out) hb)
                    have n26_ := Aside0.mk (blk_below (g := gb387) (o := .cells #[.slice Ao68 t377.length co68, .slice Ao74 t380.length co74, .slice Ao75 t383.length co75] 76 (0, 0)) (blk_y BK387.out) hb)
                    have n27_ := Aside0.mk (blk_below (g := gb398) (o := .cells #[.slice Ao80 t388.length co80, .slice Ao87 t391.length co87, .slice Ao88 t394.length co88] 76 (0, 0)) (blk_y BK398.out) hb)
                    have n28_ := Aside0.mk (below_step (below_y HB.out) hb)
                    clear HO_348000
                    clear HO_348001
                    clear HO_348002
                    clear HO_349002
                    clear HO357
                    clear HO360
                    clear HO363
                    clear HO368
                    clear HO371
                    clear HO374
                    clear HO379
                    clear HO382
                    clear HO385
                    clear HO390
                    clear HO393
                    clear HO396
                    clear HO404
                    clear HO407
                    clear HO410
                    clear HO413
                    clear HO416
                    clear HO419
                    clear BK347
                    clear BK348
                    clear BK365
                    clear BK376
                    clear BK387
                    clear BK398
                    clear HB
                    have HO_348000 := n0_
                    have HO_348001 := n1_
                    have HO_348002 := n2_
                    have HO_349002 := n3_
                    have HO357 := n4_
                    have HO360 := n5_
                    have HO363 := n6_
                    have HO368 := n7_
                    have HO371 := n8_
                    have HO374 := n9_
                    have HO379 := n10_
                    have HO382 := n11_
                    have HO385 := n12_
                    have HO390 := n13_
                    have HO393 := n14_
                    have HO396 := n15_
                    have HO404 := n16_
                    have HO407 := n17_
                    have HO410 := n18_
                    have HO413 := n19_
                    have HO416 := n20_
                    have HO419 := n21_
                    have BK347 := n22_
                    have BK348 := n23_
                    have BK365 := n24_
                    have BK376 := n25_
                    have BK387 := n26_
                    have BK398 := n27_
                    have HB := n28_
                    clear n0_ n1_ n2_ n3_ n4_ n5_ n6_ n7_ n8_ n9_ n10_ n11_ n12_ n13_ n14_ n15_ n16_ n17_ n18_ n19_ n20_ n21_ n22_ n23_ n24_ n25_ n26_ n27_ n28_
                    (try clear hb)
                    (try clear hb2)
                    (try clear hk)
                    (try clear hi)
                    refine hK.out _ _ ⟨(blk_cell BK347.out 0).trans rfl, (blk_cell BK347.out 1).trans rfl, (blk_cell BK347.out 2).trans rfl, (blk_cell BK365.out 0).trans rfl, (blk_cell BK365.out 1).trans rfl, (blk_cell BK365.out 2).trans rfl, (blk_cell BK376.out 0).trans rfl, (blk_cell BK376.out 1).trans rfl, (blk_cell BK376.out 2).trans rfl, (blk_cell BK387.out 0).trans rfl, (blk_cell BK387.out 1).trans rfl, (blk_cell BK387.out 2).trans rfl, (blk_cell BK398.out 0).trans rfl, (blk_cell BK398.out 1).trans rfl, (blk_cell BK398.out 2).trans rfl⟩ (fun hHeld => ?_)
                    clear hK K
                    refine norm_ (a' := ?_) ?_ ?_
                    rotate_left
                    · show Act.put _ (some 75) _ = _
                      simp only [Act.put, List.setIfInBounds_toArray, List.set_cons_zero, List.set_cons_succ, i64_w, i32_w]
                      rfl
                    refine pure_ (i := 21) (N := some 76) (v := ?_) (a' := ?_) #[true, true, true, true, true, true, true, true, true, true, true, true, true, true, true, true, true, true, true, true, true, true, false, false, false, false, false, false, false, false, false, false, false, false, false, false] rfl rfl (any_of HT_.out (by kernel_rfl)) (fun _ _ _ h => h) (Or.inl ⟨by rfl, ?_⟩) ?_ ?_
                    rotate_left
                    · intro w'
                      go_simp
                      with_reducible rfl
                    rotate_left
                    · simp only [Act.put, List.setIfInBounds_toArray, List.set_cons_zero, List.set_cons_succ, i64_w, i32_w]
                      rfl
                    refine pure_ (i := 22) (N := some 77) (v := ?_) (a' := ?_) #[true, true, true, true, true, true, true, true, true, true, true, true, true, true, true, true, true, true, true, true, true, true, true, false, false, false, false, false, false, false, false, false, false, false, false, false] rfl rfl (any_of HT_.out (by kernel_rfl)) (fun _ _ _ h => h) (Or.inl ⟨by rfl, ?_⟩) ?_ ?_
                    rotate_left
                    · intro w'
                      go_simp
                      with_reducible rfl
                    rotate_left
                    · simp only [Act.put, List.setIfInBounds_toArray, List.set_cons_zero, List.set_cons_succ, i64_w, i32_w]
                      rfl
                    refine take_ (i := 23) (N := some 78) (v := ?_) (a' := ?_) #[true, true, true, true, true, true, true, true, true, true, true, true, true, true, true, true, true, true, true, true, true, true, true, true, false, false, false, false, false, false, false, false, false, false, false, false] rfl rfl (take_ofW HT_.out HW_.out (by kernel_rfl)) (fun _ _ _ h => h) (Or.inl ⟨by rfl, ?_⟩) hHeld ?_ ?_
                    rotate_left
                    · rintro w' ⟨s0, s1, s2, s3, s4, s5, s6, s7, s8, s9, s10, s11, s12, s13, s14⟩
                      go_simp
                      with_reducible rfl
                    rotate_left
                    · simp only [Act.put, List.setIfInBounds_toArray, List.set_cons_zero, List.set_cons_succ, i64_w, i32_w]
                      rfl
                    refine take_ (i := 24) (N := some 79) (v := ?_) (a' := ?_) #[true, true, true, true, true, true, true, true, true, true, true, true, true, true, true, true, true, true, true, true, true, true, true, true, true, false, false, false, false, false, false, false, false, false, false, false] rfl rfl (take_ofW HT_.out HW_.out (by kernel_rfl)) (fun _ _ _ h => h) (Or.inl ⟨by rfl, ?_⟩) hHeld ?_ ?_
                    rotate_left
                    · rintro w' ⟨s0, s1, s2, s3, s4, s5, s6, s7, s8, s9, s10, s11, s12, s13, s14⟩
                      go_simp
                      with_reducible rfl
                    rotate_left
                    · simp only [Act.put, List.setIfInBounds_toArray, List.set_cons_zero, List.set_cons_succ, i64_w, i32_w]
                      rfl
                    refine one_ (i := 25) (N := some 80) #[true, true, true, true, true, true, true, true, true, true, true, true, true, true, true, true, true, true, true, true, true, true, true, true, true, true, false, false, false, false, false, false, false, false, false, false] rfl rfl (one_of HT_.out (by kernel_rfl)) (by decide) (fun K hK => ?_)
                    refine goes_ Try.func58 (by kernel_rfl) rfl #[.agg #[.slice Ao68 t377.length co68, .slice Ao74 t380.length co74, .slice Ao75 t383.length co75], .agg #[.slice Ao80 t388.length co80, .slice Ao87 t391.length co87, .slice Ao88 t394.length co88]] (by rfl) rfl rfl (by (try simp only [List.map_toArray, List.map_cons, List.map_nil]); first | done | rfl | (simp only [List.length_drop, List.length_take]; rfl)) ?_
                    with_reducible refine (newsreelref09_Same.calls kj3 _ _ t377 _ _ t380 _ _ t383 _ _ t388 _ _ t391 _ _ t394 true _ ?side1 ?side2 ?side3 ?side4 ?side5 ?side6 ?side7 ?side8 ?side9 ?side10 ?side11 ?side12 A37.out).mono ?_
                    (case side1 => exact Kd.C_y (Kd.R_reads' HO379.out).2.2)
                    (case side2 => exact (Kd.R_reads' HO379.out).2.1)
                    (case side3 => exact Kd.C_y (Kd.R_reads' HO382.out).2.2)
                    (case side4 => exact (Kd.R_reads' HO382.out).2.1)
                    (case side5 => exact Kd.C_y (Kd.N_reads' HO385.out).2.2)
                    (case side6 => exact (Kd.N_reads' HO385.out).2.1)
                    (case side7 => exact Kd.C_y (Kd.V_reads' HO390.out).2.2)
                    (case side8 => exact (Kd.V_reads' HO390.out).2.1)
                    (case side9 => exact Kd.C_y (Kd.V_reads' HO393.out).2.2)
                    (case side10 => exact (Kd.V_reads' HO393.out).2.1)
                    (case side11 => exact Kd.C_y (Kd.N_reads' HO396.out).2.2)
                    (case side12 => exact (Kd.N_reads' HO396.out).2.1)
                    rintro e w103 ⟨rfl, hb⟩
                    have hbk_w103 := Aside0.mk hb
                    refine ⟨_, rfl, ?_⟩
                    have n0_ := Aside0.mk (Kd.V_below (Kd.V_y HO_348000.out) hb)
                    have n1_ := Aside0.mk (Kd.V_below (Kd.V_y HO_348001.out) hb)
                    have n2_ := Aside0.mk (Kd.V_below (Kd.V_y HO_348002.out) hb)
                    have n3_ := Aside0.mk (Kd.V_below (Kd.V_y HO_349002.out) hb)
                    have n4_ := Aside0.mk (Kd.R_below (Kd.R_y HO357.out) hb)
                    have n5_ := Aside0.mk (Kd.R_below (Kd.R_y HO360.out) hb)
                    have n6_ := Aside0.mk (Kd.N_below (Kd.N_y HO363.out) hb)
                    have n7_ := Aside0.mk (Kd.R_below (Kd.R_y HO368.out) hb)
                    have n8_ := Aside0.mk (Kd.V_below (Kd.V_y HO371.out) hb)
                    have n9_ := Aside0.mk (Kd.N_below (Kd.N_y HO374.out) hb)
                    have n10_ := Aside0.mk (Kd.R_below (Kd.R_y HO379.out) hb)
                    have n11_ := Aside0.mk (Kd.R_below (Kd.R_y HO382.out) hb)
                    have n12_ := Aside0.mk (Kd.N_below (Kd.N_y HO385.out) hb)
                    have n13_ := Aside0.mk (Kd.V_below (Kd.V_y HO390.out) hb)
                    have n14_ := Aside0.mk (Kd.V_below (Kd.V_y HO393.out) hb)
                    have n15_ := Aside0.mk (Kd.N_below (Kd.N_y HO396.out) hb)
                    have n16_ := Aside0.mk (Kd.R_below (Kd.R_y HO404.out) hb)
                    have n17_ := Aside0.mk (Kd.R_below (Kd.R_y HO407.out) hb)
                    have n18_ := Aside0.mk (Kd.N_below (Kd.N_y HO410.out) hb)
                    have n19_ := Aside0.mk (Kd.V_below (Kd.V_y HO413.out) hb)
                    have n20_ := Aside0.mk (Kd.V_below (Kd.V_y HO416.out) hb)
                    have n21_ := Aside0.mk (Kd.N_below (Kd.N_y HO419.out) hb)
                    have n22_ := Aside0.mk (blk_below (g := gb347) (o := .cells #[.slice A0_0 l0_0.length c0_0, .slice A0_1 l0_1.length c0_1, .slice A0_2 l0_2.length c0_2] 76 (0, 0)) (blk_y BK347.out) hb)
                    have n23_ := Aside0.mk (blk_below (g := gb348) (o := .cells #[.bool a1_0, .int .i64 a1_1, .slice A1_2 l1_2.length c1_2] 78 (0, 0)) (blk_y BK348.out) hb)
                    have n24_ := Aside0.mk (blk_below (g := gb365) (o := .cells #[.slice Ao46 t355.length co46, .slice Ao50 t358.length co50, .slice Ao51 t361.length co51] 76 (0, 0)) (blk_y BK365.out) hb)
                    have n25_ := Aside0.mk (blk_below (g := gb376) (o := .cells #[.slice Ao57 t366.length co57, .slice Ao62 t369.length co62, .slice Ao63 t372.length co63] 76 (0, 0)) (blk_y BK376.out) hb)
                    have n26_ := Aside0.mk (blk_below (g := gb387) (o := .cells #[.slice Ao68 t377.length co68, .slice Ao74 t380.length co74, .slice Ao75 t383.length co75] 76 (0, 0)) (blk_y BK387.out) hb)
                    have n27_ := Aside0.mk (blk_below (g := gb398) (o := .cells #[.slice Ao80 t388.length co80, .slice Ao87 t391.length co87, .slice Ao88 t394.length co88] 76 (0, 0)) (blk_y BK398.out) hb)
                    have n28_ := Aside0.mk (below_step (below_y HB.out) hb)
                    clear HO_348000
                    clear HO_348001
                    clear HO_348002
                    clear HO_349002
                    clear HO357
                    clear HO360
                    clear HO363
                    clear HO368
                    clear HO371
                    clear HO374
                    clear HO379
                    clear HO382
                    clear HO385
                    clear HO390
                    clear HO393
                    clear HO396
                    clear HO404
                    clear HO407
                    clear HO410
                    clear HO413
                    clear HO416
                    clear HO419
                    clear BK347
                    clear BK348
                    clear BK365
                    clear BK376
                    clear BK387
                    clear BK398
                    clear HB
                    have HO_348000 := n0_
                    have HO_348001 := n1_
                    have HO_348002 := n2_
                    have HO_349002 := n3_
                    have HO357 := n4_
                    have HO360 := n5_
                    have HO363 := n6_
                    have HO368 := n7_
                    have HO371 := n8_
                    have HO374 := n9_
                    have HO379 := n10_
                    have HO382 := n11_
                    have HO385 := n12_
                    have HO390 := n13_
                    have HO393 := n14_
                    have HO396 := n15_
                    have HO404 := n16_
                    have HO407 := n17_
                    have HO410 := n18_
                    have HO413 := n19_
                    have HO416 := n20_
                    have HO419 := n21_
                    have BK347 := n22_
                    have BK348 := n23_
                    have BK365 := n24_
                    have BK376 := n25_
                    have BK387 := n26_
                    have BK398 := n27_
                    have HB := n28_
                    clear n0_ n1_ n2_ n3_ n4_ n5_ n6_ n7_ n8_ n9_ n10_ n11_ n12_ n13_ n14_ n15_ n16_ n17_ n18_ n19_ n20_ n21_ n22_ n23_ n24_ n25_ n26_ n27_ n28_
                    (try clear hb)
                    (try clear hb2)
                    (try clear hk)
                    (try clear hi)
                    refine hK.out _ _ ⟨(blk_cell BK347.out 0).trans rfl, (blk_cell BK347.out 1).trans rfl, (blk_cell BK347.out 2).trans rfl, (blk_cell BK365.out 0).trans rfl, (blk_cell BK365.out 1).trans rfl, (blk_cell BK365.out 2).trans rfl, (blk_cell BK376.out 0).trans rfl, (blk_cell BK376.out 1).trans rfl, (blk_cell BK376.out 2).trans rfl, (blk_cell BK387.out 0).trans rfl, (blk_cell BK387.out 1).trans rfl, (blk_cell BK387.out 2).trans rfl, (blk_cell BK398.out 0).trans rfl, (blk_cell BK398.out 1).trans rfl, (blk_cell BK398.out 2).trans rfl⟩ (fun hHeld => ?_)
                    clear hK K
                    refine norm_ (a' := ?_) ?_ ?_
                    rotate_left
                    · show Act.put _ (some 80) _ = _
                      simp only [Act.put, List.setIfInBounds_toArray, List.set_cons_zero, List.set_cons_succ, i64_w, i32_w]
                      rfl
                    refine pure_ (i := 26) (N := some 81) (v := ?_) (a' := ?_) #[true, true, true, true, true, true, true, true, true, true, true, true, true, true, true, true, true, true, true, true, true, true, true, true, true, true, true, false, false, false, false, false, false, false, false, false] rfl rfl (any_of HT_.out (by kernel_rfl)) (fun _ _ _ h => h) (Or.inl ⟨by rfl, ?_⟩) ?_ ?_
                    rotate_left
                    · intro w'
                      go_simp
                      with_reducible rfl
                    rotate_left
                    · simp only [Act.put, List.setIfInBounds_toArray, List.set_cons_zero, List.set_cons_succ, i64_w, i32_w]
                      rfl
                    refine pure_ (i := 27) (N := some 82) (v := ?_) (a' := ?_) #[true, true, true, true, true, true, true, true, true, true, true, true, true, true, true, true, true, true, true, true, true, true, true, true, true, true, true, true, false, false, false, false, false, false, false, false] rfl rfl (any_of HT_.out (by kernel_rfl)) (fun _ _ _ h => h) (Or.inl ⟨by rfl, ?_⟩) ?_ ?_
                    rotate_left
                    · intro w'
                      go_simp
                      with_reducible rfl
                    rotate_left
                    · simp only [Act.put, List.setIfInBounds_toArray, List.set_cons_zero, List.set_cons_succ, i64_w, i32_w]
                      rfl
                    refine pure_ (i := 28) (N := some 83) (v := ?_) (a' := ?_) #[true, true, true, true, true, true, true, true, true, true, true, true, true, true, true, true, true, true, true, true, true, true, true, true, true, true, true, true, true, false, false, false, false, false, false, false] rfl rfl (any_of HT_.out (by kernel_rfl)) (fun _ _ _ h => h) (Or.inl ⟨by rfl, ?_⟩) ?_ ?_
                    rotate_left
                    · intro w'
                      go_simp
                      with_reducible rfl
                    rotate_left
                    · simp only [Act.put, List.setIfInBounds_toArray, List.set_cons_zero, List.set_cons_succ, i64_w, i32_w]
                      rfl
                    refine pure_ (i := 29) (N := some 84) (v := ?_) (a' := ?_) #[true, true, true, true, true, true, true, true, true, true, true, true, true, true, true, true, true, true, true, true, true, true, true, true, true, true, true, true, true, true, false, false, false, false, false, false] rfl rfl (any_of HT_.out (by kernel_rfl)) (fun _ _ _ h => h) (Or.inl ⟨by rfl, ?_⟩) ?_ ?_
                    rotate_left
                    · intro w'
                      go_simp
                      with_reducible rfl
                    rotate_left
                    · simp only [Act.put, List.setIfInBounds_toArray, List.set_cons_zero, List.set_cons_succ, i64_w, i32_w]
                      rfl
                    refine pure_ (i := 30) (N := some 85) (v := ?_) (a' := ?_) #[true, true, true, true, true, true, true, true, true, true, true, true, true, true, true, true, true, true, true, true, true, true, true, true, true, true, true, true, true, true, true, false, false, false, false, false] rfl rfl (any_of HT_.out (by kernel_rfl)) (fun _ _ _ h => h) (Or.inl ⟨by rfl, ?_⟩) ?_ ?_
                    rotate_left
                    · intro w'
                      go_simp
                      with_reducible rfl
                    rotate_left
                    · simp only [Act.put, List.setIfInBounds_toArray, List.set_cons_zero, List.set_cons_succ, i64_w, i32_w]
                      rfl
                    refine pure_ (i := 31) (N := some 86) (v := ?_) (a' := ?_) #[true, true, true, true, true, true, true, true, true, true, true, true, true, true, true, true, true, true, true, true, true, true, true, true, true, true, true, true, true, true, true, true, false, false, false, false] rfl rfl (any_of HT_.out (by kernel_rfl)) (fun _ _ _ h => h) (Or.inl ⟨by rfl, ?_⟩) ?_ ?_
                    rotate_left
                    · intro w'
                      go_simp
                      with_reducible rfl
                    rotate_left
                    · simp only [Act.put, List.setIfInBounds_toArray, List.set_cons_zero, List.set_cons_succ, i64_w, i32_w]
                      rfl
                    refine pure_ (i := 32) (N := some 87) (v := ?_) (a' := ?_) #[true, true, true, true, true, true, true, true, true, true, true, true, true, true, true, true, true, true, true, true, true, true, true, true, true, true, true, true, true, true, true, true, true, false, false, false] rfl rfl (any_of HT_.out (by kernel_rfl)) (fun _ _ _ h => h) (Or.inl ⟨by rfl, ?_⟩) ?_ ?_
                    rotate_left
                    · intro w'
                      go_simp
                      with_reducible rfl
                    rotate_left
                    · simp only [Act.put, List.setIfInBounds_toArray, List.set_cons_zero, List.set_cons_succ, i64_w, i32_w]
                      rfl
                    refine one_ (i := 33) (N := some 88) #[true, true, true, true, true, true, true, true, true, true, true, true, true, true, true, true, true, true, true, true, true, true, true, true, true, true, true, true, true, true, true, true, true, true, false, false] rfl rfl (one_of HT_.out (by kernel_rfl)) (by decide) (fun K hK => ?_)
                    refine goes_ Try.func51 (by kernel_rfl) rfl #[] (by rfl) rfl rfl (by (try simp only [List.map_toArray, List.map_cons, List.map_nil]); first | done | rfl | (simp only [List.length_drop, List.length_take]; rfl)) ?_
                    with_reducible refine (newsreellaw09_awake.calls kj3  t422 _ A40.out).mono ?_
                    rintro e w104 ⟨rfl, hb⟩
                    have hbk_w104 := Aside0.mk hb
                    refine ⟨_, rfl, ?_⟩
                    have n0_ := Aside0.mk (Kd.V_below (Kd.V_y HO_348000.out) hb)
                    have n1_ := Aside0.mk (Kd.V_below (Kd.V_y HO_348001.out) hb)
                    have n2_ := Aside0.mk (Kd.V_below (Kd.V_y HO_348002.out) hb)
                    have n3_ := Aside0.mk (Kd.V_below (Kd.V_y HO_349002.out) hb)
                    have n4_ := Aside0.mk (Kd.R_below (Kd.R_y HO357.out) hb)
                    have n5_ := Aside0.mk (Kd.R_below (Kd.R_y HO360.out) hb)
                    have n6_ := Aside0.mk (Kd.N_below (Kd.N_y HO363.out) hb)
                    have n7_ := Aside0.mk (Kd.R_below (Kd.R_y HO368.out) hb)
                    have n8_ := Aside0.mk (Kd.V_below (Kd.V_y HO371.out) hb)
                    have n9_ := Aside0.mk (Kd.N_below (Kd.N_y HO374.out) hb)
                    have n10_ := Aside0.mk (Kd.R_below (Kd.R_y HO379.out) hb)
                    have n11_ := Aside0.mk (Kd.R_below (Kd.R_y HO382.out) hb)
                    have n12_ := Aside0.mk (Kd.N_below (Kd.N_y HO385.out) hb)
                    have n13_ := Aside0.mk (Kd.V_below (Kd.V_y HO390.out) hb)
                    have n14_ := Aside0.mk (Kd.V_below (Kd.V_y HO393.out) hb)
                    have n15_ := Aside0.mk (Kd.N_below (Kd.N_y HO396.out) hb)
                    have n16_ := Aside0.mk (Kd.R_below (Kd.R_y HO404.out) hb)
                    have n17_ := Aside0.mk (Kd.R_below (Kd.R_y HO407.out) hb)
                    have n18_ := Aside0.mk (Kd.N_below (Kd.N_y HO410.out) hb)
                    have n19_ := Aside0.mk (Kd.V_below (Kd.V_y HO413.out) hb)
                    have n20_ := Aside0.mk (Kd.V_below (Kd.V_y HO416.out) hb)
                    have n21_ := Aside0.mk (Kd.N_below (Kd.N_y HO419.out) hb)
                    have n22_ := Aside0.mk (blk_below (g := gb347) (o := .cells #[.slice A0_0 l0_0.length c0_0, .slice A0_1 l0_1.length c0_1, .slice A0_2 l0_2.length c0_2] 76 (0, 0)) (blk_y BK347.out) hb)
                    have n23_ := Aside0.mk (blk_below (g := gb348) (o := .cells #[.bool a1_0, .int .i64 a1_1, .slice A1_2 l1_2.length c1_2] 78 (0, 0)) (blk_y BK348.out) hb)
                    have n24_ := Aside0.mk (blk_below (g := gb365) (o := .cells #[.slice Ao46 t355.length co46, .slice Ao50 t358.length co50, .slice Ao51 t361.length co51] 76 (0, 0)) (blk_y BK365.out) hb)
                    have n25_ := Aside0.mk (blk_below (g := gb376) (o := .cells #[.slice Ao57 t366.length co57, .slice Ao62 t369.length co62, .slice Ao63 t372.length co63] 76 (0, 0)) (blk_y BK376.out) hb)
                    have n26_ := Aside0.mk (blk_below (g := gb387) (o := .cells #[.slice Ao68 t377.length co68, .slice Ao74 t380.length co74, .slice Ao75 t383.length co75] 76 (0, 0)) (blk_y BK387.out) hb)
                    have n27_ := Aside0.mk (blk_below (g := gb398) (o := .cells #[.slice Ao80 t388.length co80, .slice Ao87 t391.length co87, .slice Ao88 t394.length co88] 76 (0, 0)) (blk_y BK398.out) hb)
                    have n28_ := Aside0.mk (below_step (below_y HB.out) hb)
                    clear HO_348000
                    clear HO_348001
                    clear HO_348002
                    clear HO_349002
                    clear HO357
                    clear HO360
                    clear HO363
                    clear HO368
                    clear HO371
                    clear HO374
                    clear HO379
                    clear HO382
                    clear HO385
                    clear HO390
                    clear HO393
                    clear HO396
                    clear HO404
                    clear HO407
                    clear HO410
                    clear HO413
                    clear HO416
                    clear HO419
                    clear BK347
                    clear BK348
                    clear BK365
                    clear BK376
                    clear BK387
                    clear BK398
                    clear HB
                    have HO_348000 := n0_
                    have HO_348001 := n1_
                    have HO_348002 := n2_
                    have HO_349002 := n3_
                    have HO357 := n4_
                    have HO360 := n5_
                    have HO363 := n6_
                    have HO368 := n7_
                    have HO371 := n8_
                    have HO374 := n9_
                    have HO379 := n10_
                    have HO382 := n11_
                    have HO385 := n12_
                    have HO390 := n13_
                    have HO393 := n14_
                    have HO396 := n15_
                    have HO404 := n16_
                    have HO407 := n17_
                    have HO410 := n18_
                    have HO413 := n19_
                    have HO416 := n20_
                    have HO419 := n21_
                    have BK347 := n22_
                    have BK348 := n23_
                    have BK365 := n24_
                    have BK376 := n25_
                    have BK387 := n26_
                    have BK398 := n27_
                    have HB := n28_
                    clear n0_ n1_ n2_ n3_ n4_ n5_ n6_ n7_ n8_ n9_ n10_ n11_ n12_ n13_ n14_ n15_ n16_ n17_ n18_ n19_ n20_ n21_ n22_ n23_ n24_ n25_ n26_ n27_ n28_
                    (try clear hb)
                    (try clear hb2)
                    (try clear hk)
                    (try clear hi)
                    refine hK.out _ _ ⟨(blk_cell BK347.out 0).trans rfl, (blk_cell BK347.out 1).trans rfl, (blk_cell BK347.out 2).trans rfl, (blk_cell BK365.out 0).trans rfl, (blk_cell BK365.out 1).trans rfl, (blk_cell BK365.out 2).trans rfl, (blk_cell BK376.out 0).trans rfl, (blk_cell BK376.out 1).trans rfl, (blk_cell BK376.out 2).trans rfl, (blk_cell BK387.out 0).trans rfl, (blk_cell BK387.out 1).trans rfl, (blk_cell BK387.out 2).trans rfl, (blk_cell BK398.out 0).trans rfl, (blk_cell BK398.out 1).trans rfl, (blk_cell BK398.out 2).trans rfl⟩ (fun hHeld => ?_)
                    clear hK K
                    refine norm_ (a' := ?_) ?_ ?_
                    rotate_left
                    · show Act.put _ (some 88) _ = _
                      simp only [Act.put, List.setIfInBounds_toArray, List.set_cons_zero, List.set_cons_succ, i64_w, i32_w]
                      rfl
                    refine pure_ (i := 34) (N := some 89) (v := ?_) (a' := ?_) #[true, true, true, true, true, true, true, true, true, true, true, true, true, true, true, true, true, true, true, true, true, true, true, true, true, true, true, true, true, true, true, true, true, true, true, false] rfl rfl (any_of HT_.out (by kernel_rfl)) (fun _ _ _ h => h) (Or.inl ⟨by rfl, ?_⟩) ?_ ?_
                    rotate_left
                    · intro w'
                      go_simp
                      with_reducible rfl
                    rotate_left
                    · simp only [Act.put, List.setIfInBounds_toArray, List.set_cons_zero, List.set_cons_succ, i64_w, i32_w]
                      rfl
                    refine pure_ (i := 35) (N := some 6) (v := ?_) (a' := ?_) #[true, true, true, true, true, true, true, true, true, true, true, true, true, true, true, true, true, true, true, true, true, true, true, true, true, true, true, true, true, true, true, true, true, true, true, true] rfl rfl (any_of HT_.out (by kernel_rfl)) (fun _ _ _ h => h) (Or.inl ⟨by rfl, ?_⟩) ?_ ?_
                    rotate_left
                    · intro w'
                      go_simp
                      with_reducible rfl
                    rotate_left
                    · simp only [Act.put, List.setIfInBounds_toArray, List.set_cons_zero, List.set_cons_succ, i64_w, i32_w]
                      rfl
                    refine done_ (done_of HT_.out (by kernel_rfl)) ?_
                    try go_wp2
                    go_ret
                    exact ⟨by first | rfl | (simp [errW_none, errW_some] <;> rfl) | (simp [*, errW_none, errW_some] <;> rfl), by repeat (first | (with_reducible first | exact HB.out | apply below_alloc | apply pw_below_drewN | apply below_drew1 | refine below_set ?_ GE347.out | refine below_set ?_ GE348.out | refine below_set ?_ GE365.out | refine below_set ?_ GE376.out | refine below_set ?_ GE387.out | refine below_set ?_ GE398.out) | exact HB.out)⟩
                  · rw [if_neg c39] at H
                    have c39b0 : (t386 == t397) = false := beq_eq_false_iff_ne.mpr c39
                    have c39b1 : (t386 != t397) = true := bne_iff_ne.mpr c39
                    cases (Option.some.inj H).trans ht_
                · replace c38 := Bool.eq_false_iff.mpr c38
                  subst c38
                  have H1 : (some false) = some r := by rw [if_neg (show ¬ (false = true) by decide)] at H; exact H
                  clear H
                  have H := H1
                  clear H1
                  cases (Option.some.inj H).trans ht_
              · replace c36 := Bool.eq_false_iff.mpr c36
                subst c36
                have H1 : (some false) = some r := by rw [if_neg (show ¬ (false = true) by decide)] at H; exact H
                clear H
                have H := H1
                clear H1
                cases (Option.some.inj H).trans ht_
            · rw [if_neg c32] at H
              have c32b0 : (t364 == t375) = false := beq_eq_false_iff_ne.mpr c32
              have c32b1 : (t364 != t375) = true := bne_iff_ne.mpr c32
              cases (Option.some.inj H).trans ht_
          · replace c31 := Bool.eq_false_iff.mpr c31
            subst c31
            have H1 : (some false) = some r := by rw [if_neg (show ¬ (false = true) by decide)] at H; exact H
            clear H
            have H := H1
            clear H1
            cases (Option.some.inj H).trans ht_
        · rw [if_neg c29] at H
          have c29b0 : (t399 == t400) = false := by simpa using c29
          (try (have c29b1 : decide (t399 = t400) = false := by simpa using c29))
          (try (have c29b2 : (t399 == t400) = false := by simpa using c29))
          (try (have c29b3 : ¬ (t399 = t400) := by simpa using c29))
          clear c29
          cases (Option.some.inj H).trans ht_

end Go.Proofs.Ytkkikdjfigffhaa.XFil
