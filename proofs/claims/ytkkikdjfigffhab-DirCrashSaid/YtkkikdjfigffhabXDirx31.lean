-- By a program of this work (xprint.py) over the translation; Lean checks it.
import Derived.Test.YtkkikdjfigffhabXDirx0
import Derived.Test.YtkkikdjfigffhabXDirx26
import Derived.Test.YtkkikdjfigffhabXDirx28
import Derived.Test.YtkkikdjfigffhabXDirx29
import Derived.Test.YtkkikdjfigffhabXDirx30
namespace Go.Proofs.Ytkkikdjfigffhab.XDir
open Go.RowKit Go.Proofs.YtkkikdjfigffhabW.PrintWords Go.Proofs.YtkkikdjfigffhabW.PrintLast Go.Proofs.YtkkikdjfigffhabW.PrintMore
attribute [local go_sem] max2_int min2_int max_two min_two max_three min_three max_four min_four   -- for this text's walks alone
set_option linter.unusedVariables false
set_option linter.unusedSimpArgs false

/-! ### newsreelref10_Done: function 93 -/
mutual
def newsreelref10_Done.j0 : Nat → List (S77) → Int → Bool → Int → ByteArray → ByteArray → Int → Option ((List (S77)) × Int)
 | 0, _, _, _, _, _, _, _ => none
 | k + 1, x0, x6, x18, x290000, x290001, x290002, x290003 => if x18 = true then (some (([] : List (S77)), 16)) else (if x290000 = 1 then ((newsreelref10_Name.f k x290001).bind fun t291 => (if t291 = true then (if x6 ≥ 0 then (some (([] : List (S77)), 6)) else (if (x0.length : Int) ≥ 100 then (some (([] : List (S77)), 7)) else ((newsreelref10_With.f k x0 x290001 x290003).bind fun t292 => (some (t292, 0))))) else (some (([] : List (S77)), 1)))) else (if x6 < 0 then (some (([] : List (S77)), 5)) else (if x290000 = 3 then ((newsreelref10_Without.f k x0 x290001).bind fun t295 => (some (t295, 0))) else ((newsreelref10_Name.f k x290002).bind fun t298 => (if t298 = true then (newsreelref10_Done.j1 k x0 x6 (x290002.toList == x290001.toList) x290000 x290001 x290002 x290003) else (newsreelref10_Done.j1 k x0 x6 true x290000 x290001 x290002 x290003))))))
def newsreelref10_Done.j1 : Nat → List (S77) → Int → Bool → Int → ByteArray → ByteArray → Int → Option ((List (S77)) × Int)
 | 0, _, _, _, _, _, _, _ => none
 | k + 1, x0, x6, x57, x290000, x290001, x290002, x290003 => if x57 = true then (some (([] : List (S77)), 1)) else ((newsreelref10_Without.f k x0 x290001).bind fun t299 => ((newsreelref10_Without.f k t299 x290002).bind fun t302 => (if 0 ≤ x6 then (if x6 < (x0.length : Int) then ((newsreelref10_With.f k t302 x290002 ((rd_T77 x0 x6).f1)).bind fun t306 => (some (t306, 0))) else (none)) else (none))))
end
def newsreelref10_Done.f (k : Nat) (l0 : List (S77)) (a1_0 : Int) (a1_1 : ByteArray) (a1_2 : ByteArray) (a1_3 : Int) : Option ((List (S77)) × Int) := (newsreelref10_At.f k l0 a1_1).bind fun t290 => (if a1_0 < 1 then (newsreelref10_Done.j0 k l0 t290 true a1_0 a1_1 a1_2 a1_3) else (newsreelref10_Done.j0 k l0 t290 (decide (a1_0 > 3)) a1_0 a1_1 a1_2 a1_3))
theorem newsreelref10_Done.mono_l : ∀ k, (∀ y0 y1 y2 y3 y4 y5 y6, LeO (newsreelref10_Done.j0 k y0 y1 y2 y3 y4 y5 y6) (newsreelref10_Done.j0 (k + 1) y0 y1 y2 y3 y4 y5 y6)) ∧ (∀ y0 y1 y2 y3 y4 y5 y6, LeO (newsreelref10_Done.j1 k y0 y1 y2 y3 y4 y5 y6) (newsreelref10_Done.j1 (k + 1) y0 y1 y2 y3 y4 y5 y6))
 | 0 => ⟨fun _ _ _ _ _ _ _ r h => by simp [newsreelref10_Done.j0] at h, fun _ _ _ _ _ _ _ r h => by simp [newsreelref10_Done.j1] at h⟩
 | k + 1 => by
  obtain ⟨ih0, ih1⟩ := newsreelref10_Done.mono_l k
  refine ⟨?_, ?_⟩
  ·intro y0 y1 y2 y3 y4 y5 y6
   unfold newsreelref10_Done.j0
   repeat' first
   | (with_reducible exact ih0 _ _ _ _ _ _ _)
   | (with_reducible exact ih1 _ _ _ _ _ _ _)
   | (with_reducible exact newsreelref10_At.mono _ _ _)
   | (with_reducible exact newsreelref10_Name.mono _ _)
   | (with_reducible exact newsreelref10_With.mono _ _ _ _)
   | (with_reducible exact newsreelref10_Without.mono _ _ _)
   | (with_reducible exact LeO.refl _)
   | (with_reducible exact LeO.none _)
   | (with_reducible refine LeO.ite ?_ ?_)
   | (with_reducible refine LeO.bind ?_ (fun _ => ?_))
   | exact ih0 _ _ _ _ _ _ _
   | exact ih1 _ _ _ _ _ _ _
   | exact newsreelref10_At.mono _ _ _
   | exact newsreelref10_Name.mono _ _
   | exact newsreelref10_With.mono _ _ _ _
   | exact newsreelref10_Without.mono _ _ _
   | exact LeO.none _
   | refine LeO.ite ?_ ?_
   | refine LeO.bind ?_ (fun _ => ?_)
  ·intro y0 y1 y2 y3 y4 y5 y6
   unfold newsreelref10_Done.j1
   repeat' first
   | (with_reducible exact ih0 _ _ _ _ _ _ _)
   | (with_reducible exact ih1 _ _ _ _ _ _ _)
   | (with_reducible exact newsreelref10_At.mono _ _ _)
   | (with_reducible exact newsreelref10_Name.mono _ _)
   | (with_reducible exact newsreelref10_With.mono _ _ _ _)
   | (with_reducible exact newsreelref10_Without.mono _ _ _)
   | (with_reducible exact LeO.refl _)
   | (with_reducible exact LeO.none _)
   | (with_reducible refine LeO.ite ?_ ?_)
   | (with_reducible refine LeO.bind ?_ (fun _ => ?_))
   | exact ih0 _ _ _ _ _ _ _
   | exact ih1 _ _ _ _ _ _ _
   | exact newsreelref10_At.mono _ _ _
   | exact newsreelref10_Name.mono _ _
   | exact newsreelref10_With.mono _ _ _ _
   | exact newsreelref10_Without.mono _ _ _
   | exact LeO.none _
   | refine LeO.ite ?_ ?_
   | refine LeO.bind ?_ (fun _ => ?_)
theorem newsreelref10_Done.mono : ∀ a0 a1 a2 a3 a4 k, LeO (newsreelref10_Done.f k a0 a1 a2 a3 a4) (newsreelref10_Done.f (k + 1) a0 a1 a2 a3 a4) := by
 intro a0 a1 a2 a3 a4 k
 obtain ⟨ih0, ih1⟩ := newsreelref10_Done.mono_l k
 unfold newsreelref10_Done.f
 repeat' first
   | (with_reducible exact ih0 _ _ _ _ _ _ _)
   | (with_reducible exact ih1 _ _ _ _ _ _ _)
   | (with_reducible exact newsreelref10_At.mono _ _ _)
   | (with_reducible exact newsreelref10_Name.mono _ _)
   | (with_reducible exact newsreelref10_With.mono _ _ _ _)
   | (with_reducible exact newsreelref10_Without.mono _ _ _)
   | (with_reducible exact LeO.refl _)
   | (with_reducible exact LeO.none _)
   | (with_reducible refine LeO.ite ?_ ?_)
   | (with_reducible refine LeO.bind ?_ (fun _ => ?_))
   | exact ih0 _ _ _ _ _ _ _
   | exact ih1 _ _ _ _ _ _ _
   | exact newsreelref10_At.mono _ _ _
   | exact newsreelref10_Name.mono _ _
   | exact newsreelref10_With.mono _ _ _ _
   | exact newsreelref10_Without.mono _ _ _
   | exact LeO.none _
   | refine LeO.ite ?_ ?_
   | refine LeO.bind ?_ (fun _ => ?_)
def newsreelref10_Done.T18 : Bool × List (List Nat × List Nat) := (true, [([], []), ([], []), ([1], [1]), ([0, 2], [0, 2]), ([], []), ([4], [4]), ([3, 5, 3], [3, 5]), ([], []), ([7], [7]), ([], []), ([], []), ([9, 10], [9, 10]), ([11], [11]), ([12], [12]), ([8, 13], [8, 13]), ([6, 14, 6], [6, 14]), ([15, 15, 0, 1, 2, 3, 4, 5, 6, 7, 8, 9, 10, 11, 12, 13, 14, 15], [15]), ([16, 0, 1, 2, 3, 4, 5, 6, 7, 8, 9, 10, 11, 12, 13, 14, 15, 16], [])])
def newsreelref10_Done.B18 : List Nat := [0, 0, 2, 7, 0, 16, 63, 0, 128, 0, 0, 1536, 3584, 7680, 16256, 32767, 65535, 131071]
theorem newsreelref10_Done.tab18 : rtab .any (opsOf Try.f93 18) = newsreelref10_Done.T18 := by kernel_rfl
theorem newsreelref10_Done.bits18 : waitsOk newsreelref10_Done.T18.2 newsreelref10_Done.B18 = true := by kernel_rfl
set_option maxHeartbeats 8000000 in
set_option maxRecDepth 100000 in
theorem newsreelref10_Done.calls (k : Nat) (A0 : Option Addr) (c0 : Nat) (l0 : List (S77)) (a1_0 : Int) (a1_1 : ByteArray) (a1_2 : ByteArray) (a1_3 : Int) (r1 : List (S77)) (r2 : Int) (w : World) (hr0 : Kd.C k77 w A0 l0.length l0) (hc0 : l0.length ≤ c0) (h : newsreelref10_Done.f k l0 a1_0 a1_1 a1_2 a1_3 = some (r1, r2)) :
  Calls Try.prog 93 #[.slice A0 l0.length c0, .agg #[.int .i64 a1_0, .string a1_1, .string a1_2, .int .i64 a1_3]] w fun e w' => ∃ v0_ : Value, e = .returned (.tuple #[v0_, .int .i64 r2]) ∧ Kd.R k77 77 w' w.heap.size (fun _ => True) v0_ r1 ∧ Below w.heap.size w w' := by
 have hu69 := Try.underlying69
 have hu77 := Try.underlying77
 have HR0 := mkA hr0
 have HC0 := mkA hc0
 clear hr0 hc0
 have HB := mkA (Below.refl w.heap.size w)
 have H : ((newsreelref10_At.f k l0 a1_1).bind fun t290 => (if a1_0 < 1 then (newsreelref10_Done.j0 k l0 t290 true a1_0 a1_1 a1_2 a1_3) else (newsreelref10_Done.j0 k l0 t290 (decide (a1_0 > 3)) a1_0 a1_1 a1_2 a1_3))) = some (r1, r2) := h
 clear h
 replace H := Option.bind_eq_some_iff.mp H
 obtain ⟨t290, A30, H⟩ := H
 replace H : (if a1_0 < 1 then (newsreelref10_Done.j0 k l0 t290 true a1_0 a1_1 a1_2 a1_3) else (newsreelref10_Done.j0 k l0 t290 (decide (a1_0 > 3)) a1_0 a1_1 a1_2 a1_3)) = some (r1, r2) := H
 have A3 := mkA A30
 clear A30
 have HC4 := mkA H
 clear H
 go_enter Try.func93, Try.ntmps93
 go_upto_region 2 with (first | ((with_reducible refine gate_load (t := 69) rfl ?_); refine load_row3 (t := 69) (g := gb289) ?hg BK289.out ?ho ?hb Try.underlying69 rfl ?hs ?_; (case hg => rfl); (case ho => refine ⟨_, rfl, ?_⟩; first | (with_reducible rfl) | (go_simp; done)); (case hb => (with_reducible repeat (first | refine blk_drewN ?_ _ | refine blk_drew ?_ | refine blk_alloc ?_ _)); with_reducible exact BK289.out); (case hs => kernel_rfl)) | ((with_reducible refine gate_dst (N := 3) rfl ?_); refine box_event ?hg (N := 3) ?hd (cs := #[.int .i64 a1_0, .string a1_1, .string a1_2, .int .i64 a1_3]) (t := 69) ?hr ?_; (case hd => rfl); (case hg => rfl); (case hr => first | (go_simp; done) | (go_simp; rfl)); intro gb289 hg w5 hbox hb; have n0_ := mkA (below_step (below_y HB.out) hb); have n1_ := mkA (hbox); have n2_ := mkA ((gz hg HB.out : w.heap.size ≤ gb289)); have n3_ := mkA ((gz hg HB.out : w.heap.size ≤ gb289)); clear HB; have HB := n0_; have BK289 := n1_; have GW289 := n2_; have GE289 := n3_; clear n0_ n1_ n2_ n3_; clear hb hbox hg; have hcz6_0 := bc BK289.out 0 (.int .i64 a1_0) rfl; have hcz6_1 := bc BK289.out 1 (.string a1_1) rfl; have hcz6_2 := bc BK289.out 2 (.string a1_2) rfl; have hcz6_3 := bc BK289.out 3 (.int .i64 a1_3) rfl; have hfz6_0 := blk_frozen BK289.out 0; have hfz6_1 := blk_frozen BK289.out 1; have hfz6_2 := blk_frozen BK289.out 2; have hfz6_3 := blk_frozen BK289.out 3) | ((with_reducible refine gate_callee (f := 45) rfl ?_); refine goesL_ (some 10) rfl rfl Try.func45 (by kernel_rfl) rfl #[.slice A0 l0.length c0, .string a1_1] rfl ca ?_; (with_reducible refine (newsreelref10_At.calls k _ _ l0 a1_1 t290 _ ?side1 ?side2 A3.out).mono ?_); (case side1 => exact cz HR0.out HB.out); (case side2 => exact HC0.out); rintro e w' ⟨rfl, ⟨nd, rfl⟩⟩; refine ⟨_, rfl, ?_⟩))
 (try simp only [Act.put, sA, s0, sS])
 go_cut [18] (fun v18 wc => ∃ (kq : Nat) (x18_3 : Bool), v18 = .bool x18_3 ∧ Aside0 (newsreelref10_Done.j0 kq l0 t290 x18_3 a1_0 a1_1 a1_2 a1_3 = some (r1, r2)) ∧ Aside0 (kq ≤ k) ∧ Aside0 (wc.heap[gb289]? = some (.cells #[.int .i64 a1_0, .string a1_1, .string a1_2, .int .i64 a1_3] 69 (0, 0))) ∧ Aside0 (Below w.heap.size w wc))
 case first =>
  have H := HC4.out
  clear HC4
  by_cases c7 : a1_0 < 1
  ·rw [if_pos c7] at H
   have c7b0 : decide (a1_0 < 1) = true := decide_eq_true c7
   clear c7
   (first | rw [c7b0] | (simp only [i64_w, i32_w]; rw [c7b0]) | skip)
   as_aux_lemma =>
    have H' := mkA H
    clear H
    have hcz8_0 := bc BK289.out 0 (.int .i64 a1_0) rfl
    have hcz8_1 := bc BK289.out 1 (.string a1_1) rfl
    have hcz8_2 := bc BK289.out 2 (.string a1_2) rfl
    have hcz8_3 := bc BK289.out 3 (.int .i64 a1_3) rfl
    have hfz8_0 := blk_frozen BK289.out 0
    have hfz8_1 := blk_frozen BK289.out 1
    have hfz8_2 := blk_frozen BK289.out 2
    have hfz8_3 := blk_frozen BK289.out 3
    go_wp2_with (first | ((with_reducible refine gate_load (t := 69) rfl ?_); refine load_row3 (t := 69) (g := gb289) ?hg BK289.out ?ho ?hb Try.underlying69 rfl ?hs ?_; (case hg => rfl); (case ho => refine ⟨_, rfl, ?_⟩; first | (with_reducible rfl) | (go_simp; done)); (case hb => (with_reducible repeat (first | refine blk_drewN ?_ _ | refine blk_drew ?_ | refine blk_alloc ?_ _)); with_reducible exact BK289.out); (case hs => kernel_rfl)))
    go_meet
    case rel => exact ⟨_, (true), (by first | rfl | (simp; done) | (simp [*]; done)), H', ⟨by first | omega | exact Nat.le_refl _⟩, ⟨by (with_reducible repeat (first | refine blk_drewN ?_ _ | refine blk_drew ?_ | refine blk_alloc ?_ _)); exact BK289.out⟩, ⟨by repeat (first | (with_reducible first | exact HB.out | apply below_alloc | apply pw_below_drewN | apply below_drew1 | refine below_set ?_ GE289.out) | exact HB.out)⟩⟩
  ·rw [if_neg c7] at H
   have c7b0 : decide (a1_0 < 1) = false := decide_eq_false c7
   clear c7
   (first | rw [c7b0] | (simp only [i64_w, i32_w]; rw [c7b0]) | skip)
   as_aux_lemma =>
    have H' := mkA H
    clear H
    have hcz9_0 := bc BK289.out 0 (.int .i64 a1_0) rfl
    have hcz9_1 := bc BK289.out 1 (.string a1_1) rfl
    have hcz9_2 := bc BK289.out 2 (.string a1_2) rfl
    have hcz9_3 := bc BK289.out 3 (.int .i64 a1_3) rfl
    have hfz9_0 := blk_frozen BK289.out 0
    have hfz9_1 := blk_frozen BK289.out 1
    have hfz9_2 := blk_frozen BK289.out 2
    have hfz9_3 := blk_frozen BK289.out 3
    go_wp2_with (first | ((with_reducible refine gate_load (t := 69) rfl ?_); refine load_row3 (t := 69) (g := gb289) ?hg BK289.out ?ho ?hb Try.underlying69 rfl ?hs ?_; (case hg => rfl); (case ho => refine ⟨_, rfl, ?_⟩; first | (with_reducible rfl) | (go_simp; done)); (case hb => (with_reducible repeat (first | refine blk_drewN ?_ _ | refine blk_drew ?_ | refine blk_alloc ?_ _)); with_reducible exact BK289.out); (case hs => kernel_rfl)))
    go_meet
    case rel => exact ⟨_, (decide (a1_0 > 3)), (by first | rfl | (simp; done) | (simp [*]; done)), H', ⟨by first | omega | exact Nat.le_refl _⟩, ⟨by (with_reducible repeat (first | refine blk_drewN ?_ _ | refine blk_drew ?_ | refine blk_alloc ?_ _)); exact BK289.out⟩, ⟨by repeat (first | (with_reducible first | exact HB.out | apply below_alloc | apply pw_below_drewN | apply below_drew1 | refine below_set ?_ GE289.out) | exact HB.out)⟩⟩
 case rest =>
  clear HC4
  try clear p2
  try clear c4
  try clear c7
  try clear c7b0
  try clear c9
  try clear hcz6_0
  try clear hcz6_1
  try clear hcz6_2
  try clear hcz6_3
  try clear hcz8_0
  try clear hcz8_1
  try clear hcz8_2
  try clear hcz8_3
  try clear hcz9_0
  try clear hcz9_1
  try clear hcz9_2
  try clear hcz9_3
  try clear hfz6_0
  try clear hfz6_1
  try clear hfz6_2
  try clear hfz6_3
  try clear hfz8_0
  try clear hfz8_1
  try clear hfz8_2
  try clear hfz8_3
  try clear hfz9_0
  try clear hfz9_1
  try clear hfz9_2
  try clear hfz9_3
  obtain ⟨kq, x18_3, rfl, HA, HJ3, BK289, HB⟩ := hcut
  cases kq with
  | zero => exact absurd HA.out (by simp [newsreelref10_Done.j0])
  | succ kj3 =>
   have H := HA.out
   clear HA
   simp only [newsreelref10_Done.j0] at H
   by_cases c10 : x18_3 = true
   ·subst c10
    have H1 : (some (([] : List (S77)), 16)) = some (r1, r2) := by rw [if_pos rfl] at H; exact H
    clear H
    have H := H1
    clear H1
    as_aux_lemma =>
     simp only [Option.some.injEq, Prod.mk.injEq] at H
     obtain ⟨rfl, rfl⟩ := H
     go_wp2_with (first | ((with_reducible refine gate_load (t := 69) rfl ?_); refine load_row3 (t := 69) (g := gb289) ?hg BK289.out ?ho ?hb Try.underlying69 rfl ?hs ?_; (case hg => rfl); (case ho => refine ⟨_, rfl, ?_⟩; first | (with_reducible rfl) | (go_simp; done)); (case hb => (with_reducible repeat (first | refine blk_drewN ?_ _ | refine blk_drew ?_ | refine blk_alloc ?_ _)); with_reducible exact BK289.out); (case hs => kernel_rfl)))
     go_ret2
     exact ⟨_, by first | rfl | (simp [errW_none, errW_some] <;> rfl) | (simp [*, errW_none, errW_some] <;> rfl), by first | exact Kd.R_nil _ _ _ _ _ | exact Kd.N_nil _ _ _ _ _ | exact Kd.V_nil _ _ _ _ _ | exact Kd.Q_nil _ _ _ _ _ | exact Kd.S_nil _ _ _ _ _, by repeat (first | (with_reducible first | exact HB.out | apply below_alloc | apply pw_below_drewN | apply below_drew1 | refine below_set ?_ GE289.out) | exact HB.out)⟩
   ·replace c10 := Bool.eq_false_iff.mpr c10
    subst c10
    have H1 : (if a1_0 = 1 then ((newsreelref10_Name.f kj3 a1_1).bind fun t291 => (if t291 = true then (if t290 ≥ 0 then (some (([] : List (S77)), 6)) else (if (l0.length : Int) ≥ 100 then (some (([] : List (S77)), 7)) else ((newsreelref10_With.f kj3 l0 a1_1 a1_3).bind fun t292 => (some (t292, 0))))) else (some (([] : List (S77)), 1)))) else (if t290 < 0 then (some (([] : List (S77)), 5)) else (if a1_0 = 3 then ((newsreelref10_Without.f kj3 l0 a1_1).bind fun t295 => (some (t295, 0))) else ((newsreelref10_Name.f kj3 a1_2).bind fun t298 => (if t298 = true then (newsreelref10_Done.j1 kj3 l0 t290 (a1_2.toList == a1_1.toList) a1_0 a1_1 a1_2 a1_3) else (newsreelref10_Done.j1 kj3 l0 t290 true a1_0 a1_1 a1_2 a1_3)))))) = some (r1, r2) := by rw [if_neg (show ¬ (false = true) by decide)] at H; exact H
    clear H
    have H := H1
    clear H1
    by_cases c11 : a1_0 = 1
    ·rw [if_pos c11] at H
     have c11b0 : (a1_0 == 1) = true := beq_iff_eq.mpr c11
     have c11b1 : (a1_0 != 1) = false := bne_eq_false_iff_eq.mpr c11
     clear c11
     replace H := Option.bind_eq_some_iff.mp H
     obtain ⟨t291, A120, H⟩ := H
     replace H : (if t291 = true then (if t290 ≥ 0 then (some (([] : List (S77)), 6)) else (if (l0.length : Int) ≥ 100 then (some (([] : List (S77)), 7)) else ((newsreelref10_With.f kj3 l0 a1_1 a1_3).bind fun t292 => (some (t292, 0))))) else (some (([] : List (S77)), 1))) = some (r1, r2) := H
     have A12 := mkA A120
     clear A120
     by_cases c13 : t291 = true
     ·subst c13
      have H1 : (if t290 ≥ 0 then (some (([] : List (S77)), 6)) else (if (l0.length : Int) ≥ 100 then (some (([] : List (S77)), 7)) else ((newsreelref10_With.f kj3 l0 a1_1 a1_3).bind fun t292 => (some (t292, 0))))) = some (r1, r2) := by rw [if_pos rfl] at H; exact H
      clear H
      have H := H1
      clear H1
      by_cases c14 : t290 ≥ 0
      ·rw [if_pos c14] at H
       have c14b0 : decide (0 ≤ t290) = true := decide_eq_true c14
       clear c14
       as_aux_lemma =>
        simp only [Option.some.injEq, Prod.mk.injEq] at H
        obtain ⟨rfl, rfl⟩ := H
        have hcz15_0 := bc BK289.out 0 (.int .i64 a1_0) rfl
        have hcz15_1 := bc BK289.out 1 (.string a1_1) rfl
        have hcz15_2 := bc BK289.out 2 (.string a1_2) rfl
        have hcz15_3 := bc BK289.out 3 (.int .i64 a1_3) rfl
        have hfz15_0 := blk_frozen BK289.out 0
        have hfz15_1 := blk_frozen BK289.out 1
        have hfz15_2 := blk_frozen BK289.out 2
        have hfz15_3 := blk_frozen BK289.out 3
        go_wp2_with (first | ((with_reducible refine gate_load (t := 69) rfl ?_); refine load_row3 (t := 69) (g := gb289) ?hg BK289.out ?ho ?hb Try.underlying69 rfl ?hs ?_; (case hg => rfl); (case ho => refine ⟨_, rfl, ?_⟩; first | (with_reducible rfl) | (go_simp; done)); (case hb => (with_reducible repeat (first | refine blk_drewN ?_ _ | refine blk_drew ?_ | refine blk_alloc ?_ _)); with_reducible exact BK289.out); (case hs => kernel_rfl)) | ((with_reducible refine gate_callee (f := 47) rfl ?_); refine goesL_ (some 24) rfl rfl Try.func47 (by kernel_rfl) rfl #[.string a1_1] rfl ca ?_; (with_reducible refine (newsreelref10_Name.calls kj3 a1_1 true _ A12.out).mono ?_); rintro e w' ⟨rfl, ⟨nd, rfl⟩⟩; refine ⟨_, rfl, ?_⟩))
        go_ret2
        exact ⟨_, by first | rfl | (simp [errW_none, errW_some] <;> rfl) | (simp [*, errW_none, errW_some] <;> rfl), by first | exact Kd.R_nil _ _ _ _ _ | exact Kd.N_nil _ _ _ _ _ | exact Kd.V_nil _ _ _ _ _ | exact Kd.Q_nil _ _ _ _ _ | exact Kd.S_nil _ _ _ _ _, by repeat (first | (with_reducible first | exact HB.out | apply below_alloc | apply pw_below_drewN | apply below_drew1 | refine below_set ?_ GE289.out) | exact HB.out)⟩
      ·rw [if_neg c14] at H
       have c14b0 : decide (0 ≤ t290) = false := decide_eq_false c14
       clear c14
       by_cases c16 : (l0.length : Int) ≥ 100
       ·rw [if_pos c16] at H
        have c16b0 : decide (100 ≤ (l0.length : Int)) = true := decide_eq_true c16
        have c16b1 : decide (100 ≤ l0.length) = true := decide_eq_true (by omega)
        clear c16
        as_aux_lemma =>
         simp only [Option.some.injEq, Prod.mk.injEq] at H
         obtain ⟨rfl, rfl⟩ := H
         have hcz17_0 := bc BK289.out 0 (.int .i64 a1_0) rfl
         have hcz17_1 := bc BK289.out 1 (.string a1_1) rfl
         have hcz17_2 := bc BK289.out 2 (.string a1_2) rfl
         have hcz17_3 := bc BK289.out 3 (.int .i64 a1_3) rfl
         have hfz17_0 := blk_frozen BK289.out 0
         have hfz17_1 := blk_frozen BK289.out 1
         have hfz17_2 := blk_frozen BK289.out 2
         have hfz17_3 := blk_frozen BK289.out 3
         go_wp2_with (first | ((with_reducible refine gate_load (t := 69) rfl ?_); refine load_row3 (t := 69) (g := gb289) ?hg BK289.out ?ho ?hb Try.underlying69 rfl ?hs ?_; (case hg => rfl); (case ho => refine ⟨_, rfl, ?_⟩; first | (with_reducible rfl) | (go_simp; done)); (case hb => (with_reducible repeat (first | refine blk_drewN ?_ _ | refine blk_drew ?_ | refine blk_alloc ?_ _)); with_reducible exact BK289.out); (case hs => kernel_rfl)) | ((with_reducible refine gate_callee (f := 47) rfl ?_); refine goesL_ (some 24) rfl rfl Try.func47 (by kernel_rfl) rfl #[.string a1_1] rfl ca ?_; (with_reducible refine (newsreelref10_Name.calls kj3 a1_1 true _ A12.out).mono ?_); rintro e w' ⟨rfl, ⟨nd, rfl⟩⟩; refine ⟨_, rfl, ?_⟩))
         go_ret2
         exact ⟨_, by first | rfl | (simp [errW_none, errW_some] <;> rfl) | (simp [*, errW_none, errW_some] <;> rfl), by first | exact Kd.R_nil _ _ _ _ _ | exact Kd.N_nil _ _ _ _ _ | exact Kd.V_nil _ _ _ _ _ | exact Kd.Q_nil _ _ _ _ _ | exact Kd.S_nil _ _ _ _ _, by repeat (first | (with_reducible first | exact HB.out | apply below_alloc | apply pw_below_drewN | apply below_drew1 | refine below_set ?_ GE289.out) | exact HB.out)⟩
       ·rw [if_neg c16] at H
        have c16b0 : decide (100 ≤ (l0.length : Int)) = false := decide_eq_false c16
        have c16b1 : decide (100 ≤ l0.length) = false := decide_eq_false (by omega)
        clear c16
        replace H := Option.bind_eq_some_iff.mp H
        obtain ⟨t292, A180, H⟩ := H
        replace H : (some (t292, 0)) = some (r1, r2) := H
        have A18 := mkA A180
        clear A180
        as_aux_lemma =>
         simp only [Option.some.injEq, Prod.mk.injEq] at H
         obtain ⟨rfl, rfl⟩ := H
         have hcz19_0 := bc BK289.out 0 (.int .i64 a1_0) rfl
         have hcz19_1 := bc BK289.out 1 (.string a1_1) rfl
         have hcz19_2 := bc BK289.out 2 (.string a1_2) rfl
         have hcz19_3 := bc BK289.out 3 (.int .i64 a1_3) rfl
         have hfz19_0 := blk_frozen BK289.out 0
         have hfz19_1 := blk_frozen BK289.out 1
         have hfz19_2 := blk_frozen BK289.out 2
         have hfz19_3 := blk_frozen BK289.out 3
         go_wp2_with (first | ((with_reducible refine gate_load (t := 69) rfl ?_); refine load_row3 (t := 69) (g := gb289) ?hg BK289.out ?ho ?hb Try.underlying69 rfl ?hs ?_; (case hg => rfl); (case ho => refine ⟨_, rfl, ?_⟩; first | (with_reducible rfl) | (go_simp; done)); (case hb => (with_reducible repeat (first | refine blk_drewN ?_ _ | refine blk_drew ?_ | refine blk_alloc ?_ _)); with_reducible exact BK289.out); (case hs => kernel_rfl)) | ((with_reducible refine gate_callee (f := 47) rfl ?_); refine goesL_ (some 24) rfl rfl Try.func47 (by kernel_rfl) rfl #[.string a1_1] rfl ca ?_; (with_reducible refine (newsreelref10_Name.calls kj3 a1_1 true _ A12.out).mono ?_); rintro e w' ⟨rfl, ⟨nd, rfl⟩⟩; refine ⟨_, rfl, ?_⟩) | ((with_reducible refine gate_callee (f := 131) rfl ?_); refine goesL_ (some 37) rfl rfl Try.func131 (by kernel_rfl) rfl #[.slice A0 l0.length c0, .agg #[.string a1_1, .int .i64 a1_3]] rfl ca ?_; (with_reducible refine (newsreelref10_With.calls kj3 _ _ l0 a1_1 a1_3 t292 _ ?side1 ?side2 A18.out).mono ?_); (case side1 => exact Kd.C_y (Kd.C_below HR0.out (below_y HB.out))); (case side2 => exact HC0.out); rintro e w20 ⟨v293, rfl, ho0, hb⟩; refine ⟨_, rfl, ?_⟩; have n0_ := mkA (Kd.R_lower ho0 (below_size (below_y HB.out))); have n1_ := mkA (blk_below (blk_y BK289.out) hb); have n2_ := mkA (below_step (below_y HB.out) hb); clear BK289; clear HB; have HO294 := n0_; have BK289 := n1_; have HB := n2_; clear n0_ n1_ n2_; (try clear hb); (try clear hb2); (try clear hk); (try clear hi); (try clear ho0)))
         go_ret2
         exact ⟨_, by first | rfl | (simp [errW_none, errW_some] <;> rfl) | (simp [*, errW_none, errW_some] <;> rfl), by (with_reducible repeat (first | apply Kd.R_alloc | apply Kd.R_drewN | apply Kd.R_drew)); exact HO294.out, by repeat (first | (with_reducible first | exact HB.out | apply below_alloc | apply pw_below_drewN | apply below_drew1 | refine below_set ?_ GE289.out) | exact HB.out)⟩
     ·replace c13 := Bool.eq_false_iff.mpr c13
      subst c13
      have H1 : (some (([] : List (S77)), 1)) = some (r1, r2) := by rw [if_neg (show ¬ (false = true) by decide)] at H; exact H
      clear H
      have H := H1
      clear H1
      as_aux_lemma =>
       simp only [Option.some.injEq, Prod.mk.injEq] at H
       obtain ⟨rfl, rfl⟩ := H
       have hcz21_0 := bc BK289.out 0 (.int .i64 a1_0) rfl
       have hcz21_1 := bc BK289.out 1 (.string a1_1) rfl
       have hcz21_2 := bc BK289.out 2 (.string a1_2) rfl
       have hcz21_3 := bc BK289.out 3 (.int .i64 a1_3) rfl
       have hfz21_0 := blk_frozen BK289.out 0
       have hfz21_1 := blk_frozen BK289.out 1
       have hfz21_2 := blk_frozen BK289.out 2
       have hfz21_3 := blk_frozen BK289.out 3
       go_wp2_with (first | ((with_reducible refine gate_load (t := 69) rfl ?_); refine load_row3 (t := 69) (g := gb289) ?hg BK289.out ?ho ?hb Try.underlying69 rfl ?hs ?_; (case hg => rfl); (case ho => refine ⟨_, rfl, ?_⟩; first | (with_reducible rfl) | (go_simp; done)); (case hb => (with_reducible repeat (first | refine blk_drewN ?_ _ | refine blk_drew ?_ | refine blk_alloc ?_ _)); with_reducible exact BK289.out); (case hs => kernel_rfl)) | ((with_reducible refine gate_callee (f := 47) rfl ?_); refine goesL_ (some 24) rfl rfl Try.func47 (by kernel_rfl) rfl #[.string a1_1] rfl ca ?_; (with_reducible refine (newsreelref10_Name.calls kj3 a1_1 false _ A12.out).mono ?_); rintro e w' ⟨rfl, ⟨nd, rfl⟩⟩; refine ⟨_, rfl, ?_⟩))
       go_ret2
       exact ⟨_, by first | rfl | (simp [errW_none, errW_some] <;> rfl) | (simp [*, errW_none, errW_some] <;> rfl), by first | exact Kd.R_nil _ _ _ _ _ | exact Kd.N_nil _ _ _ _ _ | exact Kd.V_nil _ _ _ _ _ | exact Kd.Q_nil _ _ _ _ _ | exact Kd.S_nil _ _ _ _ _, by repeat (first | (with_reducible first | exact HB.out | apply below_alloc | apply pw_below_drewN | apply below_drew1 | refine below_set ?_ GE289.out) | exact HB.out)⟩
    ·rw [if_neg c11] at H
     have c11b0 : (a1_0 == 1) = false := beq_eq_false_iff_ne.mpr c11
     have c11b1 : (a1_0 != 1) = true := bne_iff_ne.mpr c11
     by_cases c22 : t290 < 0
     ·rw [if_pos c22] at H
      have c22b0 : decide (t290 < 0) = true := decide_eq_true c22
      clear c22
      as_aux_lemma =>
       simp only [Option.some.injEq, Prod.mk.injEq] at H
       obtain ⟨rfl, rfl⟩ := H
       have hcz23_0 := bc BK289.out 0 (.int .i64 a1_0) rfl
       have hcz23_1 := bc BK289.out 1 (.string a1_1) rfl
       have hcz23_2 := bc BK289.out 2 (.string a1_2) rfl
       have hcz23_3 := bc BK289.out 3 (.int .i64 a1_3) rfl
       have hfz23_0 := blk_frozen BK289.out 0
       have hfz23_1 := blk_frozen BK289.out 1
       have hfz23_2 := blk_frozen BK289.out 2
       have hfz23_3 := blk_frozen BK289.out 3
       go_wp2_with (first | ((with_reducible refine gate_load (t := 69) rfl ?_); refine load_row3 (t := 69) (g := gb289) ?hg BK289.out ?ho ?hb Try.underlying69 rfl ?hs ?_; (case hg => rfl); (case ho => refine ⟨_, rfl, ?_⟩; first | (with_reducible rfl) | (go_simp; done)); (case hb => (with_reducible repeat (first | refine blk_drewN ?_ _ | refine blk_drew ?_ | refine blk_alloc ?_ _)); with_reducible exact BK289.out); (case hs => kernel_rfl)))
       go_ret2
       exact ⟨_, by first | rfl | (simp [errW_none, errW_some] <;> rfl) | (simp [*, errW_none, errW_some] <;> rfl), by first | exact Kd.R_nil _ _ _ _ _ | exact Kd.N_nil _ _ _ _ _ | exact Kd.V_nil _ _ _ _ _ | exact Kd.Q_nil _ _ _ _ _ | exact Kd.S_nil _ _ _ _ _, by repeat (first | (with_reducible first | exact HB.out | apply below_alloc | apply pw_below_drewN | apply below_drew1 | refine below_set ?_ GE289.out) | exact HB.out)⟩
     ·rw [if_neg c22] at H
      have c22b0 : decide (t290 < 0) = false := decide_eq_false c22
      clear c22
      by_cases c24 : a1_0 = 3
      ·rw [if_pos c24] at H
       have c24b0 : (a1_0 == 3) = true := beq_iff_eq.mpr c24
       have c24b1 : (a1_0 != 3) = false := bne_eq_false_iff_eq.mpr c24
       clear c24
       replace H := Option.bind_eq_some_iff.mp H
       obtain ⟨t295, A250, H⟩ := H
       replace H : (some (t295, 0)) = some (r1, r2) := H
       have A25 := mkA A250
       clear A250
       as_aux_lemma =>
        simp only [Option.some.injEq, Prod.mk.injEq] at H
        obtain ⟨rfl, rfl⟩ := H
        have hcz26_0 := bc BK289.out 0 (.int .i64 a1_0) rfl
        have hcz26_1 := bc BK289.out 1 (.string a1_1) rfl
        have hcz26_2 := bc BK289.out 2 (.string a1_2) rfl
        have hcz26_3 := bc BK289.out 3 (.int .i64 a1_3) rfl
        have hfz26_0 := blk_frozen BK289.out 0
        have hfz26_1 := blk_frozen BK289.out 1
        have hfz26_2 := blk_frozen BK289.out 2
        have hfz26_3 := blk_frozen BK289.out 3
        go_wp2_with (first | ((with_reducible refine gate_load (t := 69) rfl ?_); refine load_row3 (t := 69) (g := gb289) ?hg BK289.out ?ho ?hb Try.underlying69 rfl ?hs ?_; (case hg => rfl); (case ho => refine ⟨_, rfl, ?_⟩; first | (with_reducible rfl) | (go_simp; done)); (case hb => (with_reducible repeat (first | refine blk_drewN ?_ _ | refine blk_drew ?_ | refine blk_alloc ?_ _)); with_reducible exact BK289.out); (case hs => kernel_rfl)) | ((with_reducible refine gate_callee (f := 132) rfl ?_); refine goesL_ (some 46) rfl rfl Try.func132 (by kernel_rfl) rfl #[.slice A0 l0.length c0, .string a1_1] rfl ca ?_; (with_reducible refine (newsreelref10_Without.calls kj3 _ _ l0 a1_1 t295 _ ?side1 ?side2 A25.out).mono ?_); (case side1 => exact cz HR0.out HB.out); (case side2 => exact HC0.out); rintro e w27 ⟨v296, rfl, ho0, hb⟩; refine ⟨_, rfl, ?_⟩; have n0_ := mkA (Kd.R_lower ho0 (below_size (below_y HB.out))); have n1_ := mkA (blk_below (blk_y BK289.out) hb); have n2_ := mkA (below_step (below_y HB.out) hb); clear BK289; clear HB; have HO297 := n0_; have BK289 := n1_; have HB := n2_; clear n0_ n1_ n2_; (try clear hb); (try clear hb2); (try clear hk); (try clear hi); (try clear ho0)))
        go_ret2
        exact ⟨_, by first | rfl | (simp [errW_none, errW_some] <;> rfl) | (simp [*, errW_none, errW_some] <;> rfl), by (with_reducible repeat (first | apply Kd.R_alloc | apply Kd.R_drewN | apply Kd.R_drew)); exact HO297.out, by repeat (first | (with_reducible first | exact HB.out | apply below_alloc | apply pw_below_drewN | apply below_drew1 | refine below_set ?_ GE289.out) | exact HB.out)⟩
      ·rw [if_neg c24] at H
       have c24b0 : (a1_0 == 3) = false := beq_eq_false_iff_ne.mpr c24
       have c24b1 : (a1_0 != 3) = true := bne_iff_ne.mpr c24
       have HC28 := mkA H
       clear H
       have hcz29_0 := bc BK289.out 0 (.int .i64 a1_0) rfl
       have hcz29_1 := bc BK289.out 1 (.string a1_1) rfl
       have hcz29_2 := bc BK289.out 2 (.string a1_2) rfl
       have hcz29_3 := bc BK289.out 3 (.int .i64 a1_3) rfl
       have hfz29_0 := blk_frozen BK289.out 0
       have hfz29_1 := blk_frozen BK289.out 1
       have hfz29_2 := blk_frozen BK289.out 2
       have hfz29_3 := blk_frozen BK289.out 3
       go_upto_region 16 with (first | ((with_reducible refine gate_load (t := 69) rfl ?_); refine load_row3 (t := 69) (g := gb289) ?hg BK289.out ?ho ?hb Try.underlying69 rfl ?hs ?_; (case hg => rfl); (case ho => refine ⟨_, rfl, ?_⟩; first | (with_reducible rfl) | (go_simp; done)); (case hb => (with_reducible repeat (first | refine blk_drewN ?_ _ | refine blk_drew ?_ | refine blk_alloc ?_ _)); with_reducible exact BK289.out); (case hs => kernel_rfl)))
       go_cut [57] (fun v57 wc => ∃ (kq : Nat) (x57_27 : Bool), v57 = .bool x57_27 ∧ Aside0 (newsreelref10_Done.j1 kq l0 t290 x57_27 a1_0 a1_1 a1_2 a1_3 = some (r1, r2)) ∧ Aside0 (kq ≤ kj3) ∧ Aside0 (wc.heap[gb289]? = some (.cells #[.int .i64 a1_0, .string a1_1, .string a1_2, .int .i64 a1_3] 69 (0, 0))) ∧ Aside0 (Below w.heap.size w wc))
       case first =>
        have H := HC28.out
        clear HC28
        replace H := Option.bind_eq_some_iff.mp H
        obtain ⟨t298, A300, H⟩ := H
        replace H : (if t298 = true then (newsreelref10_Done.j1 kj3 l0 t290 (a1_2.toList == a1_1.toList) a1_0 a1_1 a1_2 a1_3) else (newsreelref10_Done.j1 kj3 l0 t290 true a1_0 a1_1 a1_2 a1_3)) = some (r1, r2) := H
        have A30 := mkA A300
        clear A300
        by_cases c31 : t298 = true
        ·subst c31
         have H1 : (newsreelref10_Done.j1 kj3 l0 t290 (a1_2.toList == a1_1.toList) a1_0 a1_1 a1_2 a1_3) = some (r1, r2) := by rw [if_pos rfl] at H; exact H
         clear H
         have H := H1
         clear H1
         as_aux_lemma =>
          have H' := mkA H
          clear H
          have hcz32_0 := bc BK289.out 0 (.int .i64 a1_0) rfl
          have hcz32_1 := bc BK289.out 1 (.string a1_1) rfl
          have hcz32_2 := bc BK289.out 2 (.string a1_2) rfl
          have hcz32_3 := bc BK289.out 3 (.int .i64 a1_3) rfl
          have hfz32_0 := blk_frozen BK289.out 0
          have hfz32_1 := blk_frozen BK289.out 1
          have hfz32_2 := blk_frozen BK289.out 2
          have hfz32_3 := blk_frozen BK289.out 3
          go_wp2_with (first | ((with_reducible refine gate_load (t := 69) rfl ?_); refine load_row3 (t := 69) (g := gb289) ?hg BK289.out ?ho ?hb Try.underlying69 rfl ?hs ?_; (case hg => rfl); (case ho => refine ⟨_, rfl, ?_⟩; first | (with_reducible rfl) | (go_simp; done)); (case hb => (with_reducible repeat (first | refine blk_drewN ?_ _ | refine blk_drew ?_ | refine blk_alloc ?_ _)); with_reducible exact BK289.out); (case hs => kernel_rfl)) | ((with_reducible refine gate_callee (f := 47) rfl ?_); refine goesL_ (some 49) rfl rfl Try.func47 (by kernel_rfl) rfl #[.string a1_2] rfl ca ?_; (with_reducible refine (newsreelref10_Name.calls kj3 a1_2 true _ A30.out).mono ?_); rintro e w' ⟨rfl, ⟨nd, rfl⟩⟩; refine ⟨_, rfl, ?_⟩))
          go_meet
          case rel => exact ⟨_, ((a1_2.toList == a1_1.toList)), (by first | rfl | (simp; done) | (simp [*]; done)), H', ⟨by have := HJ3.out; first | omega | exact Nat.le_refl _⟩, ⟨by (with_reducible repeat (first | refine blk_drewN ?_ _ | refine blk_drew ?_ | refine blk_alloc ?_ _)); exact BK289.out⟩, ⟨by repeat (first | (with_reducible first | exact HB.out | apply below_alloc | apply pw_below_drewN | apply below_drew1 | refine below_set ?_ GE289.out) | exact HB.out)⟩⟩
        ·replace c31 := Bool.eq_false_iff.mpr c31
         subst c31
         have H1 : (newsreelref10_Done.j1 kj3 l0 t290 true a1_0 a1_1 a1_2 a1_3) = some (r1, r2) := by rw [if_neg (show ¬ (false = true) by decide)] at H; exact H
         clear H
         have H := H1
         clear H1
         as_aux_lemma =>
          have H' := mkA H
          clear H
          have hcz33_0 := bc BK289.out 0 (.int .i64 a1_0) rfl
          have hcz33_1 := bc BK289.out 1 (.string a1_1) rfl
          have hcz33_2 := bc BK289.out 2 (.string a1_2) rfl
          have hcz33_3 := bc BK289.out 3 (.int .i64 a1_3) rfl
          have hfz33_0 := blk_frozen BK289.out 0
          have hfz33_1 := blk_frozen BK289.out 1
          have hfz33_2 := blk_frozen BK289.out 2
          have hfz33_3 := blk_frozen BK289.out 3
          go_wp2_with (first | ((with_reducible refine gate_load (t := 69) rfl ?_); refine load_row3 (t := 69) (g := gb289) ?hg BK289.out ?ho ?hb Try.underlying69 rfl ?hs ?_; (case hg => rfl); (case ho => refine ⟨_, rfl, ?_⟩; first | (with_reducible rfl) | (go_simp; done)); (case hb => (with_reducible repeat (first | refine blk_drewN ?_ _ | refine blk_drew ?_ | refine blk_alloc ?_ _)); with_reducible exact BK289.out); (case hs => kernel_rfl)) | ((with_reducible refine gate_callee (f := 47) rfl ?_); refine goesL_ (some 49) rfl rfl Try.func47 (by kernel_rfl) rfl #[.string a1_2] rfl ca ?_; (with_reducible refine (newsreelref10_Name.calls kj3 a1_2 false _ A30.out).mono ?_); rintro e w' ⟨rfl, ⟨nd, rfl⟩⟩; refine ⟨_, rfl, ?_⟩))
          go_meet
          case rel => exact ⟨_, (true), (by first | rfl | (simp; done) | (simp [*]; done)), H', ⟨by have := HJ3.out; first | omega | exact Nat.le_refl _⟩, ⟨by (with_reducible repeat (first | refine blk_drewN ?_ _ | refine blk_drew ?_ | refine blk_alloc ?_ _)); exact BK289.out⟩, ⟨by repeat (first | (with_reducible first | exact HB.out | apply below_alloc | apply pw_below_drewN | apply below_drew1 | refine below_set ?_ GE289.out) | exact HB.out)⟩⟩
       case rest =>
        clear HC28
        try clear c1
        try clear c2
        try clear p2
        try clear c3
        try clear c4
        try clear c7
        try clear c7b0
        try clear c9
        try clear c10
        try clear c11
        try clear c11b0
        try clear c11b1
        try clear c13
        try clear c14
        try clear c14b0
        try clear c16
        try clear c16b0
        try clear c16b1
        try clear c22
        try clear c22b0
        try clear c24
        try clear c24b0
        try clear c24b1
        try clear c31
        try clear hcz15_0
        try clear hcz15_1
        try clear hcz15_2
        try clear hcz15_3
        try clear hcz17_0
        try clear hcz17_1
        try clear hcz17_2
        try clear hcz17_3
        try clear hcz19_0
        try clear hcz19_1
        try clear hcz19_2
        try clear hcz19_3
        try clear hcz21_0
        try clear hcz21_1
        try clear hcz21_2
        try clear hcz21_3
        try clear hcz23_0
        try clear hcz23_1
        try clear hcz23_2
        try clear hcz23_3
        try clear hcz26_0
        try clear hcz26_1
        try clear hcz26_2
        try clear hcz26_3
        try clear hcz29_0
        try clear hcz29_1
        try clear hcz29_2
        try clear hcz29_3
        try clear hcz32_0
        try clear hcz32_1
        try clear hcz32_2
        try clear hcz32_3
        try clear hcz33_0
        try clear hcz33_1
        try clear hcz33_2
        try clear hcz33_3
        try clear hcz6_0
        try clear hcz6_1
        try clear hcz6_2
        try clear hcz6_3
        try clear hcz8_0
        try clear hcz8_1
        try clear hcz8_2
        try clear hcz8_3
        try clear hcz9_0
        try clear hcz9_1
        try clear hcz9_2
        try clear hcz9_3
        try clear hfz15_0
        try clear hfz15_1
        try clear hfz15_2
        try clear hfz15_3
        try clear hfz17_0
        try clear hfz17_1
        try clear hfz17_2
        try clear hfz17_3
        try clear hfz19_0
        try clear hfz19_1
        try clear hfz19_2
        try clear hfz19_3
        try clear hfz21_0
        try clear hfz21_1
        try clear hfz21_2
        try clear hfz21_3
        try clear hfz23_0
        try clear hfz23_1
        try clear hfz23_2
        try clear hfz23_3
        try clear hfz26_0
        try clear hfz26_1
        try clear hfz26_2
        try clear hfz26_3
        try clear hfz29_0
        try clear hfz29_1
        try clear hfz29_2
        try clear hfz29_3
        try clear hfz32_0
        try clear hfz32_1
        try clear hfz32_2
        try clear hfz32_3
        try clear hfz33_0
        try clear hfz33_1
        try clear hfz33_2
        try clear hfz33_3
        try clear hfz6_0
        try clear hfz6_1
        try clear hfz6_2
        try clear hfz6_3
        try clear hfz8_0
        try clear hfz8_1
        try clear hfz8_2
        try clear hfz8_3
        try clear hfz9_0
        try clear hfz9_1
        try clear hfz9_2
        try clear hfz9_3
        try clear p2
        obtain ⟨kq, x57_27, rfl, HA, HJ27, BK289, HB⟩ := hcut
        cases kq with
        | zero => exact absurd HA.out (by simp [newsreelref10_Done.j1])
        | succ kj27 =>
         have H := HA.out
         clear HA
         simp only [newsreelref10_Done.j1] at H
         by_cases c34 : x57_27 = true
         ·subst c34
          have H1 : (some (([] : List (S77)), 1)) = some (r1, r2) := by rw [if_pos rfl] at H; exact H
          clear H
          have H := H1
          clear H1
          as_aux_lemma =>
           simp only [Option.some.injEq, Prod.mk.injEq] at H
           obtain ⟨rfl, rfl⟩ := H
           go_wp2_with (first | ((with_reducible refine gate_load (t := 69) rfl ?_); refine load_row3 (t := 69) (g := gb289) ?hg BK289.out ?ho ?hb Try.underlying69 rfl ?hs ?_; (case hg => rfl); (case ho => refine ⟨_, rfl, ?_⟩; first | (with_reducible rfl) | (go_simp; done)); (case hb => (with_reducible repeat (first | refine blk_drewN ?_ _ | refine blk_drew ?_ | refine blk_alloc ?_ _)); with_reducible exact BK289.out); (case hs => kernel_rfl)))
           go_ret2
           exact ⟨_, by first | rfl | (simp [errW_none, errW_some] <;> rfl) | (simp [*, errW_none, errW_some] <;> rfl), by first | exact Kd.R_nil _ _ _ _ _ | exact Kd.N_nil _ _ _ _ _ | exact Kd.V_nil _ _ _ _ _ | exact Kd.Q_nil _ _ _ _ _ | exact Kd.S_nil _ _ _ _ _, by repeat (first | (with_reducible first | exact HB.out | apply below_alloc | apply pw_below_drewN | apply below_drew1 | refine below_set ?_ GE289.out) | exact HB.out)⟩
         ·replace c34 := Bool.eq_false_iff.mpr c34
          subst c34
          have H1 : ((newsreelref10_Without.f kj27 l0 a1_1).bind fun t299 => ((newsreelref10_Without.f kj27 t299 a1_2).bind fun t302 => (if 0 ≤ t290 then (if t290 < (l0.length : Int) then ((newsreelref10_With.f kj27 t302 a1_2 ((rd_T77 l0 t290).f1)).bind fun t306 => (some (t306, 0))) else (none)) else (none)))) = some (r1, r2) := by rw [if_neg (show ¬ (false = true) by decide)] at H; exact H
          clear H
          have H := H1
          clear H1
          replace H := Option.bind_eq_some_iff.mp H
          obtain ⟨t299, A350, H⟩ := H
          replace H : ((newsreelref10_Without.f kj27 t299 a1_2).bind fun t302 => (if 0 ≤ t290 then (if t290 < (l0.length : Int) then ((newsreelref10_With.f kj27 t302 a1_2 ((rd_T77 l0 t290).f1)).bind fun t306 => (some (t306, 0))) else (none)) else (none))) = some (r1, r2) := H
          have A35 := mkA A350
          clear A350
          replace H := Option.bind_eq_some_iff.mp H
          obtain ⟨t302, A360, H⟩ := H
          replace H : (if 0 ≤ t290 then (if t290 < (l0.length : Int) then ((newsreelref10_With.f kj27 t302 a1_2 ((rd_T77 l0 t290).f1)).bind fun t306 => (some (t306, 0))) else (none)) else (none)) = some (r1, r2) := H
          have A36 := mkA A360
          clear A360
          by_cases c37 : 0 ≤ t290
          ·rw [if_pos c37] at H
           have c37b0 : decide (0 ≤ t290) = true := decide_eq_true c37
           clear c37
           by_cases c38 : t290 < (l0.length : Int)
           ·rw [if_pos c38] at H
            have c38b0 : decide (t290 < (l0.length : Int)) = true := decide_eq_true c38
            clear c38
            replace H := Option.bind_eq_some_iff.mp H
            obtain ⟨t306, A390, H⟩ := H
            replace H : (some (t306, 0)) = some (r1, r2) := H
            have A39 := mkA A390
            clear A390
            as_aux_lemma =>
             simp only [Option.some.injEq, Prod.mk.injEq] at H
             obtain ⟨rfl, rfl⟩ := H
             try go_wp2_with (first | ((with_reducible refine gate_load (t := 69) rfl ?_); refine load_row3 (t := 69) (g := gb289) ?hg BK289.out ?ho ?hb Try.underlying69 rfl ?hs ?_; (case hg => rfl); (case ho => refine ⟨_, rfl, ?_⟩; first | (with_reducible rfl) | (go_simp; done)); (case hb => (with_reducible repeat (first | refine blk_drewN ?_ _ | refine blk_drew ?_ | refine blk_alloc ?_ _)); with_reducible exact BK289.out); (case hs => kernel_rfl)))
             have n0_ := mkA (blk_drew BK289.out)
             try (have HBd_ := mkA (below_drew1 (pw_below_drewN HB.out nd)))
             have n1_ := mkA (below_drew1 HB.out)
             clear BK289 HB
             have BK289 := n0_
             have HB := n1_
             clear n0_ n1_
             have p305 : 0 ≤ (t290 : Int) := odt
             have q305 : t290 < (l0.length : Int) := odt
             obtain ⟨ad305, e305, hx305_0, hx305_1⟩ := at_T77 HR0.out t290 p305 q305
             have hw305_1 := hx305_1
             have hw305_0 := hx305_0
             cases e305
             replace hx305_0 := (cb HB.out hx305_0).trans hx305_0
             replace hx305_1 := (cb HB.out hx305_1).trans hx305_1
             replace p305 := eq_true p305
             replace q305 := eq_true q305
             refine start_ (n := 18) (S := fun w' => w'.cell? ⟨gb289, 0, none⟩ = some (.int .i64 a1_0) ∧ w'.cell? ⟨gb289, 1, none⟩ = some (.string a1_1) ∧ w'.cell? ⟨gb289, 2, none⟩ = some (.string a1_2) ∧ w'.cell? ⟨gb289, 3, none⟩ = some (.int .i64 a1_3) ∧ w'.cell? (ad305.add ((t290).toNat * 2)) = some (.string ((rd_T77 l0 t290).f0)) ∧ w'.cell? ⟨(ad305.add ((t290).toNat * 2)).block, (ad305.add ((t290).toNat * 2)).off + 1, none⟩ = some (.int .i64 ((rd_T77 l0 t290).f1))) (ds := []) #[false, false, false, false, false, false, false, false, false, false, false, false, false, false, false, false, false, false] (by kernel_rfl) rfl rfl ⟨(blk_cell BK289.out 0).trans rfl, (blk_cell BK289.out 1).trans rfl, (blk_cell BK289.out 2).trans rfl, (blk_cell BK289.out 3).trans rfl, ((cb HB.out hw305_0).trans hw305_0), ((cb HB.out hw305_1).trans hw305_1)⟩ (fun hHeld => ?_); refine with_tabW newsreelref10_Done.tab18 newsreelref10_Done.bits18 (fun HT_ HW_ => ?_)
             generalize wc.drew = w40 at BK289 HB hx305_0 hx305_1 hHeld ⊢
             refine pure_ (i := 0) (N := some 58) (v := ?_) (a' := ?_) #[true, false, false, false, false, false, false, false, false, false, false, false, false, false, false, false, false, false] rfl rfl (any_of HT_.out (by kernel_rfl)) (fun _ _ _ h => h) (Or.inl ⟨by rfl, ?_⟩) ?_ ?_
             rotate_left
             ·intro w'
              go_simp
              with_reducible rfl
             rotate_left
             ·simp only [Act.put, sA, s0, sS, i64_w, i32_w]
              rfl
             refine pure_ (i := 1) (N := some 59) (v := ?_) (a' := ?_) #[true, true, false, false, false, false, false, false, false, false, false, false, false, false, false, false, false, false] rfl rfl (any_of HT_.out (by kernel_rfl)) (fun _ _ _ h => h) (Or.inl ⟨by rfl, ?_⟩) ?_ ?_
             rotate_left
             ·intro w'
              go_simp
              with_reducible rfl
             rotate_left
             ·simp only [Act.put, sA, s0, sS, i64_w, i32_w]
              rfl
             refine pure_ (i := 4) (N := some 62) (v := ?_) (a' := ?_) #[true, true, false, false, true, false, false, false, false, false, false, false, false, false, false, false, false, false] rfl rfl (any_of HT_.out (by kernel_rfl)) (fun _ _ _ h => h) (Or.inl ⟨by rfl, ?_⟩) ?_ ?_
             rotate_left
             ·intro w'
              go_simp
              with_reducible rfl
             rotate_left
             ·simp only [Act.put, sA, s0, sS, i64_w, i32_w]
              rfl
             refine pure_ (i := 7) (N := some 65) (v := ?_) (a' := ?_) #[true, true, false, false, true, false, false, true, false, false, false, false, false, false, false, false, false, false] rfl rfl (any_of HT_.out (by kernel_rfl)) (fun _ _ _ h => h) (Or.inl ⟨by rfl, ?_⟩) ?_ ?_
             rotate_left
             ·intro w'
              go_simp
              with_reducible rfl
             rotate_left
             ·simp only [Act.put, sA, s0, sS, i64_w, i32_w]
              rfl
             refine pure_ (i := 9) (N := some 67) (v := ?_) (a' := ?_) #[true, true, false, false, true, false, false, true, false, true, false, false, false, false, false, false, false, false] rfl rfl (any_of HT_.out (by kernel_rfl)) (fun _ _ _ h => h) (Or.inl ⟨by rfl, ?_⟩) ?_ ?_
             rotate_left
             ·intro w'
              go_simp
              with_reducible rfl
             rotate_left
             ·simp only [Act.put, sA, s0, sS, i64_w, i32_w]
              rfl
             refine pure_ (i := 10) (N := some 68) (v := ?_) (a' := ?_) #[true, true, false, false, true, false, false, true, false, true, true, false, false, false, false, false, false, false] rfl rfl (any_of HT_.out (by kernel_rfl)) (fun _ _ _ h => h) (Or.inl ⟨by rfl, ?_⟩) ?_ ?_
             rotate_left
             ·intro w'
              go_simp
              with_reducible rfl
             rotate_left
             ·simp only [Act.put, sA, s0, sS, i64_w, i32_w]
              rfl
             refine pure_ (i := 11) (N := some 69) (v := ?_) (a' := ?_) #[true, true, false, false, true, false, false, true, false, true, true, true, false, false, false, false, false, false] rfl rfl (any_of HT_.out (by kernel_rfl)) (fun _ _ _ h => h) (Or.inl ⟨by rfl, ?_⟩) ?_ ?_
             rotate_left
             ·intro w'
              go_simp
              with_reducible rfl
             rotate_left
             ·simp only [Act.put, sA, s0, sS, i64_w, i32_w]
              rfl
             refine pure_ (i := 12) (N := some 70) (v := ?_) (a' := ?_) #[true, true, false, false, true, false, false, true, false, true, true, true, true, false, false, false, false, false] rfl rfl (any_of HT_.out (by kernel_rfl)) (fun _ _ _ h => h) (Or.inl ⟨by rfl, ?_⟩) ?_ ?_
             rotate_left
             ·intro w'
              go_simp
              with_reducible rfl
             rotate_left
             ·simp only [Act.put, sA, s0, sS, i64_w, i32_w]
              rfl
             refine take_ (i := 2) (N := some 60) (v := ?_) (a' := ?_) #[true, true, true, false, true, false, false, true, false, true, true, true, true, false, false, false, false, false] rfl rfl (take_ofW HT_.out HW_.out (by kernel_rfl)) (fun _ _ _ h => h) (Or.inl ⟨by rfl, ?_⟩) hHeld ?_ ?_
             rotate_left
             ·rintro w' ⟨s0, s1, s2, s3, s4, s5⟩
              go_simp
              with_reducible rfl
             rotate_left
             ·simp only [Act.put, sA, s0, sS, i64_w, i32_w]
              rfl
             refine take_ (i := 5) (N := some 63) (v := ?_) (a' := ?_) #[true, true, true, false, true, true, false, true, false, true, true, true, true, false, false, false, false, false] rfl rfl (take_ofW HT_.out HW_.out (by kernel_rfl)) (fun _ _ _ h => h) (Or.inl ⟨by rfl, ?_⟩) hHeld ?_ ?_
             rotate_left
             ·rintro w' ⟨s0, s1, s2, s3, s4, s5⟩
              go_simp
              with_reducible rfl
             rotate_left
             ·simp only [Act.put, sA, s0, sS, i64_w, i32_w]
              rfl
             refine take_ (i := 8) (N := some 66) (v := ?_) (a' := ?_) #[true, true, true, false, true, true, false, true, true, true, true, true, true, false, false, false, false, false] rfl rfl (take_ofW HT_.out HW_.out (by kernel_rfl)) (fun _ _ _ h => h) (Or.inl ⟨by rfl, ?_⟩) hHeld ?_ ?_
             rotate_left
             ·rintro w' ⟨s0, s1, s2, s3, s4, s5⟩
              go_simp
              with_reducible rfl
             rotate_left
             ·simp only [Act.put, sA, s0, sS, i64_w, i32_w]
              rfl
             refine take_ (i := 13) (N := some 71) (v := ?_) (a' := ?_) #[true, true, true, false, true, true, false, true, true, true, true, true, true, true, false, false, false, false] rfl rfl (take_ofW HT_.out HW_.out (by kernel_rfl)) (fun _ _ _ h => h) (Or.inl ⟨by rfl, ?_⟩) hHeld ?_ ?_
             rotate_left
             ·rintro w' ⟨s0, s1, s2, s3, s4, s5⟩
              go_simp
              with_reducible rfl
             rotate_left
             ·simp only [Act.put, sA, s0, sS, i64_w, i32_w]
              rfl
             refine pure_ (i := 14) (N := some 72) (v := ?_) (a' := ?_) #[true, true, true, false, true, true, false, true, true, true, true, true, true, true, true, false, false, false] rfl rfl (any_of HT_.out (by kernel_rfl)) (fun _ _ _ h => h) (Or.inl ⟨by rfl, ?_⟩) ?_ ?_
             rotate_left
             ·intro w'
              go_simp
              with_reducible rfl
             rotate_left
             ·simp only [Act.put, sA, s0, sS, i64_w, i32_w]
              rfl
             refine one_ (i := 3) (N := some 61) #[true, true, true, true, true, true, false, true, true, true, true, true, true, true, true, false, false, false] rfl rfl (one_of HT_.out (by kernel_rfl)) (by decide) (fun K hK => ?_)
             refine goes_ Try.func132 (by kernel_rfl) rfl #[.slice (some ad305) l0.length c0, .string a1_1] (by rfl) rfl rfl ca ?_
             with_reducible refine (newsreelref10_Without.calls kj27 _ _ l0 a1_1 t299 _ ?side1 ?side2 A35.out).mono ?_
             (case side1 => exact cz HR0.out HB.out)
             (case side2 => exact HC0.out)
             rintro e w41 ⟨v300, rfl, ho0, hb⟩
             refine ⟨_, rfl, ?_⟩
             have n0_ := mkA (Kd.R_lower ho0 (below_size (below_y HB.out)))
             have n1_ := mkA (blk_below (blk_y BK289.out) hb)
             have n2_ := mkA (below_step (below_y HB.out) hb)
             clear BK289 HB
             have HO301 := n0_
             have BK289 := n1_
             have HB := n2_
             clear n0_ n1_ n2_
             (try clear hb)
             (try clear hb2)
             (try clear hk)
             (try clear hi)
             (try clear ho0)
             obtain ⟨Ao42, co42, eo42⟩ := Kd.R_slice HO301.out
             (first | subst eo42 | (injection eo42 with f1_ f2_ f3_; have f4_ := f1_.symm; have f5_ := f3_.symm; clear f1_ f2_ f3_; subst f4_; subst f5_))
             refine hK.out _ _ ⟨(blk_cell BK289.out 0).trans rfl, (blk_cell BK289.out 1).trans rfl, (blk_cell BK289.out 2).trans rfl, (blk_cell BK289.out 3).trans rfl, ((cb HB.out hw305_0).trans hw305_0), ((cb HB.out hw305_1).trans hw305_1)⟩ (fun hHeld => ?_)
             clear hK K
             refine norm_ (a' := ?_) ?_ ?_
             rotate_left
             ·show Act.put _ (some 61) _ = _
              simp only [Act.put, sA, s0, sS, i64_w, i32_w]
              rfl
             refine one_ (i := 6) (N := some 64) #[true, true, true, true, true, true, true, true, true, true, true, true, true, true, true, false, false, false] rfl rfl (one_of HT_.out (by kernel_rfl)) (by decide) (fun K hK => ?_)
             refine goes_ Try.func132 (by kernel_rfl) rfl #[.slice Ao42 t299.length co42, .string a1_2] (by rfl) rfl rfl ca ?_
             with_reducible refine (newsreelref10_Without.calls kj27 _ _ t299 a1_2 t302 _ ?side1 ?side2 A36.out).mono ?_
             (case side1 => exact Kd.C_y (Kd.R_reads' HO301.out).2.2)
             (case side2 => exact (Kd.R_reads' HO301.out).2.1)
             rintro e w43 ⟨v303, rfl, ho0, hb⟩
             refine ⟨_, rfl, ?_⟩
             have n0_ := mkA (Kd.R_elder' (Kd.R_y HO301.out) (Kd.R_base ho0) hb)
             have n1_ := mkA (Kd.R_lower (Kd.R_new' ho0 (Kd.R_lt (Kd.R_y HO301.out))) (below_size (below_y HB.out)))
             have n2_ := mkA (blk_below (blk_y BK289.out) hb)
             have n3_ := mkA (below_step (below_y HB.out) hb)
             clear HO301 BK289 HB
             have HO301 := n0_
             have HO304 := n1_
             have BK289 := n2_
             have HB := n3_
             clear n0_ n1_ n2_ n3_
             (try clear hb)
             (try clear hb2)
             (try clear hk)
             (try clear hi)
             (try clear ho0)
             obtain ⟨Ao44, co44, eo44⟩ := Kd.R_slice HO304.out
             (first | subst eo44 | (injection eo44 with f1_ f2_ f3_; have f4_ := f1_.symm; have f5_ := f3_.symm; clear f1_ f2_ f3_; subst f4_; subst f5_))
             refine hK.out _ _ ⟨(blk_cell BK289.out 0).trans rfl, (blk_cell BK289.out 1).trans rfl, (blk_cell BK289.out 2).trans rfl, (blk_cell BK289.out 3).trans rfl, ((cb HB.out hw305_0).trans hw305_0), ((cb HB.out hw305_1).trans hw305_1)⟩ (fun hHeld => ?_)
             clear hK K
             refine norm_ (a' := ?_) ?_ ?_
             rotate_left
             ·show Act.put _ (some 64) _ = _
              simp only [Act.put, sA, s0, sS, i64_w, i32_w]
              rfl
             refine one_ (i := 15) (N := some 73) #[true, true, true, true, true, true, true, true, true, true, true, true, true, true, true, true, false, false] rfl rfl (one_of HT_.out (by kernel_rfl)) (by decide) (fun K hK => ?_)
             refine goes_ Try.func131 (by kernel_rfl) rfl #[.slice Ao44 t302.length co44, .agg #[.string a1_2, .int .i64 ((rd_T77 l0 t290).f1)]] (by rfl) rfl rfl ca ?_
             with_reducible refine (newsreelref10_With.calls kj27 _ _ t302 a1_2 ((rd_T77 l0 t290).f1) t306 _ ?side1 ?side2 A39.out).mono ?_
             (case side1 => exact Kd.C_y (Kd.R_reads' HO304.out).2.2)
             (case side2 => exact (Kd.R_reads' HO304.out).2.1)
             rintro e w45 ⟨v307, rfl, ho0, hb⟩
             refine ⟨_, rfl, ?_⟩
             have n0_ := mkA (Kd.R_elder' (Kd.R_y HO301.out) (Kd.R_base ho0) hb)
             have n1_ := mkA (Kd.R_elder' (Kd.R_y HO304.out) (Kd.R_base ho0) hb)
             have n2_ := mkA (Kd.R_lower (Kd.R_new' (Kd.R_new' ho0 (Kd.R_lt (Kd.R_y HO301.out))) (Kd.R_lt (Kd.R_y HO304.out))) (below_size (below_y HB.out)))
             have n3_ := mkA (blk_below (blk_y BK289.out) hb)
             have n4_ := mkA (below_step (below_y HB.out) hb)
             clear HO301 HO304 BK289 HB
             have HO301 := n0_
             have HO304 := n1_
             have HO308 := n2_
             have BK289 := n3_
             have HB := n4_
             clear n0_ n1_ n2_ n3_ n4_
             (try clear hb)
             (try clear hb2)
             (try clear hk)
             (try clear hi)
             (try clear ho0)
             refine hK.out _ _ ⟨(blk_cell BK289.out 0).trans rfl, (blk_cell BK289.out 1).trans rfl, (blk_cell BK289.out 2).trans rfl, (blk_cell BK289.out 3).trans rfl, ((cb HB.out hw305_0).trans hw305_0), ((cb HB.out hw305_1).trans hw305_1)⟩ (fun hHeld => ?_)
             clear hK K
             refine norm_ (a' := ?_) ?_ ?_
             rotate_left
             ·show Act.put _ (some 73) _ = _
              simp only [Act.put, sA, s0, sS, i64_w, i32_w]
              rfl
             refine pure_ (i := 16) (N := some 4) (v := ?_) (a' := ?_) #[true, true, true, true, true, true, true, true, true, true, true, true, true, true, true, true, true, false] rfl rfl (any_of HT_.out (by kernel_rfl)) (fun _ _ _ h => h) (Or.inl ⟨by rfl, ?_⟩) ?_ ?_
             rotate_left
             ·intro w'
              go_simp
              with_reducible rfl
             rotate_left
             ·simp only [Act.put, sA, s0, sS, i64_w, i32_w]
              rfl
             refine pure_ (i := 17) (N := some 5) (v := ?_) (a' := ?_) #[true, true, true, true, true, true, true, true, true, true, true, true, true, true, true, true, true, true] rfl rfl (any_of HT_.out (by kernel_rfl)) (fun _ _ _ h => h) (Or.inl ⟨by rfl, ?_⟩) ?_ ?_
             rotate_left
             ·intro w'
              go_simp
              with_reducible rfl
             rotate_left
             ·simp only [Act.put, sA, s0, sS, i64_w, i32_w]
              rfl
             refine done_ (done_of HT_.out (by kernel_rfl)) ?_
             try go_wp2_with (first | ((with_reducible refine gate_load (t := 69) rfl ?_); refine load_row3 (t := 69) (g := gb289) ?hg BK289.out ?ho ?hb Try.underlying69 rfl ?hs ?_; (case hg => rfl); (case ho => refine ⟨_, rfl, ?_⟩; first | (with_reducible rfl) | (go_simp; done)); (case hb => (with_reducible repeat (first | refine blk_drewN ?_ _ | refine blk_drew ?_ | refine blk_alloc ?_ _)); with_reducible exact BK289.out); (case hs => kernel_rfl)))
             go_ret2
             exact ⟨_, by first | rfl | (simp [errW_none, errW_some] <;> rfl) | (simp [*, errW_none, errW_some] <;> rfl), by (with_reducible repeat (first | apply Kd.R_alloc | apply Kd.R_drewN | apply Kd.R_drew)); exact Kd.R_mono HO308.out (fun _ hk => trivial), by repeat (first | (with_reducible first | exact HB.out | apply below_alloc | apply pw_below_drewN | apply below_drew1 | refine below_set ?_ GE289.out) | exact HB.out)⟩
           ·rw [if_neg c38] at H
            exact absurd H (by simp)
          ·rw [if_neg c37] at H
           exact absurd H (by simp)

end Go.Proofs.Ytkkikdjfigffhab.XDir
