import Derived.Test.YtghdkpcpgpfgcaaDoorXStbM0a
import Derived.Test.YtghdkpcpgpfgcaaDoorXStbM0b
import Derived.Test.YtghdkpcpgpfgcaaDoorXStbx47
namespace Go.Proofs.YtghdkpcpgpfgcaaDoor.XStb
open Go.RowKit Go.Proofs.YtghdkpcpgpfgcaaDoorW.PrintWords Go.Proofs.YtghdkpcpgpfgcaaDoorW.PrintLast Go.Proofs.YtghdkpcpgpfgcaaDoorW.PrintMore
attribute [local go_sem] max2_int min2_int max_two min_two max_three min_three max_four min_four   -- for this text's walks alone
set_option linter.unusedVariables false
set_option linter.unusedSimpArgs false

/-! ### newsreelref17_Get: function 7 -/
def newsreelref17_Get.j0 : Nat → Bool → Int → Int → Int → Int → Int → Int → Int → Bool → Int → Int → Int → Int → Int → Int → Option (Int × Int)
 | 0, _, _, _, _, _, _, _, _, _, _, _, _, _, _, _ => none
 | k + 1, x48, x336000, x336001, x336002, x336003, x336004, x336005, x336006, x336007, x337000, x337001, x337002, x337003, x337004, x337005 => if x48 = true then (some (0, 3)) else ((newsreelref17_Gone.f k x337000 x337001 x337002).bind fun t338 => (some (wrap64 ((wrap64 ((wrap64 (86400 * t338)) + (wrap64 ((wrap64 ((wrap64 (3600 * x337003)) + (wrap64 (60 * x337004)))) + x337005)))) - (wrap64 (60 * x336006))), 0)))
def newsreelref17_Get.f (k : Nat) (a0 : ByteArray) : Option (Int × Int) := (newsreelref17_parse.f k a0).bind fun bt326 => (if bt326.2.2.2.2.2.2.2.2 = true then (if bt326.2.2.2.2.2.2.2.1 = true then (if bt326.2.2.1 < 1 then (newsreelref17_Get.j0 k true bt326.1 bt326.2.1 bt326.2.2.1 bt326.2.2.2.1 bt326.2.2.2.2.1 bt326.2.2.2.2.2.1 bt326.2.2.2.2.2.2.1 bt326.2.2.2.2.2.2.2.1 bt326.1 bt326.2.1 bt326.2.2.1 bt326.2.2.2.1 bt326.2.2.2.2.1 bt326.2.2.2.2.2.1) else ((newsreelref17_Days.f k bt326.1 bt326.2.1).bind fun t337 => (if bt326.2.2.1 > t337 then (newsreelref17_Get.j0 k true bt326.1 bt326.2.1 bt326.2.2.1 bt326.2.2.2.1 bt326.2.2.2.2.1 bt326.2.2.2.2.2.1 bt326.2.2.2.2.2.2.1 bt326.2.2.2.2.2.2.2.1 bt326.1 bt326.2.1 bt326.2.2.1 bt326.2.2.2.1 bt326.2.2.2.2.1 bt326.2.2.2.2.2.1) else (if bt326.2.2.2.1 > 23 then (newsreelref17_Get.j0 k true bt326.1 bt326.2.1 bt326.2.2.1 bt326.2.2.2.1 bt326.2.2.2.2.1 bt326.2.2.2.2.2.1 bt326.2.2.2.2.2.2.1 bt326.2.2.2.2.2.2.2.1 bt326.1 bt326.2.1 bt326.2.2.1 bt326.2.2.2.1 bt326.2.2.2.2.1 bt326.2.2.2.2.2.1) else (if bt326.2.2.2.2.1 > 59 then (newsreelref17_Get.j0 k true bt326.1 bt326.2.1 bt326.2.2.1 bt326.2.2.2.1 bt326.2.2.2.2.1 bt326.2.2.2.2.2.1 bt326.2.2.2.2.2.2.1 bt326.2.2.2.2.2.2.2.1 bt326.1 bt326.2.1 bt326.2.2.1 bt326.2.2.2.1 bt326.2.2.2.2.1 bt326.2.2.2.2.2.1) else (newsreelref17_Get.j0 k (decide (bt326.2.2.2.2.2.1 > 59)) bt326.1 bt326.2.1 bt326.2.2.1 bt326.2.2.2.1 bt326.2.2.2.2.1 bt326.2.2.2.2.2.1 bt326.2.2.2.2.2.2.1 bt326.2.2.2.2.2.2.2.1 bt326.1 bt326.2.1 bt326.2.2.1 bt326.2.2.2.1 bt326.2.2.2.2.1 bt326.2.2.2.2.2.1)))))) else (newsreelref17_Get.j0 k true bt326.1 bt326.2.1 bt326.2.2.1 bt326.2.2.2.1 bt326.2.2.2.2.1 bt326.2.2.2.2.2.1 bt326.2.2.2.2.2.2.1 bt326.2.2.2.2.2.2.2.1 bt326.1 bt326.2.1 bt326.2.2.1 bt326.2.2.2.1 bt326.2.2.2.2.1 bt326.2.2.2.2.2.1)) else (some (0, 2)))
theorem newsreelref17_Get.mono_l : ∀ k, (∀ y0 y1 y2 y3 y4 y5 y6 y7 y8 y9 y10 y11 y12 y13 y14, LeO (newsreelref17_Get.j0 k y0 y1 y2 y3 y4 y5 y6 y7 y8 y9 y10 y11 y12 y13 y14) (newsreelref17_Get.j0 (k + 1) y0 y1 y2 y3 y4 y5 y6 y7 y8 y9 y10 y11 y12 y13 y14))
 | 0 => fun _ _ _ _ _ _ _ _ _ _ _ _ _ _ _ r h => by simp [newsreelref17_Get.j0] at h
 | k + 1 => by
  have ih0 := newsreelref17_Get.mono_l k
  ·intro y0 y1 y2 y3 y4 y5 y6 y7 y8 y9 y10 y11 y12 y13 y14
   unfold newsreelref17_Get.j0
   repeat' first
   | (with_reducible exact ih0 _ _ _ _ _ _ _ _ _ _ _ _ _ _ _)
   | (with_reducible exact newsreelref17_Days.mono _ _ _)
   | (with_reducible exact newsreelref17_Gone.mono _ _ _ _)
   | (with_reducible exact newsreelref17_parse.mono _ _)
   | (with_reducible exact LeO.refl _)
   | (with_reducible exact LeO.none _)
   | (with_reducible refine LeO.ite ?_ ?_)
   | (with_reducible refine LeO.bind ?_ (fun _ => ?_))
   | exact ih0 _ _ _ _ _ _ _ _ _ _ _ _ _ _ _
   | exact newsreelref17_Days.mono _ _ _
   | exact newsreelref17_Gone.mono _ _ _ _
   | exact newsreelref17_parse.mono _ _
   | exact LeO.none _
   | refine LeO.ite ?_ ?_
   | refine LeO.bind ?_ (fun _ => ?_)
theorem newsreelref17_Get.mono : ∀ a0 k, LeO (newsreelref17_Get.f k a0) (newsreelref17_Get.f (k + 1) a0) := by
 intro a0 k
 have ih0 := newsreelref17_Get.mono_l k
 unfold newsreelref17_Get.f
 repeat' first
   | (with_reducible exact ih0 _ _ _ _ _ _ _ _ _ _ _ _ _ _ _)
   | (with_reducible exact newsreelref17_Days.mono _ _ _)
   | (with_reducible exact newsreelref17_Gone.mono _ _ _ _)
   | (with_reducible exact newsreelref17_parse.mono _ _)
   | (with_reducible exact LeO.refl _)
   | (with_reducible exact LeO.none _)
   | (with_reducible refine LeO.ite ?_ ?_)
   | (with_reducible refine LeO.bind ?_ (fun _ => ?_))
   | exact ih0 _ _ _ _ _ _ _ _ _ _ _ _ _ _ _
   | exact newsreelref17_Days.mono _ _ _
   | exact newsreelref17_Gone.mono _ _ _ _
   | exact newsreelref17_parse.mono _ _
   | exact LeO.none _
   | refine LeO.ite ?_ ?_
   | refine LeO.bind ?_ (fun _ => ?_)
def newsreelref17_Get.T5 : Bool × List (List Nat × List Nat) := (true, [([], []), ([0], [0]), ([1], [1]), ([2], [2]), ([3], [3]), ([4, 3], [3, 4]), ([5, 3], [3, 5]), ([3, 6], [3, 6]), ([7, 3], [7]), ([8], [8]), ([9, 8], [8, 9]), ([8], [8]), ([11, 8], [8, 11]), ([8], [8]), ([13, 8], [8, 13]), ([12, 14, 8, 8], [8, 12, 14]), ([10, 15, 8], [8, 10, 15]), ([8, 16], [8, 16]), ([17, 15], [17]), ([18], [18]), ([19, 18], [18, 19]), ([20, 18], [18, 20]), ([18, 21], [18, 21]), ([22, 18], [22]), ([23], [23]), ([24, 23], [23, 24]), ([25, 23], [23, 25]), ([23, 26], [23, 26]), ([27, 23], [27]), ([28], [28]), ([29, 28], [28, 29]), ([30, 28], [28, 30]), ([28, 31], [28, 31])])
def newsreelref17_Get.B5 : List Nat := [0, 1, 3, 7, 15, 31, 63, 127, 255, 511, 1023, 511, 2559, 511, 8703, 31231, 65535, 131071, 262143, 524287, 1048575, 2097151, 4194303, 8388607, 16777215, 33554431, 67108863, 134217727, 268435455, 536870911, 1073741823, 2147483647, 4294967295]
theorem newsreelref17_Get.tab5 : rtab .any (opsOf Tryd.f7 5) = newsreelref17_Get.T5 := by kernel_rfl
theorem newsreelref17_Get.bits5 : waitsOk newsreelref17_Get.T5.2 newsreelref17_Get.B5 = true := by kernel_rfl
def newsreelref17_Get.T7 : Bool × List (List Nat × List Nat) := (true, [([], []), ([0], [0]), ([], []), ([2], [2]), ([], []), ([4], [4]), ([1, 3, 5], [1, 3, 5]), ([6], [6]), ([], []), ([8], [8]), ([9], [9]), ([], []), ([11], [11]), ([12], [12]), ([10, 13], [10, 13]), ([], []), ([15], [15]), ([14, 16], [14, 16]), ([7, 17], [7, 17]), ([], []), ([19], [19]), ([20], [20]), ([18, 21], [18, 21]), ([22, 6, 0, 1, 2, 3, 4, 5, 6, 7, 8, 9, 10, 11, 12, 13, 14, 15, 16, 17, 18, 19, 20, 21, 22], [22]), ([23, 0, 1, 2, 3, 4, 5, 6, 7, 8, 9, 10, 11, 12, 13, 14, 15, 16, 17, 18, 19, 20, 21, 22, 23], [])])
def newsreelref17_Get.B7 : List Nat := [0, 1, 0, 4, 0, 16, 63, 127, 0, 256, 768, 0, 2048, 6144, 16128, 0, 32768, 130816, 262143, 0, 524288, 1572864, 4194303, 8388607, 16777215]
theorem newsreelref17_Get.tab7 : rtab .any (opsOf Tryd.f7 7) = newsreelref17_Get.T7 := by kernel_rfl
theorem newsreelref17_Get.bits7 : waitsOk newsreelref17_Get.T7.2 newsreelref17_Get.B7 = true := by kernel_rfl
set_option maxHeartbeats 8000000 in
set_option maxRecDepth 100000 in
theorem newsreelref17_Get.calls (k : Nat) (a0 : ByteArray) (r1 : Int) (r2 : Int) (w : World) (h : newsreelref17_Get.f k a0 = some (r1, r2)) :
  Calls Tryd.prog 7 #[.string a0] w fun e w' => e = .returned (.tuple #[.int .i64 r1, .int .i64 r2]) ∧ Below w.heap.size w w' := by
 have hu52 := Tryd.underlying52
 have hu50 := Tryd.underlying50
 have HB := mkA (Below.refl w.heap.size w)
 have H : ((newsreelref17_parse.f k a0).bind fun bt326 => (if bt326.2.2.2.2.2.2.2.2 = true then (if bt326.2.2.2.2.2.2.2.1 = true then (if bt326.2.2.1 < 1 then (newsreelref17_Get.j0 k true bt326.1 bt326.2.1 bt326.2.2.1 bt326.2.2.2.1 bt326.2.2.2.2.1 bt326.2.2.2.2.2.1 bt326.2.2.2.2.2.2.1 bt326.2.2.2.2.2.2.2.1 bt326.1 bt326.2.1 bt326.2.2.1 bt326.2.2.2.1 bt326.2.2.2.2.1 bt326.2.2.2.2.2.1) else ((newsreelref17_Days.f k bt326.1 bt326.2.1).bind fun t337 => (if bt326.2.2.1 > t337 then (newsreelref17_Get.j0 k true bt326.1 bt326.2.1 bt326.2.2.1 bt326.2.2.2.1 bt326.2.2.2.2.1 bt326.2.2.2.2.2.1 bt326.2.2.2.2.2.2.1 bt326.2.2.2.2.2.2.2.1 bt326.1 bt326.2.1 bt326.2.2.1 bt326.2.2.2.1 bt326.2.2.2.2.1 bt326.2.2.2.2.2.1) else (if bt326.2.2.2.1 > 23 then (newsreelref17_Get.j0 k true bt326.1 bt326.2.1 bt326.2.2.1 bt326.2.2.2.1 bt326.2.2.2.2.1 bt326.2.2.2.2.2.1 bt326.2.2.2.2.2.2.1 bt326.2.2.2.2.2.2.2.1 bt326.1 bt326.2.1 bt326.2.2.1 bt326.2.2.2.1 bt326.2.2.2.2.1 bt326.2.2.2.2.2.1) else (if bt326.2.2.2.2.1 > 59 then (newsreelref17_Get.j0 k true bt326.1 bt326.2.1 bt326.2.2.1 bt326.2.2.2.1 bt326.2.2.2.2.1 bt326.2.2.2.2.2.1 bt326.2.2.2.2.2.2.1 bt326.2.2.2.2.2.2.2.1 bt326.1 bt326.2.1 bt326.2.2.1 bt326.2.2.2.1 bt326.2.2.2.2.1 bt326.2.2.2.2.2.1) else (newsreelref17_Get.j0 k (decide (bt326.2.2.2.2.2.1 > 59)) bt326.1 bt326.2.1 bt326.2.2.1 bt326.2.2.2.1 bt326.2.2.2.2.1 bt326.2.2.2.2.2.1 bt326.2.2.2.2.2.2.1 bt326.2.2.2.2.2.2.2.1 bt326.1 bt326.2.1 bt326.2.2.1 bt326.2.2.2.1 bt326.2.2.2.2.1 bt326.2.2.2.2.2.1)))))) else (newsreelref17_Get.j0 k true bt326.1 bt326.2.1 bt326.2.2.1 bt326.2.2.2.1 bt326.2.2.2.2.1 bt326.2.2.2.2.2.1 bt326.2.2.2.2.2.2.1 bt326.2.2.2.2.2.2.2.1 bt326.1 bt326.2.1 bt326.2.2.1 bt326.2.2.2.1 bt326.2.2.2.2.1 bt326.2.2.2.2.2.1)) else (some (0, 2)))) = some (r1, r2) := h
 clear h
 replace H := Option.bind_eq_some_iff.mp H
 obtain ⟨⟨t326, t327, t328, t329, t330, t331, t332, t333, t334⟩, A20, H⟩ := H
 replace H : (if t334 = true then (if t333 = true then (if t328 < 1 then (newsreelref17_Get.j0 k true t326 t327 t328 t329 t330 t331 t332 t333 t326 t327 t328 t329 t330 t331) else ((newsreelref17_Days.f k t326 t327).bind fun t337 => (if t328 > t337 then (newsreelref17_Get.j0 k true t326 t327 t328 t329 t330 t331 t332 t333 t326 t327 t328 t329 t330 t331) else (if t329 > 23 then (newsreelref17_Get.j0 k true t326 t327 t328 t329 t330 t331 t332 t333 t326 t327 t328 t329 t330 t331) else (if t330 > 59 then (newsreelref17_Get.j0 k true t326 t327 t328 t329 t330 t331 t332 t333 t326 t327 t328 t329 t330 t331) else (newsreelref17_Get.j0 k (decide (t331 > 59)) t326 t327 t328 t329 t330 t331 t332 t333 t326 t327 t328 t329 t330 t331)))))) else (newsreelref17_Get.j0 k true t326 t327 t328 t329 t330 t331 t332 t333 t326 t327 t328 t329 t330 t331)) else (some (0, 2))) = some (r1, r2) := H
 have A2 := mkA A20
 clear A20
 by_cases c3 : t334 = true
 rotate_left
 ·replace c3 := Bool.eq_false_iff.mpr c3
  subst c3
  have H1 : (some (0, 2)) = some (r1, r2) := by rw [if_neg (show ¬ (false = true) by decide)] at H; exact H
  clear H
  have H := H1
  clear H1
  as_aux_lemma =>
   simp only [Option.some.injEq, Prod.mk.injEq] at H
   obtain ⟨rfl, rfl⟩ := H
   go_enter Tryd.func7, Tryd.ntmps7
   go_wp2_with (first | ((with_reducible refine gate_load (t := 52) rfl ?_); refine load_row3 (t := 52) (g := gb335) ?hg BK335.out ?ho ?hb Tryd.underlying52 rfl ?hs ?_; (case hg => rfl); (case ho => refine ⟨_, rfl, ?_⟩; first | (with_reducible rfl) | (go_simp; done)); (case hb => (with_reducible repeat (first | refine blk_drewN ?_ _ | refine blk_drew ?_ | refine blk_alloc ?_ _)); with_reducible exact BK335.out); (case hs => kernel_rfl)) | ((with_reducible refine gate_callee (f := 19) rfl ?_); refine goesL_ (some 9) rfl rfl Tryd.func19 (by kernel_rfl) rfl #[.string a0] rfl ca ?_; (with_reducible refine (newsreelref17_parse.calls k a0 t326 t327 t328 t329 t330 t331 t332 t333 false _ A2.out).mono ?_); rintro e w29 ⟨rfl, hb⟩; refine ⟨_, rfl, ?_⟩; have n0_ := mkA (below_step (below_y HB.out) hb); clear HB; have HB := n0_; clear n0_; (try clear hb); (try clear hb2); (try clear hk); (try clear hi)) | ((with_reducible refine gate_dst (N := 4) rfl ?_); refine box_event ?hg (N := 4) ?hd (cs := #[.int .i64 0, .int .i64 0, .int .i64 0, .int .i64 0, .int .i64 0, .int .i64 0, .int .i64 0, .bool false]) (t := 52) ?hr ?_; (case hd => rfl); (case hg => rfl); (case hr => first | (go_simp; done) | (go_simp; rfl)); intro gb335 hg w30 hbox hb; have n0_ := mkA (below_step (below_y HB.out) hb); have n1_ := mkA (hbox); have n2_ := mkA ((gz hg HB.out : w.heap.size ≤ gb335)); have n3_ := mkA ((gz hg HB.out : w.heap.size ≤ gb335)); clear HB; have HB := n0_; have BK335 := n1_; have GW335 := n2_; have GE335 := n3_; clear n0_ n1_ n2_ n3_; clear hb hbox hg; have hcz31_0 := bc BK335.out 0 (.int .i64 0) rfl; have hcz31_1 := bc BK335.out 1 (.int .i64 0) rfl; have hcz31_2 := bc BK335.out 2 (.int .i64 0) rfl; have hcz31_3 := bc BK335.out 3 (.int .i64 0) rfl; have hcz31_4 := bc BK335.out 4 (.int .i64 0) rfl; have hcz31_5 := bc BK335.out 5 (.int .i64 0) rfl; have hcz31_6 := bc BK335.out 6 (.int .i64 0) rfl; have hcz31_7 := bc BK335.out 7 (.bool false) rfl; have hfz31_0 := blk_frozen BK335.out 0; have hfz31_1 := blk_frozen BK335.out 1; have hfz31_2 := blk_frozen BK335.out 2; have hfz31_3 := blk_frozen BK335.out 3; have hfz31_4 := blk_frozen BK335.out 4; have hfz31_5 := blk_frozen BK335.out 5; have hfz31_6 := blk_frozen BK335.out 6; have hfz31_7 := blk_frozen BK335.out 7) | ((with_reducible refine gate_store (t := 52) (p := 4) rfl ?_); refine store_whole2 (t := 52) (g := gb335) ?hg ?hn (cells := #[.int .i64 t326, .int .i64 t327, .int .i64 t328, .int .i64 t329, .int .i64 t330, .int .i64 t331, .int .i64 t332, .bool t333]) ?ho (blk_y BK335.out) (by kernel_rfl) rfl ?h1 ?_; (case hg => rfl); (case hn => rfl); (case ho => refine ⟨_, _, rfl, ?_, ?_⟩; all_goals (first | (with_reducible rfl) | (go_simp; done) | rfl | (go_simp; rfl))); (case h1 => first | rfl | simp [Value.oneCell']); intro w32 hw; have hg : w30.grownBy w32 (some gb335) := (by rw [hw]; exact grown_setRow _ _ _); have n0_ := mkA ((by rw [hw]; exact setRow_heap _ _ _ _ _ _ (blk_y BK335.out) : w32.heap[gb335]? = some (.cells #[.int .i64 t326, .int .i64 t327, .int .i64 t328, .int .i64 t329, .int .i64 t330, .int .i64 t331, .int .i64 t332, .bool t333] 52 (0, 0)))); have n1_ := mkA ((by rw [hw]; exact below_setRow (below_y HB.out) GE335.out _ : Below w.heap.size w w32)); clear BK335; clear HB; have BK335 := n0_; have HB := n1_; clear n0_ n1_; clear hg hw))
   go_ret2
   exact ⟨by first | rfl | (simp [errW_none, errW_some] <;> rfl) | (simp [*, errW_none, errW_some] <;> rfl), by repeat (first | (with_reducible first | exact HB.out | apply below_alloc | apply pw_below_drewN | apply below_drew1 | refine below_set ?_ GE335.out) | exact HB.out)⟩
 subst c3
 have H1 : (if t333 = true then (if t328 < 1 then (newsreelref17_Get.j0 k true t326 t327 t328 t329 t330 t331 t332 t333 t326 t327 t328 t329 t330 t331) else ((newsreelref17_Days.f k t326 t327).bind fun t337 => (if t328 > t337 then (newsreelref17_Get.j0 k true t326 t327 t328 t329 t330 t331 t332 t333 t326 t327 t328 t329 t330 t331) else (if t329 > 23 then (newsreelref17_Get.j0 k true t326 t327 t328 t329 t330 t331 t332 t333 t326 t327 t328 t329 t330 t331) else (if t330 > 59 then (newsreelref17_Get.j0 k true t326 t327 t328 t329 t330 t331 t332 t333 t326 t327 t328 t329 t330 t331) else (newsreelref17_Get.j0 k (decide (t331 > 59)) t326 t327 t328 t329 t330 t331 t332 t333 t326 t327 t328 t329 t330 t331)))))) else (newsreelref17_Get.j0 k true t326 t327 t328 t329 t330 t331 t332 t333 t326 t327 t328 t329 t330 t331)) = some (r1, r2) := by rw [if_pos rfl] at H; exact H
 clear H
 have H := H1
 clear H1
 have HC4 := mkA H
 clear H
 go_enter Tryd.func7, Tryd.ntmps7
 go_upto_region 5 with (first | ((with_reducible refine gate_load (t := 52) rfl ?_); refine load_row3 (t := 52) (g := gb335) ?hg BK335.out ?ho ?hb Tryd.underlying52 rfl ?hs ?_; (case hg => rfl); (case ho => refine ⟨_, rfl, ?_⟩; first | (with_reducible rfl) | (go_simp; done)); (case hb => (with_reducible repeat (first | refine blk_drewN ?_ _ | refine blk_drew ?_ | refine blk_alloc ?_ _)); with_reducible exact BK335.out); (case hs => kernel_rfl)) | ((with_reducible refine gate_load (t := 50) rfl ?_); refine load_row3 (t := 50) (g := gb336) ?hg BK336.out ?ho ?hb Tryd.underlying50 rfl ?hs ?_; (case hg => rfl); (case ho => refine ⟨_, rfl, ?_⟩; first | (with_reducible rfl) | (go_simp; done)); (case hb => (with_reducible repeat (first | refine blk_drewN ?_ _ | refine blk_drew ?_ | refine blk_alloc ?_ _)); with_reducible exact BK336.out); (case hs => kernel_rfl)) | ((with_reducible refine gate_callee (f := 19) rfl ?_); refine goesL_ (some 9) rfl rfl Tryd.func19 (by kernel_rfl) rfl #[.string a0] rfl ca ?_; (with_reducible refine (newsreelref17_parse.calls k a0 t326 t327 t328 t329 t330 t331 t332 t333 true _ A2.out).mono ?_); rintro e w5 ⟨rfl, hb⟩; refine ⟨_, rfl, ?_⟩; have n0_ := mkA (below_step (below_y HB.out) hb); clear HB; have HB := n0_; clear n0_; (try clear hb); (try clear hb2); (try clear hk); (try clear hi)) | ((with_reducible refine gate_dst (N := 4) rfl ?_); refine box_event ?hg (N := 4) ?hd (cs := #[.int .i64 0, .int .i64 0, .int .i64 0, .int .i64 0, .int .i64 0, .int .i64 0, .int .i64 0, .bool false]) (t := 52) ?hr ?_; (case hd => rfl); (case hg => rfl); (case hr => first | (go_simp; done) | (go_simp; rfl)); intro gb335 hg w6 hbox hb; have n0_ := mkA (below_step (below_y HB.out) hb); have n1_ := mkA (hbox); have n2_ := mkA ((gz hg HB.out : w.heap.size ≤ gb335)); have n3_ := mkA ((gz hg HB.out : w.heap.size ≤ gb335)); clear HB; have HB := n0_; have BK335 := n1_; have GW335 := n2_; have GE335 := n3_; clear n0_ n1_ n2_ n3_; clear hb hbox hg; have hcz7_0 := bc BK335.out 0 (.int .i64 0) rfl; have hcz7_1 := bc BK335.out 1 (.int .i64 0) rfl; have hcz7_2 := bc BK335.out 2 (.int .i64 0) rfl; have hcz7_3 := bc BK335.out 3 (.int .i64 0) rfl; have hcz7_4 := bc BK335.out 4 (.int .i64 0) rfl; have hcz7_5 := bc BK335.out 5 (.int .i64 0) rfl; have hcz7_6 := bc BK335.out 6 (.int .i64 0) rfl; have hcz7_7 := bc BK335.out 7 (.bool false) rfl; have hfz7_0 := blk_frozen BK335.out 0; have hfz7_1 := blk_frozen BK335.out 1; have hfz7_2 := blk_frozen BK335.out 2; have hfz7_3 := blk_frozen BK335.out 3; have hfz7_4 := blk_frozen BK335.out 4; have hfz7_5 := blk_frozen BK335.out 5; have hfz7_6 := blk_frozen BK335.out 6; have hfz7_7 := blk_frozen BK335.out 7) | ((with_reducible refine gate_store (t := 52) (p := 4) rfl ?_); refine store_whole2 (t := 52) (g := gb335) ?hg ?hn (cells := #[.int .i64 t326, .int .i64 t327, .int .i64 t328, .int .i64 t329, .int .i64 t330, .int .i64 t331, .int .i64 t332, .bool t333]) ?ho (blk_y BK335.out) (by kernel_rfl) rfl ?h1 ?_; (case hg => rfl); (case hn => rfl); (case ho => refine ⟨_, _, rfl, ?_, ?_⟩; all_goals (first | (with_reducible rfl) | (go_simp; done) | rfl | (go_simp; rfl))); (case h1 => first | rfl | simp [Value.oneCell']); intro w8 hw; have hg : w6.grownBy w8 (some gb335) := (by rw [hw]; exact grown_setRow _ _ _); have n0_ := mkA ((by rw [hw]; exact setRow_heap _ _ _ _ _ _ (blk_y BK335.out) : w8.heap[gb335]? = some (.cells #[.int .i64 t326, .int .i64 t327, .int .i64 t328, .int .i64 t329, .int .i64 t330, .int .i64 t331, .int .i64 t332, .bool t333] 52 (0, 0)))); have n1_ := mkA ((by rw [hw]; exact below_setRow (below_y HB.out) GE335.out _ : Below w.heap.size w w8)); clear BK335; clear HB; have BK335 := n0_; have HB := n1_; clear n0_ n1_; clear hg hw; have hcz9_0 := bc BK335.out 0 (.int .i64 t326) rfl; have hcz9_1 := bc BK335.out 1 (.int .i64 t327) rfl; have hcz9_2 := bc BK335.out 2 (.int .i64 t328) rfl; have hcz9_3 := bc BK335.out 3 (.int .i64 t329) rfl; have hcz9_4 := bc BK335.out 4 (.int .i64 t330) rfl; have hcz9_5 := bc BK335.out 5 (.int .i64 t331) rfl; have hcz9_6 := bc BK335.out 6 (.int .i64 t332) rfl; have hcz9_7 := bc BK335.out 7 (.bool t333) rfl; have hfz9_0 := blk_frozen BK335.out 0; have hfz9_1 := blk_frozen BK335.out 1; have hfz9_2 := blk_frozen BK335.out 2; have hfz9_3 := blk_frozen BK335.out 3; have hfz9_4 := blk_frozen BK335.out 4; have hfz9_5 := blk_frozen BK335.out 5; have hfz9_6 := blk_frozen BK335.out 6; have hfz9_7 := blk_frozen BK335.out 7) | ((with_reducible refine gate_dst (N := 6) rfl ?_); refine box_event ?hg (N := 6) ?hd (cs := #[.int .i64 0, .int .i64 0, .int .i64 0, .int .i64 0, .int .i64 0, .int .i64 0]) (t := 50) ?hr ?_; (case hd => rfl); (case hg => rfl); (case hr => first | (go_simp; done) | (go_simp; rfl)); intro gb336 hg w10 hbox hb; have n0_ := mkA (blk_below (blk_y BK335.out) hb); have n1_ := mkA (below_step (below_y HB.out) hb); have n2_ := mkA (hbox); have n3_ := mkA ((gz hg HB.out : w.heap.size ≤ gb336)); have n4_ := mkA ((gz hg HB.out : w.heap.size ≤ gb336)); have n5_ := mkA ((gn hg BK335.out : gb335 ≠ gb336)); have n6_ := mkA ((gm hg BK335.out : gb336 ≠ gb335)); clear BK335; clear HB; have BK335 := n0_; have HB := n1_; have BK336 := n2_; have GW336 := n3_; have GE336 := n4_; have NB335_336 := n5_; have NB336_335 := n6_; clear n0_ n1_ n2_ n3_ n4_ n5_ n6_; clear hb hbox hg; have hnb11 := NB336_335.out; have hnc11 := NB335_336.out; have hcz12_0 := bc BK336.out 0 (.int .i64 0) rfl; have hcz12_1 := bc BK336.out 1 (.int .i64 0) rfl; have hcz12_2 := bc BK336.out 2 (.int .i64 0) rfl; have hcz12_3 := bc BK336.out 3 (.int .i64 0) rfl; have hcz12_4 := bc BK336.out 4 (.int .i64 0) rfl; have hcz12_5 := bc BK336.out 5 (.int .i64 0) rfl; have hfz12_0 := blk_frozen BK336.out 0; have hfz12_1 := blk_frozen BK336.out 1; have hfz12_2 := blk_frozen BK336.out 2; have hfz12_3 := blk_frozen BK336.out 3; have hfz12_4 := blk_frozen BK336.out 4; have hfz12_5 := blk_frozen BK336.out 5) | ((with_reducible refine gate_store (t := 50) (p := 6) rfl ?_); refine store_whole2 (t := 50) (g := gb336) ?hg ?hn (cells := #[.int .i64 t326, .int .i64 t327, .int .i64 t328, .int .i64 t329, .int .i64 t330, .int .i64 t331]) ?ho (blk_y BK336.out) (by kernel_rfl) rfl ?h1 ?_; (case hg => rfl); (case hn => rfl); (case ho => refine ⟨_, _, rfl, ?_, ?_⟩; all_goals (first | (with_reducible rfl) | (go_simp; done) | rfl | (go_simp; rfl))); (case h1 => first | rfl | simp [Value.oneCell']); intro w13 hw; have hg : w10.grownBy w13 (some gb336) := (by rw [hw]; exact grown_setRow _ _ _); have n0_ := mkA ((by rw [hw]; exact (setRow_other _ _ _ _ NB335_336.out).trans (blk_y BK335.out) : w13.heap[gb335]? = some (.cells #[.int .i64 t326, .int .i64 t327, .int .i64 t328, .int .i64 t329, .int .i64 t330, .int .i64 t331, .int .i64 t332, .bool t333] 52 (0, 0)))); have n1_ := mkA ((by rw [hw]; exact setRow_heap _ _ _ _ _ _ (blk_y BK336.out) : w13.heap[gb336]? = some (.cells #[.int .i64 t326, .int .i64 t327, .int .i64 t328, .int .i64 t329, .int .i64 t330, .int .i64 t331] 50 (0, 0)))); have n2_ := mkA ((by rw [hw]; exact below_setRow (below_y HB.out) GE336.out _ : Below w.heap.size w w13)); clear BK335; clear BK336; clear HB; have BK335 := n0_; have BK336 := n1_; have HB := n2_; clear n0_ n1_ n2_; clear hg hw))
 (try simp only [Act.put, sA, s0, sS])
 go_cut [48] (fun v48 wc => ∃ (kq : Nat) (x48_3 : Bool), v48 = .bool x48_3 ∧ Aside0 (newsreelref17_Get.j0 kq x48_3 t326 t327 t328 t329 t330 t331 t332 t333 t326 t327 t328 t329 t330 t331 = some (r1, r2)) ∧ Aside0 (kq ≤ k) ∧ Aside0 (wc.heap[gb335]? = some (.cells #[.int .i64 t326, .int .i64 t327, .int .i64 t328, .int .i64 t329, .int .i64 t330, .int .i64 t331, .int .i64 t332, .bool t333] 52 (0, 0))) ∧ Aside0 (wc.heap[gb336]? = some (.cells #[.int .i64 t326, .int .i64 t327, .int .i64 t328, .int .i64 t329, .int .i64 t330, .int .i64 t331] 50 (0, 0))) ∧ Aside0 (Below w.heap.size w wc))
 case rest =>
  clear HC4
  try clear c1
  try clear c2
  try clear p2
  try clear c11
  try clear c14
  try clear c22
  try clear c22b0
  obtain ⟨kq, x48_3, rfl, HA, HJ3, BK335, BK336, HB⟩ := hcut
  cases kq with
  | zero => exact absurd HA.out (by simp [newsreelref17_Get.j0])
  | succ kj3 =>
   have H := HA.out
   clear HA
   simp only [newsreelref17_Get.j0] at H
   by_cases c26 : x48_3 = true
   ·subst c26
    have H1 : (some (0, 3)) = some (r1, r2) := by rw [if_pos rfl] at H; exact H
    clear H
    have H := H1
    clear H1
    as_aux_lemma =>
     simp only [Option.some.injEq, Prod.mk.injEq] at H
     obtain ⟨rfl, rfl⟩ := H
     go_wp2_with (first | ((with_reducible refine gate_load (t := 52) rfl ?_); refine load_row3 (t := 52) (g := gb335) ?hg BK335.out ?ho ?hb Tryd.underlying52 rfl ?hs ?_; (case hg => rfl); (case ho => refine ⟨_, rfl, ?_⟩; first | (with_reducible rfl) | (go_simp; done)); (case hb => (with_reducible repeat (first | refine blk_drewN ?_ _ | refine blk_drew ?_ | refine blk_alloc ?_ _)); with_reducible exact BK335.out); (case hs => kernel_rfl)) | ((with_reducible refine gate_load (t := 50) rfl ?_); refine load_row3 (t := 50) (g := gb336) ?hg BK336.out ?ho ?hb Tryd.underlying50 rfl ?hs ?_; (case hg => rfl); (case ho => refine ⟨_, rfl, ?_⟩; first | (with_reducible rfl) | (go_simp; done)); (case hb => (with_reducible repeat (first | refine blk_drewN ?_ _ | refine blk_drew ?_ | refine blk_alloc ?_ _)); with_reducible exact BK336.out); (case hs => kernel_rfl)))
     go_ret2
     exact ⟨by first | rfl | (simp [errW_none, errW_some] <;> rfl) | (simp [*, errW_none, errW_some] <;> rfl), by repeat (first | (with_reducible first | exact HB.out | apply below_alloc | apply pw_below_drewN | apply below_drew1 | refine below_set ?_ GE335.out | refine below_set ?_ GE336.out) | exact HB.out)⟩
   ·replace c26 := Bool.eq_false_iff.mpr c26
    subst c26
    have H1 : ((newsreelref17_Gone.f kj3 t326 t327 t328).bind fun t338 => (some (wrap64 ((wrap64 ((wrap64 (86400 * t338)) + (wrap64 ((wrap64 ((wrap64 (3600 * t329)) + (wrap64 (60 * t330)))) + t331)))) - (wrap64 (60 * t332))), 0))) = some (r1, r2) := by rw [if_neg (show ¬ (false = true) by decide)] at H; exact H
    clear H
    have H := H1
    clear H1
    replace H := Option.bind_eq_some_iff.mp H
    obtain ⟨t338, A270, H⟩ := H
    replace H : (some (wrap64 ((wrap64 ((wrap64 (86400 * t338)) + (wrap64 ((wrap64 ((wrap64 (3600 * t329)) + (wrap64 (60 * t330)))) + t331)))) - (wrap64 (60 * t332))), 0)) = some (r1, r2) := H
    have A27 := mkA A270
    clear A270
    as_aux_lemma =>
     simp only [Option.some.injEq, Prod.mk.injEq] at H
     obtain ⟨rfl, rfl⟩ := H
     try go_wp2_with (first | ((with_reducible refine gate_load (t := 52) rfl ?_); refine load_row3 (t := 52) (g := gb335) ?hg BK335.out ?ho ?hb Tryd.underlying52 rfl ?hs ?_; (case hg => rfl); (case ho => refine ⟨_, rfl, ?_⟩; first | (with_reducible rfl) | (go_simp; done)); (case hb => (with_reducible repeat (first | refine blk_drewN ?_ _ | refine blk_drew ?_ | refine blk_alloc ?_ _)); with_reducible exact BK335.out); (case hs => kernel_rfl)) | ((with_reducible refine gate_load (t := 50) rfl ?_); refine load_row3 (t := 50) (g := gb336) ?hg BK336.out ?ho ?hb Tryd.underlying50 rfl ?hs ?_; (case hg => rfl); (case ho => refine ⟨_, rfl, ?_⟩; first | (with_reducible rfl) | (go_simp; done)); (case hb => (with_reducible repeat (first | refine blk_drewN ?_ _ | refine blk_drew ?_ | refine blk_alloc ?_ _)); with_reducible exact BK336.out); (case hs => kernel_rfl)))
     have n0_ := mkA (blk_drew BK335.out)
     have n1_ := mkA (blk_drew BK336.out)
     try (have HBd_ := mkA (below_drew1 (pw_below_drewN HB.out nd)))
     have n2_ := mkA (below_drew1 HB.out)
     clear BK335 BK336 HB
     have BK335 := n0_
     have BK336 := n1_
     have HB := n2_
     clear n0_ n1_ n2_
     refine start_ (n := 25) (S := fun w' => w'.cell? ⟨gb336, 0, none⟩ = some (.int .i64 t326) ∧ w'.cell? ⟨gb336, 1, none⟩ = some (.int .i64 t327) ∧ w'.cell? ⟨gb336, 2, none⟩ = some (.int .i64 t328) ∧ w'.cell? ⟨gb336, 3, none⟩ = some (.int .i64 t329) ∧ w'.cell? ⟨gb336, 4, none⟩ = some (.int .i64 t330) ∧ w'.cell? ⟨gb336, 5, none⟩ = some (.int .i64 t331) ∧ w'.cell? ⟨gb335, 0, none⟩ = some (.int .i64 t326) ∧ w'.cell? ⟨gb335, 1, none⟩ = some (.int .i64 t327) ∧ w'.cell? ⟨gb335, 2, none⟩ = some (.int .i64 t328) ∧ w'.cell? ⟨gb335, 3, none⟩ = some (.int .i64 t329) ∧ w'.cell? ⟨gb335, 4, none⟩ = some (.int .i64 t330) ∧ w'.cell? ⟨gb335, 5, none⟩ = some (.int .i64 t331) ∧ w'.cell? ⟨gb335, 6, none⟩ = some (.int .i64 t332) ∧ w'.cell? ⟨gb335, 7, none⟩ = some (.bool t333)) (ds := []) #[false, false, false, false, false, false, false, false, false, false, false, false, false, false, false, false, false, false, false, false, false, false, false, false, false] (by kernel_rfl) rfl rfl ⟨(blk_cell BK336.out 0).trans rfl, (blk_cell BK336.out 1).trans rfl, (blk_cell BK336.out 2).trans rfl, (blk_cell BK336.out 3).trans rfl, (blk_cell BK336.out 4).trans rfl, (blk_cell BK336.out 5).trans rfl, (blk_cell BK335.out 0).trans rfl, (blk_cell BK335.out 1).trans rfl, (blk_cell BK335.out 2).trans rfl, (blk_cell BK335.out 3).trans rfl, (blk_cell BK335.out 4).trans rfl, (blk_cell BK335.out 5).trans rfl, (blk_cell BK335.out 6).trans rfl, (blk_cell BK335.out 7).trans rfl⟩ (fun hHeld => ?_); refine with_tabW newsreelref17_Get.tab7 newsreelref17_Get.bits7 (fun HT_ HW_ => ?_)
     generalize wc.drew = w28 at BK335 BK336 HB hHeld ⊢
     refine pu 0 49 HT_ ?_
     refine pu 2 51 HT_ ?_
     refine pu 4 53 HT_ ?_
     refine pu 8 57 HT_ ?_
     refine pu 11 60 HT_ ?_
     refine pu 15 64 HT_ ?_
     refine pu 19 68 HT_ ?_
     refine tk 1 50 HT_ HW_ hHeld ?_
     refine tk 3 52 HT_ HW_ hHeld ?_
     refine tk 5 54 HT_ HW_ hHeld ?_
     refine tk 9 58 HT_ HW_ hHeld ?_
     refine pu 10 59 HT_ ?_
     refine tk 12 61 HT_ HW_ hHeld ?_
     refine pu 13 62 HT_ ?_
     refine pu 14 63 HT_ ?_
     refine tk 16 65 HT_ HW_ hHeld ?_
     refine pu 17 66 HT_ ?_
     refine tk 20 69 HT_ HW_ hHeld ?_
     refine pu 21 70 HT_ ?_
     refine one_ (i := 6) (N := some 55) #[true, true, true, true, true, true, true, false, true, true, true, true, true, true, true, true, true, true, false, true, true, true, false, false, false] rfl rfl (one_of HT_.out (by kernel_rfl)) (by decide) (fun K hK => ?_)
     refine goes_ Tryd.func20 (by kernel_rfl) rfl #[.int .i64 t326, .int .i64 t327, .int .i64 t328] (by rfl) rfl rfl ca ?_
     with_reducible refine (newsreelref17_Gone.calls kj3 t326 t327 t328 t338 _ A27.out).mono ?_
     rintro e w' ⟨rfl, ⟨nd, rfl⟩⟩
     refine ⟨_, rfl, ?_⟩
     refine hK.out _ _ ⟨(blk_cell BK336.out 0).trans rfl, (blk_cell BK336.out 1).trans rfl, (blk_cell BK336.out 2).trans rfl, (blk_cell BK336.out 3).trans rfl, (blk_cell BK336.out 4).trans rfl, (blk_cell BK336.out 5).trans rfl, (blk_cell BK335.out 0).trans rfl, (blk_cell BK335.out 1).trans rfl, (blk_cell BK335.out 2).trans rfl, (blk_cell BK335.out 3).trans rfl, (blk_cell BK335.out 4).trans rfl, (blk_cell BK335.out 5).trans rfl, (blk_cell BK335.out 6).trans rfl, (blk_cell BK335.out 7).trans rfl⟩ (fun hHeld => ?_)
     clear hK K
     refine norm_ (a' := ?_) ?_ ?_
     rotate_left
     ·show Act.put _ (some 55) _ = _
      simp only [Act.put, sA, s0, sS, i64_w, i32_w]
      rfl
     refine pu 7 56 HT_ ?_
     refine pu 18 67 HT_ ?_
     refine pu 22 71 HT_ ?_
     refine pu 23 2 HT_ ?_
     refine pu 24 3 HT_ ?_
     refine done_ (done_of HT_.out (by kernel_rfl)) ?_
     try go_wp2_with (first | ((with_reducible refine gate_load (t := 52) rfl ?_); refine load_row3 (t := 52) (g := gb335) ?hg BK335.out ?ho ?hb Tryd.underlying52 rfl ?hs ?_; (case hg => rfl); (case ho => refine ⟨_, rfl, ?_⟩; first | (with_reducible rfl) | (go_simp; done)); (case hb => (with_reducible repeat (first | refine blk_drewN ?_ _ | refine blk_drew ?_ | refine blk_alloc ?_ _)); with_reducible exact BK335.out); (case hs => kernel_rfl)) | ((with_reducible refine gate_load (t := 50) rfl ?_); refine load_row3 (t := 50) (g := gb336) ?hg BK336.out ?ho ?hb Tryd.underlying50 rfl ?hs ?_; (case hg => rfl); (case ho => refine ⟨_, rfl, ?_⟩; first | (with_reducible rfl) | (go_simp; done)); (case hb => (with_reducible repeat (first | refine blk_drewN ?_ _ | refine blk_drew ?_ | refine blk_alloc ?_ _)); with_reducible exact BK336.out); (case hs => kernel_rfl)))
     go_ret2
     exact ⟨by first | rfl | (simp [errW_none, errW_some] <;> rfl) | (simp [*, errW_none, errW_some] <;> rfl), by repeat (first | (with_reducible first | exact HB.out | apply below_alloc | apply pw_below_drewN | apply below_drew1 | refine below_set ?_ GE335.out | refine below_set ?_ GE336.out) | exact HB.out)⟩
 have H := HC4.out
 clear HC4
 by_cases c14 : t333 = true
 rotate_left
 ·replace c14 := Bool.eq_false_iff.mpr c14
  subst c14
  have H1 : (newsreelref17_Get.j0 k true t326 t327 t328 t329 t330 t331 t332 false t326 t327 t328 t329 t330 t331) = some (r1, r2) := by rw [if_neg (show ¬ (false = true) by decide)] at H; exact H
  clear H
  have H := H1
  clear H1
  as_aux_lemma =>
   have H' := mkA H
   clear H
   try go_wp2_with (first | ((with_reducible refine gate_load (t := 52) rfl ?_); refine load_row3 (t := 52) (g := gb335) ?hg BK335.out ?ho ?hb Tryd.underlying52 rfl ?hs ?_; (case hg => rfl); (case ho => refine ⟨_, rfl, ?_⟩; first | (with_reducible rfl) | (go_simp; done)); (case hb => (with_reducible repeat (first | refine blk_drewN ?_ _ | refine blk_drew ?_ | refine blk_alloc ?_ _)); with_reducible exact BK335.out); (case hs => kernel_rfl)) | ((with_reducible refine gate_load (t := 50) rfl ?_); refine load_row3 (t := 50) (g := gb336) ?hg BK336.out ?ho ?hb Tryd.underlying50 rfl ?hs ?_; (case hg => rfl); (case ho => refine ⟨_, rfl, ?_⟩; first | (with_reducible rfl) | (go_simp; done)); (case hb => (with_reducible repeat (first | refine blk_drewN ?_ _ | refine blk_drew ?_ | refine blk_alloc ?_ _)); with_reducible exact BK336.out); (case hs => kernel_rfl)))
   have n0_ := mkA (blk_drew BK335.out)
   have n1_ := mkA (blk_drew BK336.out)
   try (have HBd_ := mkA (below_drew1 (pw_below_drewN HB.out nd)))
   have n2_ := mkA (below_drew1 HB.out)
   clear BK335 BK336 HB
   have BK335 := n0_
   have BK336 := n1_
   have HB := n2_
   clear n0_ n1_ n2_
   refine start_ (n := 33) (S := fun w' => w'.cell? ⟨gb335, 0, none⟩ = some (.int .i64 t326) ∧ w'.cell? ⟨gb335, 1, none⟩ = some (.int .i64 t327) ∧ w'.cell? ⟨gb335, 2, none⟩ = some (.int .i64 t328) ∧ w'.cell? ⟨gb335, 3, none⟩ = some (.int .i64 t329) ∧ w'.cell? ⟨gb335, 4, none⟩ = some (.int .i64 t330) ∧ w'.cell? ⟨gb335, 5, none⟩ = some (.int .i64 t331) ∧ w'.cell? ⟨gb335, 6, none⟩ = some (.int .i64 t332) ∧ w'.cell? ⟨gb335, 7, none⟩ = some (.bool false)) (ds := []) #[false, false, false, false, false, false, false, false, false, false, false, false, false, false, false, false, false, false, false, false, false, false, false, false, false, false, false, false, false, false, false, false, false] (by kernel_rfl) rfl rfl ⟨(blk_cell BK335.out 0).trans rfl, (blk_cell BK335.out 1).trans rfl, (blk_cell BK335.out 2).trans rfl, (blk_cell BK335.out 3).trans rfl, (blk_cell BK335.out 4).trans rfl, (blk_cell BK335.out 5).trans rfl, (blk_cell BK335.out 6).trans rfl, (blk_cell BK335.out 7).trans rfl⟩ (fun hHeld => ?_); refine with_tabW newsreelref17_Get.tab5 newsreelref17_Get.bits5 (fun HT_ HW_ => ?_)
   generalize w13.drew = w25 at BK335 BK336 HB hHeld ⊢
   refine pu 0 16 HT_ ?_
   refine tk 1 17 HT_ HW_ hHeld ?_
   refine pu 2 18 HT_ ?_
   refine pu 3 19 HT_ ?_
   refine pn 4 20 HT_ ?_
   refine pn 5 21 HT_ ?_
   refine pn 6 22 HT_ ?_
   refine pu 7 23 HT_ ?_
   refine pu 8 24 HT_ ?_
   refine pn 9 25 HT_ ?_
   refine pn 10 26 HT_ ?_
   refine pn 11 27 HT_ ?_
   refine pn 12 28 HT_ ?_
   refine pn 13 29 HT_ ?_
   refine pn 14 30 HT_ ?_
   refine pn 15 31 HT_ ?_
   refine pn 16 32 HT_ ?_
   refine pu 17 33 HT_ ?_
   refine pu 18 34 HT_ ?_
   refine pn 19 35 HT_ ?_
   refine pn 20 36 HT_ ?_
   refine pn 21 37 HT_ ?_
   refine pu 22 38 HT_ ?_
   refine pu 23 39 HT_ ?_
   refine pn 24 40 HT_ ?_
   refine pn 25 41 HT_ ?_
   refine pn 26 42 HT_ ?_
   refine pu 27 43 HT_ ?_
   refine pu 28 44 HT_ ?_
   refine pn 29 45 HT_ ?_
   refine pn 30 46 HT_ ?_
   refine pn 31 47 HT_ ?_
   refine pu 32 48 HT_ ?_
   refine done_ (done_of HT_.out (by kernel_rfl)) ?_
   try go_wp2_with (first | ((with_reducible refine gate_load (t := 52) rfl ?_); refine load_row3 (t := 52) (g := gb335) ?hg BK335.out ?ho ?hb Tryd.underlying52 rfl ?hs ?_; (case hg => rfl); (case ho => refine ⟨_, rfl, ?_⟩; first | (with_reducible rfl) | (go_simp; done)); (case hb => (with_reducible repeat (first | refine blk_drewN ?_ _ | refine blk_drew ?_ | refine blk_alloc ?_ _)); with_reducible exact BK335.out); (case hs => kernel_rfl)) | ((with_reducible refine gate_load (t := 50) rfl ?_); refine load_row3 (t := 50) (g := gb336) ?hg BK336.out ?ho ?hb Tryd.underlying50 rfl ?hs ?_; (case hg => rfl); (case ho => refine ⟨_, rfl, ?_⟩; first | (with_reducible rfl) | (go_simp; done)); (case hb => (with_reducible repeat (first | refine blk_drewN ?_ _ | refine blk_drew ?_ | refine blk_alloc ?_ _)); with_reducible exact BK336.out); (case hs => kernel_rfl)))
   go_meet
   case rel => exact ⟨_, (true), (by first | rfl | (simp; done) | (simp [*]; done)), H', ⟨by first | omega | exact Nat.le_refl _⟩, ⟨by (with_reducible repeat (first | refine blk_drewN ?_ _ | refine blk_drew ?_ | refine blk_alloc ?_ _)); exact BK335.out⟩, ⟨by (with_reducible repeat (first | refine blk_drewN ?_ _ | refine blk_drew ?_ | refine blk_alloc ?_ _)); exact BK336.out⟩, ⟨by repeat (first | (with_reducible first | exact HB.out | apply below_alloc | apply pw_below_drewN | apply below_drew1 | refine below_set ?_ GE335.out | refine below_set ?_ GE336.out) | exact HB.out)⟩⟩
 subst c14
 have H1 : (if t328 < 1 then (newsreelref17_Get.j0 k true t326 t327 t328 t329 t330 t331 t332 true t326 t327 t328 t329 t330 t331) else ((newsreelref17_Days.f k t326 t327).bind fun t337 => (if t328 > t337 then (newsreelref17_Get.j0 k true t326 t327 t328 t329 t330 t331 t332 true t326 t327 t328 t329 t330 t331) else (if t329 > 23 then (newsreelref17_Get.j0 k true t326 t327 t328 t329 t330 t331 t332 true t326 t327 t328 t329 t330 t331) else (if t330 > 59 then (newsreelref17_Get.j0 k true t326 t327 t328 t329 t330 t331 t332 true t326 t327 t328 t329 t330 t331) else (newsreelref17_Get.j0 k (decide (t331 > 59)) t326 t327 t328 t329 t330 t331 t332 true t326 t327 t328 t329 t330 t331)))))) = some (r1, r2) := by rw [if_pos rfl] at H; exact H
 clear H
 have H := H1
 clear H1
 by_cases c15 : t328 < 1
 ·rw [if_pos c15] at H
  have c15b0 : decide (t328 < 1) = true := decide_eq_true c15
  clear c15
  (first | rw [c15b0] | (simp only [i64_w, i32_w]; rw [c15b0]) | skip)
  as_aux_lemma =>
   have H' := mkA H
   clear H
   try go_wp2_with (first | ((with_reducible refine gate_load (t := 52) rfl ?_); refine load_row3 (t := 52) (g := gb335) ?hg BK335.out ?ho ?hb Tryd.underlying52 rfl ?hs ?_; (case hg => rfl); (case ho => refine ⟨_, rfl, ?_⟩; first | (with_reducible rfl) | (go_simp; done)); (case hb => (with_reducible repeat (first | refine blk_drewN ?_ _ | refine blk_drew ?_ | refine blk_alloc ?_ _)); with_reducible exact BK335.out); (case hs => kernel_rfl)) | ((with_reducible refine gate_load (t := 50) rfl ?_); refine load_row3 (t := 50) (g := gb336) ?hg BK336.out ?ho ?hb Tryd.underlying50 rfl ?hs ?_; (case hg => rfl); (case ho => refine ⟨_, rfl, ?_⟩; first | (with_reducible rfl) | (go_simp; done)); (case hb => (with_reducible repeat (first | refine blk_drewN ?_ _ | refine blk_drew ?_ | refine blk_alloc ?_ _)); with_reducible exact BK336.out); (case hs => kernel_rfl)))
   have n0_ := mkA (blk_drew BK335.out)
   have n1_ := mkA (blk_drew BK336.out)
   have n2_ := mkA (below_drew1 HB.out)
   clear BK335 BK336 HB
   have BK335 := n0_
   have BK336 := n1_
   have HB := n2_
   clear n0_ n1_ n2_
   refine start_ (n := 33) (S := fun w' => w'.cell? ⟨gb335, 0, none⟩ = some (.int .i64 t326) ∧ w'.cell? ⟨gb335, 1, none⟩ = some (.int .i64 t327) ∧ w'.cell? ⟨gb335, 2, none⟩ = some (.int .i64 t328) ∧ w'.cell? ⟨gb335, 3, none⟩ = some (.int .i64 t329) ∧ w'.cell? ⟨gb335, 4, none⟩ = some (.int .i64 t330) ∧ w'.cell? ⟨gb335, 5, none⟩ = some (.int .i64 t331) ∧ w'.cell? ⟨gb335, 6, none⟩ = some (.int .i64 t332) ∧ w'.cell? ⟨gb335, 7, none⟩ = some (.bool true) ∧ w'.cell? ⟨gb336, 0, none⟩ = some (.int .i64 t326) ∧ w'.cell? ⟨gb336, 1, none⟩ = some (.int .i64 t327) ∧ w'.cell? ⟨gb336, 2, none⟩ = some (.int .i64 t328) ∧ w'.cell? ⟨gb336, 3, none⟩ = some (.int .i64 t329) ∧ w'.cell? ⟨gb336, 4, none⟩ = some (.int .i64 t330) ∧ w'.cell? ⟨gb336, 5, none⟩ = some (.int .i64 t331)) (ds := []) #[false, false, false, false, false, false, false, false, false, false, false, false, false, false, false, false, false, false, false, false, false, false, false, false, false, false, false, false, false, false, false, false, false] (by kernel_rfl) rfl rfl ⟨(blk_cell BK335.out 0).trans rfl, (blk_cell BK335.out 1).trans rfl, (blk_cell BK335.out 2).trans rfl, (blk_cell BK335.out 3).trans rfl, (blk_cell BK335.out 4).trans rfl, (blk_cell BK335.out 5).trans rfl, (blk_cell BK335.out 6).trans rfl, (blk_cell BK335.out 7).trans rfl, (blk_cell BK336.out 0).trans rfl, (blk_cell BK336.out 1).trans rfl, (blk_cell BK336.out 2).trans rfl, (blk_cell BK336.out 3).trans rfl, (blk_cell BK336.out 4).trans rfl, (blk_cell BK336.out 5).trans rfl⟩ (fun hHeld => ?_); refine with_tabW newsreelref17_Get.tab5 newsreelref17_Get.bits5 (fun HT_ HW_ => ?_)
   generalize w13.drew = w16 at BK335 BK336 HB hHeld ⊢
   refine pu 0 16 HT_ ?_
   refine tk 1 17 HT_ HW_ hHeld ?_
   refine pu 2 18 HT_ ?_
   refine pu 3 19 HT_ ?_
   refine pu 4 20 HT_ ?_
   refine tk 5 21 HT_ HW_ hHeld ?_
   refine pu 6 22 HT_ ?_
   refine pu 7 23 HT_ ?_
   refine pu 8 24 HT_ ?_
   refine pn 9 25 HT_ ?_
   refine pn 10 26 HT_ ?_
   refine pn 11 27 HT_ ?_
   refine pn 12 28 HT_ ?_
   refine pn 13 29 HT_ ?_
   refine pn 14 30 HT_ ?_
   refine pn 15 31 HT_ ?_
   refine pn 16 32 HT_ ?_
   refine pu 17 33 HT_ ?_
   refine pu 18 34 HT_ ?_
   refine pn 19 35 HT_ ?_
   refine pn 20 36 HT_ ?_
   refine pn 21 37 HT_ ?_
   refine pu 22 38 HT_ ?_
   refine pu 23 39 HT_ ?_
   refine pn 24 40 HT_ ?_
   refine pn 25 41 HT_ ?_
   refine pn 26 42 HT_ ?_
   refine pu 27 43 HT_ ?_
   refine pu 28 44 HT_ ?_
   refine pn 29 45 HT_ ?_
   refine pn 30 46 HT_ ?_
   refine pn 31 47 HT_ ?_
   refine pu 32 48 HT_ ?_
   refine done_ (done_of HT_.out (by kernel_rfl)) ?_
   try go_wp2_with (first | ((with_reducible refine gate_load (t := 52) rfl ?_); refine load_row3 (t := 52) (g := gb335) ?hg BK335.out ?ho ?hb Tryd.underlying52 rfl ?hs ?_; (case hg => rfl); (case ho => refine ⟨_, rfl, ?_⟩; first | (with_reducible rfl) | (go_simp; done)); (case hb => (with_reducible repeat (first | refine blk_drewN ?_ _ | refine blk_drew ?_ | refine blk_alloc ?_ _)); with_reducible exact BK335.out); (case hs => kernel_rfl)) | ((with_reducible refine gate_load (t := 50) rfl ?_); refine load_row3 (t := 50) (g := gb336) ?hg BK336.out ?ho ?hb Tryd.underlying50 rfl ?hs ?_; (case hg => rfl); (case ho => refine ⟨_, rfl, ?_⟩; first | (with_reducible rfl) | (go_simp; done)); (case hb => (with_reducible repeat (first | refine blk_drewN ?_ _ | refine blk_drew ?_ | refine blk_alloc ?_ _)); with_reducible exact BK336.out); (case hs => kernel_rfl)))
   go_meet
   case rel => exact ⟨_, (true), (by first | rfl | (simp; done) | (simp [*]; done)), H', ⟨by first | omega | exact Nat.le_refl _⟩, ⟨by (with_reducible repeat (first | refine blk_drewN ?_ _ | refine blk_drew ?_ | refine blk_alloc ?_ _)); exact BK335.out⟩, ⟨by (with_reducible repeat (first | refine blk_drewN ?_ _ | refine blk_drew ?_ | refine blk_alloc ?_ _)); exact BK336.out⟩, ⟨by repeat (first | (with_reducible first | exact HB.out | apply below_alloc | apply pw_below_drewN | apply below_drew1 | refine below_set ?_ GE335.out | refine below_set ?_ GE336.out) | exact HB.out)⟩⟩
 rw [if_neg c15] at H
 have c15b0 : decide (t328 < 1) = false := decide_eq_false c15
 clear c15
 (first | rw [c15b0] | (simp only [i64_w, i32_w]; rw [c15b0]) | skip)
 replace H := Option.bind_eq_some_iff.mp H
 obtain ⟨t337, A170, H⟩ := H
 replace H : (if t328 > t337 then (newsreelref17_Get.j0 k true t326 t327 t328 t329 t330 t331 t332 true t326 t327 t328 t329 t330 t331) else (if t329 > 23 then (newsreelref17_Get.j0 k true t326 t327 t328 t329 t330 t331 t332 true t326 t327 t328 t329 t330 t331) else (if t330 > 59 then (newsreelref17_Get.j0 k true t326 t327 t328 t329 t330 t331 t332 true t326 t327 t328 t329 t330 t331) else (newsreelref17_Get.j0 k (decide (t331 > 59)) t326 t327 t328 t329 t330 t331 t332 true t326 t327 t328 t329 t330 t331)))) = some (r1, r2) := H
 have A17 := mkA A170
 clear A170
 by_cases c18 : t328 > t337
 ·rw [if_pos c18] at H
  have c18b0 : decide (t337 < t328) = true := decide_eq_true c18
  clear c18
  have H' := mkA H
  clear H
  as_aux_lemma =>
   try go_wp2_with (first | ((with_reducible refine gate_load (t := 52) rfl ?_); refine load_row3 (t := 52) (g := gb335) ?hg BK335.out ?ho ?hb Tryd.underlying52 rfl ?hs ?_; (case hg => rfl); (case ho => refine ⟨_, rfl, ?_⟩; first | (with_reducible rfl) | (go_simp; done)); (case hb => (with_reducible repeat (first | refine blk_drewN ?_ _ | refine blk_drew ?_ | refine blk_alloc ?_ _)); with_reducible exact BK335.out); (case hs => kernel_rfl)) | ((with_reducible refine gate_load (t := 50) rfl ?_); refine load_row3 (t := 50) (g := gb336) ?hg BK336.out ?ho ?hb Tryd.underlying50 rfl ?hs ?_; (case hg => rfl); (case ho => refine ⟨_, rfl, ?_⟩; first | (with_reducible rfl) | (go_simp; done)); (case hb => (with_reducible repeat (first | refine blk_drewN ?_ _ | refine blk_drew ?_ | refine blk_alloc ?_ _)); with_reducible exact BK336.out); (case hs => kernel_rfl)))
   have n0_ := mkA (blk_drew BK335.out)
   have n1_ := mkA (blk_drew BK336.out)
   have n2_ := mkA (below_drew1 HB.out)
   clear BK335 BK336 HB
   have BK335 := n0_
   have BK336 := n1_
   have HB := n2_
   clear n0_ n1_ n2_
   refine start_ (n := 33) (S := fun w' => w'.cell? ⟨gb335, 0, none⟩ = some (.int .i64 t326) ∧ w'.cell? ⟨gb335, 1, none⟩ = some (.int .i64 t327) ∧ w'.cell? ⟨gb335, 2, none⟩ = some (.int .i64 t328) ∧ w'.cell? ⟨gb335, 3, none⟩ = some (.int .i64 t329) ∧ w'.cell? ⟨gb335, 4, none⟩ = some (.int .i64 t330) ∧ w'.cell? ⟨gb335, 5, none⟩ = some (.int .i64 t331) ∧ w'.cell? ⟨gb335, 6, none⟩ = some (.int .i64 t332) ∧ w'.cell? ⟨gb335, 7, none⟩ = some (.bool true) ∧ w'.cell? ⟨gb336, 0, none⟩ = some (.int .i64 t326) ∧ w'.cell? ⟨gb336, 1, none⟩ = some (.int .i64 t327) ∧ w'.cell? ⟨gb336, 2, none⟩ = some (.int .i64 t328) ∧ w'.cell? ⟨gb336, 3, none⟩ = some (.int .i64 t329) ∧ w'.cell? ⟨gb336, 4, none⟩ = some (.int .i64 t330) ∧ w'.cell? ⟨gb336, 5, none⟩ = some (.int .i64 t331)) (ds := []) #[false, false, false, false, false, false, false, false, false, false, false, false, false, false, false, false, false, false, false, false, false, false, false, false, false, false, false, false, false, false, false, false, false] (by kernel_rfl) rfl rfl ⟨(blk_cell BK335.out 0).trans rfl, (blk_cell BK335.out 1).trans rfl, (blk_cell BK335.out 2).trans rfl, (blk_cell BK335.out 3).trans rfl, (blk_cell BK335.out 4).trans rfl, (blk_cell BK335.out 5).trans rfl, (blk_cell BK335.out 6).trans rfl, (blk_cell BK335.out 7).trans rfl, (blk_cell BK336.out 0).trans rfl, (blk_cell BK336.out 1).trans rfl, (blk_cell BK336.out 2).trans rfl, (blk_cell BK336.out 3).trans rfl, (blk_cell BK336.out 4).trans rfl, (blk_cell BK336.out 5).trans rfl⟩ (fun hHeld => ?_); refine with_tabW newsreelref17_Get.tab5 newsreelref17_Get.bits5 (fun HT_ HW_ => ?_)
   generalize w13.drew = w19 at BK335 BK336 HB hHeld ⊢
   refine pu 0 16 HT_ ?_
   refine tk 1 17 HT_ HW_ hHeld ?_
   refine pu 2 18 HT_ ?_
   refine pu 3 19 HT_ ?_
   refine pu 4 20 HT_ ?_
   refine tk 5 21 HT_ HW_ hHeld ?_
   refine pu 6 22 HT_ ?_
   refine pu 7 23 HT_ ?_
   refine pu 8 24 HT_ ?_
   refine pu 9 25 HT_ ?_
   refine pu 11 27 HT_ ?_
   refine pu 13 29 HT_ ?_
   refine tk 10 26 HT_ HW_ hHeld ?_
   refine tk 12 28 HT_ HW_ hHeld ?_
   refine tk 14 30 HT_ HW_ hHeld ?_
   refine one_ (i := 15) (N := some 31) #[true, true, true, true, true, true, true, true, true, true, true, true, true, true, true, true, false, false, false, false, false, false, false, false, false, false, false, false, false, false, false, false, false] rfl rfl (one_of HT_.out (by kernel_rfl)) (by decide) (fun K hK => ?_)
   refine goes_ Tryd.func11 (by kernel_rfl) rfl #[.int .i64 t326, .int .i64 t327] (by rfl) rfl rfl ca ?_
   with_reducible refine (newsreelref17_Days.calls k t326 t327 t337 _ A17.out).mono ?_
   rintro e w' ⟨rfl, ⟨nd, rfl⟩⟩
   refine ⟨_, rfl, ?_⟩
   refine hK.out _ _ ⟨(blk_cell BK335.out 0).trans rfl, (blk_cell BK335.out 1).trans rfl, (blk_cell BK335.out 2).trans rfl, (blk_cell BK335.out 3).trans rfl, (blk_cell BK335.out 4).trans rfl, (blk_cell BK335.out 5).trans rfl, (blk_cell BK335.out 6).trans rfl, (blk_cell BK335.out 7).trans rfl, (blk_cell BK336.out 0).trans rfl, (blk_cell BK336.out 1).trans rfl, (blk_cell BK336.out 2).trans rfl, (blk_cell BK336.out 3).trans rfl, (blk_cell BK336.out 4).trans rfl, (blk_cell BK336.out 5).trans rfl⟩ (fun hHeld => ?_)
   clear hK K
   refine norm_ (a' := ?_) ?_ ?_
   rotate_left
   ·show Act.put _ (some 31) _ = _
    simp only [Act.put, sA, s0, sS, i64_w, i32_w]
    rfl
   refine pu 16 32 HT_ ?_
   refine pu 17 33 HT_ ?_
   refine pu 18 34 HT_ ?_
   refine pn 19 35 HT_ ?_
   refine pn 20 36 HT_ ?_
   refine pn 21 37 HT_ ?_
   refine pu 22 38 HT_ ?_
   refine pu 23 39 HT_ ?_
   refine pn 24 40 HT_ ?_
   refine pn 25 41 HT_ ?_
   refine pn 26 42 HT_ ?_
   refine pu 27 43 HT_ ?_
   refine pu 28 44 HT_ ?_
   refine pn 29 45 HT_ ?_
   refine pn 30 46 HT_ ?_
   refine pn 31 47 HT_ ?_
   refine pu 32 48 HT_ ?_
   refine done_ (done_of HT_.out (by kernel_rfl)) ?_
   try go_wp2_with (first | ((with_reducible refine gate_load (t := 52) rfl ?_); refine load_row3 (t := 52) (g := gb335) ?hg BK335.out ?ho ?hb Tryd.underlying52 rfl ?hs ?_; (case hg => rfl); (case ho => refine ⟨_, rfl, ?_⟩; first | (with_reducible rfl) | (go_simp; done)); (case hb => (with_reducible repeat (first | refine blk_drewN ?_ _ | refine blk_drew ?_ | refine blk_alloc ?_ _)); with_reducible exact BK335.out); (case hs => kernel_rfl)) | ((with_reducible refine gate_load (t := 50) rfl ?_); refine load_row3 (t := 50) (g := gb336) ?hg BK336.out ?ho ?hb Tryd.underlying50 rfl ?hs ?_; (case hg => rfl); (case ho => refine ⟨_, rfl, ?_⟩; first | (with_reducible rfl) | (go_simp; done)); (case hb => (with_reducible repeat (first | refine blk_drewN ?_ _ | refine blk_drew ?_ | refine blk_alloc ?_ _)); with_reducible exact BK336.out); (case hs => kernel_rfl)))
   go_meet
   case rel => exact ⟨_, (true), (by first | rfl | (simp; done) | (simp [*]; done)), H', ⟨by first | omega | exact Nat.le_refl _⟩, ⟨by (with_reducible repeat (first | refine blk_drewN ?_ _ | refine blk_drew ?_ | refine blk_alloc ?_ _)); exact BK335.out⟩, ⟨by (with_reducible repeat (first | refine blk_drewN ?_ _ | refine blk_drew ?_ | refine blk_alloc ?_ _)); exact BK336.out⟩, ⟨by repeat (first | (with_reducible first | exact HB.out | apply below_alloc | apply pw_below_drewN | apply below_drew1 | refine below_set ?_ GE335.out | refine below_set ?_ GE336.out) | exact HB.out)⟩⟩
 rw [if_neg c18] at H
 have c18b0 : decide (t337 < t328) = false := decide_eq_false c18
 clear c18
 by_cases c20 : t329 > 23
 ·rw [if_pos c20] at H
  have c20b0 : decide (23 < t329) = true := decide_eq_true c20
  clear c20
  have H' := mkA H
  clear H
  as_aux_lemma =>
   try go_wp2_with (first | ((with_reducible refine gate_load (t := 52) rfl ?_); refine load_row3 (t := 52) (g := gb335) ?hg BK335.out ?ho ?hb Tryd.underlying52 rfl ?hs ?_; (case hg => rfl); (case ho => refine ⟨_, rfl, ?_⟩; first | (with_reducible rfl) | (go_simp; done)); (case hb => (with_reducible repeat (first | refine blk_drewN ?_ _ | refine blk_drew ?_ | refine blk_alloc ?_ _)); with_reducible exact BK335.out); (case hs => kernel_rfl)) | ((with_reducible refine gate_load (t := 50) rfl ?_); refine load_row3 (t := 50) (g := gb336) ?hg BK336.out ?ho ?hb Tryd.underlying50 rfl ?hs ?_; (case hg => rfl); (case ho => refine ⟨_, rfl, ?_⟩; first | (with_reducible rfl) | (go_simp; done)); (case hb => (with_reducible repeat (first | refine blk_drewN ?_ _ | refine blk_drew ?_ | refine blk_alloc ?_ _)); with_reducible exact BK336.out); (case hs => kernel_rfl)))
   have n0_ := mkA (blk_drew BK335.out)
   have n1_ := mkA (blk_drew BK336.out)
   try (have HBd_ := mkA (below_drew1 (pw_below_drewN HB.out nd)))
   have n2_ := mkA (below_drew1 HB.out)
   clear BK335 BK336 HB
   have BK335 := n0_
   have BK336 := n1_
   have HB := n2_
   clear n0_ n1_ n2_
   refine start_ (n := 33) (S := fun w' => w'.cell? ⟨gb335, 0, none⟩ = some (.int .i64 t326) ∧ w'.cell? ⟨gb335, 1, none⟩ = some (.int .i64 t327) ∧ w'.cell? ⟨gb335, 2, none⟩ = some (.int .i64 t328) ∧ w'.cell? ⟨gb335, 3, none⟩ = some (.int .i64 t329) ∧ w'.cell? ⟨gb335, 4, none⟩ = some (.int .i64 t330) ∧ w'.cell? ⟨gb335, 5, none⟩ = some (.int .i64 t331) ∧ w'.cell? ⟨gb335, 6, none⟩ = some (.int .i64 t332) ∧ w'.cell? ⟨gb335, 7, none⟩ = some (.bool true) ∧ w'.cell? ⟨gb336, 0, none⟩ = some (.int .i64 t326) ∧ w'.cell? ⟨gb336, 1, none⟩ = some (.int .i64 t327) ∧ w'.cell? ⟨gb336, 2, none⟩ = some (.int .i64 t328) ∧ w'.cell? ⟨gb336, 3, none⟩ = some (.int .i64 t329) ∧ w'.cell? ⟨gb336, 4, none⟩ = some (.int .i64 t330) ∧ w'.cell? ⟨gb336, 5, none⟩ = some (.int .i64 t331)) (ds := []) #[false, false, false, false, false, false, false, false, false, false, false, false, false, false, false, false, false, false, false, false, false, false, false, false, false, false, false, false, false, false, false, false, false] (by kernel_rfl) rfl rfl ⟨(blk_cell BK335.out 0).trans rfl, (blk_cell BK335.out 1).trans rfl, (blk_cell BK335.out 2).trans rfl, (blk_cell BK335.out 3).trans rfl, (blk_cell BK335.out 4).trans rfl, (blk_cell BK335.out 5).trans rfl, (blk_cell BK335.out 6).trans rfl, (blk_cell BK335.out 7).trans rfl, (blk_cell BK336.out 0).trans rfl, (blk_cell BK336.out 1).trans rfl, (blk_cell BK336.out 2).trans rfl, (blk_cell BK336.out 3).trans rfl, (blk_cell BK336.out 4).trans rfl, (blk_cell BK336.out 5).trans rfl⟩ (fun hHeld => ?_); refine with_tabW newsreelref17_Get.tab5 newsreelref17_Get.bits5 (fun HT_ HW_ => ?_)
   generalize w13.drew = w21 at BK335 BK336 HB hHeld ⊢
   refine pu 0 16 HT_ ?_
   refine tk 1 17 HT_ HW_ hHeld ?_
   refine pu 2 18 HT_ ?_
   refine pu 3 19 HT_ ?_
   refine pu 4 20 HT_ ?_
   refine tk 5 21 HT_ HW_ hHeld ?_
   refine pu 6 22 HT_ ?_
   refine pu 7 23 HT_ ?_
   refine pu 8 24 HT_ ?_
   refine pu 9 25 HT_ ?_
   refine pu 11 27 HT_ ?_
   refine pu 13 29 HT_ ?_
   refine tk 10 26 HT_ HW_ hHeld ?_
   refine tk 12 28 HT_ HW_ hHeld ?_
   refine tk 14 30 HT_ HW_ hHeld ?_
   refine one_ (i := 15) (N := some 31) #[true, true, true, true, true, true, true, true, true, true, true, true, true, true, true, true, false, false, false, false, false, false, false, false, false, false, false, false, false, false, false, false, false] rfl rfl (one_of HT_.out (by kernel_rfl)) (by decide) (fun K hK => ?_)
   refine goes_ Tryd.func11 (by kernel_rfl) rfl #[.int .i64 t326, .int .i64 t327] (by rfl) rfl rfl ca ?_
   with_reducible refine (newsreelref17_Days.calls k t326 t327 t337 _ A17.out).mono ?_
   rintro e w' ⟨rfl, ⟨nd, rfl⟩⟩
   refine ⟨_, rfl, ?_⟩
   refine hK.out _ _ ⟨(blk_cell BK335.out 0).trans rfl, (blk_cell BK335.out 1).trans rfl, (blk_cell BK335.out 2).trans rfl, (blk_cell BK335.out 3).trans rfl, (blk_cell BK335.out 4).trans rfl, (blk_cell BK335.out 5).trans rfl, (blk_cell BK335.out 6).trans rfl, (blk_cell BK335.out 7).trans rfl, (blk_cell BK336.out 0).trans rfl, (blk_cell BK336.out 1).trans rfl, (blk_cell BK336.out 2).trans rfl, (blk_cell BK336.out 3).trans rfl, (blk_cell BK336.out 4).trans rfl, (blk_cell BK336.out 5).trans rfl⟩ (fun hHeld => ?_)
   clear hK K
   refine norm_ (a' := ?_) ?_ ?_
   rotate_left
   ·show Act.put _ (some 31) _ = _
    simp only [Act.put, sA, s0, sS, i64_w, i32_w]
    rfl
   refine pu 16 32 HT_ ?_
   refine pu 17 33 HT_ ?_
   refine pu 18 34 HT_ ?_
   refine pu 19 35 HT_ ?_
   refine tk 20 36 HT_ HW_ hHeld ?_
   refine pu 21 37 HT_ ?_
   refine pu 22 38 HT_ ?_
   refine pu 23 39 HT_ ?_
   refine pn 24 40 HT_ ?_
   refine pn 25 41 HT_ ?_
   refine pn 26 42 HT_ ?_
   refine pu 27 43 HT_ ?_
   refine pu 28 44 HT_ ?_
   refine pn 29 45 HT_ ?_
   refine pn 30 46 HT_ ?_
   refine pn 31 47 HT_ ?_
   refine pu 32 48 HT_ ?_
   refine done_ (done_of HT_.out (by kernel_rfl)) ?_
   try go_wp2_with (first | ((with_reducible refine gate_load (t := 52) rfl ?_); refine load_row3 (t := 52) (g := gb335) ?hg BK335.out ?ho ?hb Tryd.underlying52 rfl ?hs ?_; (case hg => rfl); (case ho => refine ⟨_, rfl, ?_⟩; first | (with_reducible rfl) | (go_simp; done)); (case hb => (with_reducible repeat (first | refine blk_drewN ?_ _ | refine blk_drew ?_ | refine blk_alloc ?_ _)); with_reducible exact BK335.out); (case hs => kernel_rfl)) | ((with_reducible refine gate_load (t := 50) rfl ?_); refine load_row3 (t := 50) (g := gb336) ?hg BK336.out ?ho ?hb Tryd.underlying50 rfl ?hs ?_; (case hg => rfl); (case ho => refine ⟨_, rfl, ?_⟩; first | (with_reducible rfl) | (go_simp; done)); (case hb => (with_reducible repeat (first | refine blk_drewN ?_ _ | refine blk_drew ?_ | refine blk_alloc ?_ _)); with_reducible exact BK336.out); (case hs => kernel_rfl)))
   go_meet
   case rel => exact ⟨_, (true), (by first | rfl | (simp; done) | (simp [*]; done)), H', ⟨by first | omega | exact Nat.le_refl _⟩, ⟨by (with_reducible repeat (first | refine blk_drewN ?_ _ | refine blk_drew ?_ | refine blk_alloc ?_ _)); exact BK335.out⟩, ⟨by (with_reducible repeat (first | refine blk_drewN ?_ _ | refine blk_drew ?_ | refine blk_alloc ?_ _)); exact BK336.out⟩, ⟨by repeat (first | (with_reducible first | exact HB.out | apply below_alloc | apply pw_below_drewN | apply below_drew1 | refine below_set ?_ GE335.out | refine below_set ?_ GE336.out) | exact HB.out)⟩⟩
 rw [if_neg c20] at H
 have c20b0 : decide (23 < t329) = false := decide_eq_false c20
 clear c20
 by_cases c22 : t330 > 59
 ·rw [if_pos c22] at H
  have c22b0 : decide (59 < t330) = true := decide_eq_true c22
  clear c22
  have H' := mkA H
  clear H
  as_aux_lemma =>
   try go_wp2_with (first | ((with_reducible refine gate_load (t := 52) rfl ?_); refine load_row3 (t := 52) (g := gb335) ?hg BK335.out ?ho ?hb Tryd.underlying52 rfl ?hs ?_; (case hg => rfl); (case ho => refine ⟨_, rfl, ?_⟩; first | (with_reducible rfl) | (go_simp; done)); (case hb => (with_reducible repeat (first | refine blk_drewN ?_ _ | refine blk_drew ?_ | refine blk_alloc ?_ _)); with_reducible exact BK335.out); (case hs => kernel_rfl)) | ((with_reducible refine gate_load (t := 50) rfl ?_); refine load_row3 (t := 50) (g := gb336) ?hg BK336.out ?ho ?hb Tryd.underlying50 rfl ?hs ?_; (case hg => rfl); (case ho => refine ⟨_, rfl, ?_⟩; first | (with_reducible rfl) | (go_simp; done)); (case hb => (with_reducible repeat (first | refine blk_drewN ?_ _ | refine blk_drew ?_ | refine blk_alloc ?_ _)); with_reducible exact BK336.out); (case hs => kernel_rfl)))
   have n0_ := mkA (blk_drew BK335.out)
   have n1_ := mkA (blk_drew BK336.out)
   try (have HBd_ := mkA (below_drew1 (pw_below_drewN HB.out nd)))
   have n2_ := mkA (below_drew1 HB.out)
   clear BK335 BK336 HB
   have BK335 := n0_
   have BK336 := n1_
   have HB := n2_
   clear n0_ n1_ n2_
   refine start_ (n := 33) (S := fun w' => w'.cell? ⟨gb335, 0, none⟩ = some (.int .i64 t326) ∧ w'.cell? ⟨gb335, 1, none⟩ = some (.int .i64 t327) ∧ w'.cell? ⟨gb335, 2, none⟩ = some (.int .i64 t328) ∧ w'.cell? ⟨gb335, 3, none⟩ = some (.int .i64 t329) ∧ w'.cell? ⟨gb335, 4, none⟩ = some (.int .i64 t330) ∧ w'.cell? ⟨gb335, 5, none⟩ = some (.int .i64 t331) ∧ w'.cell? ⟨gb335, 6, none⟩ = some (.int .i64 t332) ∧ w'.cell? ⟨gb335, 7, none⟩ = some (.bool true) ∧ w'.cell? ⟨gb336, 0, none⟩ = some (.int .i64 t326) ∧ w'.cell? ⟨gb336, 1, none⟩ = some (.int .i64 t327) ∧ w'.cell? ⟨gb336, 2, none⟩ = some (.int .i64 t328) ∧ w'.cell? ⟨gb336, 3, none⟩ = some (.int .i64 t329) ∧ w'.cell? ⟨gb336, 4, none⟩ = some (.int .i64 t330) ∧ w'.cell? ⟨gb336, 5, none⟩ = some (.int .i64 t331)) (ds := []) #[false, false, false, false, false, false, false, false, false, false, false, false, false, false, false, false, false, false, false, false, false, false, false, false, false, false, false, false, false, false, false, false, false] (by kernel_rfl) rfl rfl ⟨(blk_cell BK335.out 0).trans rfl, (blk_cell BK335.out 1).trans rfl, (blk_cell BK335.out 2).trans rfl, (blk_cell BK335.out 3).trans rfl, (blk_cell BK335.out 4).trans rfl, (blk_cell BK335.out 5).trans rfl, (blk_cell BK335.out 6).trans rfl, (blk_cell BK335.out 7).trans rfl, (blk_cell BK336.out 0).trans rfl, (blk_cell BK336.out 1).trans rfl, (blk_cell BK336.out 2).trans rfl, (blk_cell BK336.out 3).trans rfl, (blk_cell BK336.out 4).trans rfl, (blk_cell BK336.out 5).trans rfl⟩ (fun hHeld => ?_); refine with_tabW newsreelref17_Get.tab5 newsreelref17_Get.bits5 (fun HT_ HW_ => ?_)
   generalize w13.drew = w23 at BK335 BK336 HB hHeld ⊢
   refine pu 0 16 HT_ ?_
   refine tk 1 17 HT_ HW_ hHeld ?_
   refine pu 2 18 HT_ ?_
   refine pu 3 19 HT_ ?_
   refine pu 4 20 HT_ ?_
   refine tk 5 21 HT_ HW_ hHeld ?_
   refine pu 6 22 HT_ ?_
   refine pu 7 23 HT_ ?_
   refine pu 8 24 HT_ ?_
   refine pu 9 25 HT_ ?_
   refine pu 11 27 HT_ ?_
   refine pu 13 29 HT_ ?_
   refine tk 10 26 HT_ HW_ hHeld ?_
   refine tk 12 28 HT_ HW_ hHeld ?_
   refine tk 14 30 HT_ HW_ hHeld ?_
   refine one_ (i := 15) (N := some 31) #[true, true, true, true, true, true, true, true, true, true, true, true, true, true, true, true, false, false, false, false, false, false, false, false, false, false, false, false, false, false, false, false, false] rfl rfl (one_of HT_.out (by kernel_rfl)) (by decide) (fun K hK => ?_)
   refine goes_ Tryd.func11 (by kernel_rfl) rfl #[.int .i64 t326, .int .i64 t327] (by rfl) rfl rfl ca ?_
   with_reducible refine (newsreelref17_Days.calls k t326 t327 t337 _ A17.out).mono ?_
   rintro e w' ⟨rfl, ⟨nd, rfl⟩⟩
   refine ⟨_, rfl, ?_⟩
   refine hK.out _ _ ⟨(blk_cell BK335.out 0).trans rfl, (blk_cell BK335.out 1).trans rfl, (blk_cell BK335.out 2).trans rfl, (blk_cell BK335.out 3).trans rfl, (blk_cell BK335.out 4).trans rfl, (blk_cell BK335.out 5).trans rfl, (blk_cell BK335.out 6).trans rfl, (blk_cell BK335.out 7).trans rfl, (blk_cell BK336.out 0).trans rfl, (blk_cell BK336.out 1).trans rfl, (blk_cell BK336.out 2).trans rfl, (blk_cell BK336.out 3).trans rfl, (blk_cell BK336.out 4).trans rfl, (blk_cell BK336.out 5).trans rfl⟩ (fun hHeld => ?_)
   clear hK K
   refine norm_ (a' := ?_) ?_ ?_
   rotate_left
   ·show Act.put _ (some 31) _ = _
    simp only [Act.put, sA, s0, sS, i64_w, i32_w]
    rfl
   refine pu 16 32 HT_ ?_
   refine pu 17 33 HT_ ?_
   refine pu 18 34 HT_ ?_
   refine pu 19 35 HT_ ?_
   refine tk 20 36 HT_ HW_ hHeld ?_
   refine pu 21 37 HT_ ?_
   refine pu 22 38 HT_ ?_
   refine pu 23 39 HT_ ?_
   refine pu 24 40 HT_ ?_
   refine tk 25 41 HT_ HW_ hHeld ?_
   refine pu 26 42 HT_ ?_
   refine pu 27 43 HT_ ?_
   refine pu 28 44 HT_ ?_
   refine pn 29 45 HT_ ?_
   refine pn 30 46 HT_ ?_
   refine pn 31 47 HT_ ?_
   refine pu 32 48 HT_ ?_
   refine done_ (done_of HT_.out (by kernel_rfl)) ?_
   try go_wp2_with (first | ((with_reducible refine gate_load (t := 52) rfl ?_); refine load_row3 (t := 52) (g := gb335) ?hg BK335.out ?ho ?hb Tryd.underlying52 rfl ?hs ?_; (case hg => rfl); (case ho => refine ⟨_, rfl, ?_⟩; first | (with_reducible rfl) | (go_simp; done)); (case hb => (with_reducible repeat (first | refine blk_drewN ?_ _ | refine blk_drew ?_ | refine blk_alloc ?_ _)); with_reducible exact BK335.out); (case hs => kernel_rfl)) | ((with_reducible refine gate_load (t := 50) rfl ?_); refine load_row3 (t := 50) (g := gb336) ?hg BK336.out ?ho ?hb Tryd.underlying50 rfl ?hs ?_; (case hg => rfl); (case ho => refine ⟨_, rfl, ?_⟩; first | (with_reducible rfl) | (go_simp; done)); (case hb => (with_reducible repeat (first | refine blk_drewN ?_ _ | refine blk_drew ?_ | refine blk_alloc ?_ _)); with_reducible exact BK336.out); (case hs => kernel_rfl)))
   go_meet
   case rel => exact ⟨_, (true), (by first | rfl | (simp; done) | (simp [*]; done)), H', ⟨by first | omega | exact Nat.le_refl _⟩, ⟨by (with_reducible repeat (first | refine blk_drewN ?_ _ | refine blk_drew ?_ | refine blk_alloc ?_ _)); exact BK335.out⟩, ⟨by (with_reducible repeat (first | refine blk_drewN ?_ _ | refine blk_drew ?_ | refine blk_alloc ?_ _)); exact BK336.out⟩, ⟨by repeat (first | (with_reducible first | exact HB.out | apply below_alloc | apply pw_below_drewN | apply below_drew1 | refine below_set ?_ GE335.out | refine below_set ?_ GE336.out) | exact HB.out)⟩⟩
 rw [if_neg c22] at H
 have c22b0 : decide (59 < t330) = false := decide_eq_false c22
 clear c22
 have H' := mkA H
 clear H
 as_aux_lemma =>
  try go_wp2_with (first | ((with_reducible refine gate_load (t := 52) rfl ?_); refine load_row3 (t := 52) (g := gb335) ?hg BK335.out ?ho ?hb Tryd.underlying52 rfl ?hs ?_; (case hg => rfl); (case ho => refine ⟨_, rfl, ?_⟩; first | (with_reducible rfl) | (go_simp; done)); (case hb => (with_reducible repeat (first | refine blk_drewN ?_ _ | refine blk_drew ?_ | refine blk_alloc ?_ _)); with_reducible exact BK335.out); (case hs => kernel_rfl)) | ((with_reducible refine gate_load (t := 50) rfl ?_); refine load_row3 (t := 50) (g := gb336) ?hg BK336.out ?ho ?hb Tryd.underlying50 rfl ?hs ?_; (case hg => rfl); (case ho => refine ⟨_, rfl, ?_⟩; first | (with_reducible rfl) | (go_simp; done)); (case hb => (with_reducible repeat (first | refine blk_drewN ?_ _ | refine blk_drew ?_ | refine blk_alloc ?_ _)); with_reducible exact BK336.out); (case hs => kernel_rfl)))
  have n0_ := mkA (blk_drew BK335.out)
  have n1_ := mkA (blk_drew BK336.out)
  try (have HBd_ := mkA (below_drew1 (pw_below_drewN HB.out nd)))
  have n2_ := mkA (below_drew1 HB.out)
  clear BK335 BK336 HB
  have BK335 := n0_
  have BK336 := n1_
  have HB := n2_
  clear n0_ n1_ n2_
  refine start_ (n := 33) (S := fun w' => w'.cell? ⟨gb335, 0, none⟩ = some (.int .i64 t326) ∧ w'.cell? ⟨gb335, 1, none⟩ = some (.int .i64 t327) ∧ w'.cell? ⟨gb335, 2, none⟩ = some (.int .i64 t328) ∧ w'.cell? ⟨gb335, 3, none⟩ = some (.int .i64 t329) ∧ w'.cell? ⟨gb335, 4, none⟩ = some (.int .i64 t330) ∧ w'.cell? ⟨gb335, 5, none⟩ = some (.int .i64 t331) ∧ w'.cell? ⟨gb335, 6, none⟩ = some (.int .i64 t332) ∧ w'.cell? ⟨gb335, 7, none⟩ = some (.bool true) ∧ w'.cell? ⟨gb336, 0, none⟩ = some (.int .i64 t326) ∧ w'.cell? ⟨gb336, 1, none⟩ = some (.int .i64 t327) ∧ w'.cell? ⟨gb336, 2, none⟩ = some (.int .i64 t328) ∧ w'.cell? ⟨gb336, 3, none⟩ = some (.int .i64 t329) ∧ w'.cell? ⟨gb336, 4, none⟩ = some (.int .i64 t330) ∧ w'.cell? ⟨gb336, 5, none⟩ = some (.int .i64 t331)) (ds := []) #[false, false, false, false, false, false, false, false, false, false, false, false, false, false, false, false, false, false, false, false, false, false, false, false, false, false, false, false, false, false, false, false, false] (by kernel_rfl) rfl rfl ⟨(blk_cell BK335.out 0).trans rfl, (blk_cell BK335.out 1).trans rfl, (blk_cell BK335.out 2).trans rfl, (blk_cell BK335.out 3).trans rfl, (blk_cell BK335.out 4).trans rfl, (blk_cell BK335.out 5).trans rfl, (blk_cell BK335.out 6).trans rfl, (blk_cell BK335.out 7).trans rfl, (blk_cell BK336.out 0).trans rfl, (blk_cell BK336.out 1).trans rfl, (blk_cell BK336.out 2).trans rfl, (blk_cell BK336.out 3).trans rfl, (blk_cell BK336.out 4).trans rfl, (blk_cell BK336.out 5).trans rfl⟩ (fun hHeld => ?_); refine with_tabW newsreelref17_Get.tab5 newsreelref17_Get.bits5 (fun HT_ HW_ => ?_)
  generalize w13.drew = w24 at BK335 BK336 HB hHeld ⊢
  refine pu 0 16 HT_ ?_
  refine tk 1 17 HT_ HW_ hHeld ?_
  refine pu 2 18 HT_ ?_
  refine pu 3 19 HT_ ?_
  refine pu 4 20 HT_ ?_
  refine tk 5 21 HT_ HW_ hHeld ?_
  refine pu 6 22 HT_ ?_
  refine pu 7 23 HT_ ?_
  refine pu 8 24 HT_ ?_
  refine pu 9 25 HT_ ?_
  refine pu 11 27 HT_ ?_
  refine pu 13 29 HT_ ?_
  refine tk 10 26 HT_ HW_ hHeld ?_
  refine tk 12 28 HT_ HW_ hHeld ?_
  refine tk 14 30 HT_ HW_ hHeld ?_
  refine one_ (i := 15) (N := some 31) #[true, true, true, true, true, true, true, true, true, true, true, true, true, true, true, true, false, false, false, false, false, false, false, false, false, false, false, false, false, false, false, false, false] rfl rfl (one_of HT_.out (by kernel_rfl)) (by decide) (fun K hK => ?_)
  refine goes_ Tryd.func11 (by kernel_rfl) rfl #[.int .i64 t326, .int .i64 t327] (by rfl) rfl rfl ca ?_
  with_reducible refine (newsreelref17_Days.calls k t326 t327 t337 _ A17.out).mono ?_
  rintro e w' ⟨rfl, ⟨nd, rfl⟩⟩
  refine ⟨_, rfl, ?_⟩
  refine hK.out _ _ ⟨(blk_cell BK335.out 0).trans rfl, (blk_cell BK335.out 1).trans rfl, (blk_cell BK335.out 2).trans rfl, (blk_cell BK335.out 3).trans rfl, (blk_cell BK335.out 4).trans rfl, (blk_cell BK335.out 5).trans rfl, (blk_cell BK335.out 6).trans rfl, (blk_cell BK335.out 7).trans rfl, (blk_cell BK336.out 0).trans rfl, (blk_cell BK336.out 1).trans rfl, (blk_cell BK336.out 2).trans rfl, (blk_cell BK336.out 3).trans rfl, (blk_cell BK336.out 4).trans rfl, (blk_cell BK336.out 5).trans rfl⟩ (fun hHeld => ?_)
  clear hK K
  refine norm_ (a' := ?_) ?_ ?_
  rotate_left
  ·show Act.put _ (some 31) _ = _
   simp only [Act.put, sA, s0, sS, i64_w, i32_w]
   rfl
  refine pu 16 32 HT_ ?_
  refine pu 17 33 HT_ ?_
  refine pu 18 34 HT_ ?_
  refine pu 19 35 HT_ ?_
  refine tk 20 36 HT_ HW_ hHeld ?_
  refine pu 21 37 HT_ ?_
  refine pu 22 38 HT_ ?_
  refine pu 23 39 HT_ ?_
  refine pu 24 40 HT_ ?_
  refine tk 25 41 HT_ HW_ hHeld ?_
  refine pu 26 42 HT_ ?_
  refine pu 27 43 HT_ ?_
  refine pu 28 44 HT_ ?_
  refine pu 29 45 HT_ ?_
  refine tk 30 46 HT_ HW_ hHeld ?_
  refine pu 31 47 HT_ ?_
  refine pu 32 48 HT_ ?_
  refine done_ (done_of HT_.out (by kernel_rfl)) ?_
  try go_wp2_with (first | ((with_reducible refine gate_load (t := 52) rfl ?_); refine load_row3 (t := 52) (g := gb335) ?hg BK335.out ?ho ?hb Tryd.underlying52 rfl ?hs ?_; (case hg => rfl); (case ho => refine ⟨_, rfl, ?_⟩; first | (with_reducible rfl) | (go_simp; done)); (case hb => (with_reducible repeat (first | refine blk_drewN ?_ _ | refine blk_drew ?_ | refine blk_alloc ?_ _)); with_reducible exact BK335.out); (case hs => kernel_rfl)) | ((with_reducible refine gate_load (t := 50) rfl ?_); refine load_row3 (t := 50) (g := gb336) ?hg BK336.out ?ho ?hb Tryd.underlying50 rfl ?hs ?_; (case hg => rfl); (case ho => refine ⟨_, rfl, ?_⟩; first | (with_reducible rfl) | (go_simp; done)); (case hb => (with_reducible repeat (first | refine blk_drewN ?_ _ | refine blk_drew ?_ | refine blk_alloc ?_ _)); with_reducible exact BK336.out); (case hs => kernel_rfl)))
  go_meet
  case rel => exact ⟨_, (decide (t331 > 59)), (by first | rfl | (simp; done) | (simp [*]; done)), H', ⟨by first | omega | exact Nat.le_refl _⟩, ⟨by (with_reducible repeat (first | refine blk_drewN ?_ _ | refine blk_drew ?_ | refine blk_alloc ?_ _)); exact BK335.out⟩, ⟨by (with_reducible repeat (first | refine blk_drewN ?_ _ | refine blk_drew ?_ | refine blk_alloc ?_ _)); exact BK336.out⟩, ⟨by repeat (first | (with_reducible first | exact HB.out | apply below_alloc | apply pw_below_drewN | apply below_drew1 | refine below_set ?_ GE335.out | refine below_set ?_ GE336.out) | exact HB.out)⟩⟩

end Go.Proofs.YtghdkpcpgpfgcaaDoor.XStb
