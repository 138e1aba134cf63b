import Derived.Test.YtghdkpcpgpfgcaaDoorXStbM0a
import Derived.Test.YtghdkpcpgpfgcaaDoorXStbM0b
namespace Go.Proofs.YtghdkpcpgpfgcaaDoor.XStb
open Go.RowKit Go.Proofs.YtghdkpcpgpfgcaaDoorW.PrintWords Go.Proofs.YtghdkpcpgpfgcaaDoorW.PrintLast Go.Proofs.YtghdkpcpgpfgcaaDoorW.PrintMore
attribute [local go_sem] max2_int min2_int max_two min_two max_three min_three max_four min_four   -- for this text's walks alone
set_option linter.unusedVariables false
set_option linter.unusedSimpArgs false

/-! ### stamp_Put: function 8 -/
mutual
def stamp_Put.j0 : Nat → Int → Bool → Option (ByteArray × Int)
 | 0, _, _ => none
 | k + 1, x0, x14 => if x14 = true then (some ((⟨#[]⟩ : ByteArray), 3)) else (stamp_Put.l0 k (wrap64 (Int.tdiv x0 86400)) (Int.tmod x0 86400) (wrap64 (1 + (wrap64 (Int.tdiv x0 86400)))) 1 1970)
def stamp_Put.l0 : Nat → Int → Int → Int → Int → Int → Option (ByteArray × Int)
 | 0, _, _, _, _, _ => none
 | k + 1, x4, x5, x215000, x215001, x215002 => (stamp_Days.f x215002 x215001).bind fun t215 => (if x215000 > t215 then ((stamp_Days.f x215002 x215001).bind fun t216 => (if (wrap64 (x215001 + 1)) > 12 then (stamp_Put.l0 k x4 x5 (wrap64 (x215000 - t216)) 1 (wrap64 (x215002 + 1))) else (stamp_Put.l0 k x4 x5 (wrap64 (x215000 - t216)) (wrap64 (x215001 + 1)) x215002))) else ((stamp_name.f (⟨#[116, 104, 117, 32, 102, 114, 105, 32, 115, 97, 116, 32, 115, 117, 110, 32, 109, 111, 110, 32, 116, 117, 101, 32, 119, 101, 100, 32]⟩ : ByteArray) (Int.tmod x4 7)).bind fun t217 => (if t217.size + 2 ≤ 9223372036854775807 then ((stamp_two.f x215000).bind fun t218 => (if (t217 ++ (⟨#[44, 32]⟩ : ByteArray)).size + t218.size ≤ 9223372036854775807 then (if ((t217 ++ (⟨#[44, 32]⟩ : ByteArray)) ++ t218).size + 1 ≤ 9223372036854775807 then ((stamp_name.f (⟨#[106, 97, 110, 32, 102, 101, 98, 32, 109, 97, 114, 32, 97, 112, 114, 32, 109, 97, 121, 32, 106, 117, 110, 32, 106, 117, 108, 32, 97, 117, 103, 32, 115, 101, 112, 32, 111, 99, 116, 32, 110, 111, 118, 32, 100, 101, 99, 32]⟩ : ByteArray) (wrap64 (x215001 - 1))).bind fun t219 => (if (((t217 ++ (⟨#[44, 32]⟩ : ByteArray)) ++ t218) ++ (⟨#[32]⟩ : ByteArray)).size + t219.size ≤ 9223372036854775807 then (if ((((t217 ++ (⟨#[44, 32]⟩ : ByteArray)) ++ t218) ++ (⟨#[32]⟩ : ByteArray)) ++ t219).size + 1 ≤ 9223372036854775807 then ((num_Put.f x215002).bind fun t220 => (if (((((t217 ++ (⟨#[44, 32]⟩ : ByteArray)) ++ t218) ++ (⟨#[32]⟩ : ByteArray)) ++ t219) ++ (⟨#[32]⟩ : ByteArray)).size + t220.size ≤ 9223372036854775807 then (if ((((((t217 ++ (⟨#[44, 32]⟩ : ByteArray)) ++ t218) ++ (⟨#[32]⟩ : ByteArray)) ++ t219) ++ (⟨#[32]⟩ : ByteArray)) ++ t220).size + 1 ≤ 9223372036854775807 then ((stamp_two.f (wrap64 (Int.tdiv x5 3600))).bind fun t221 => (if (((((((t217 ++ (⟨#[44, 32]⟩ : ByteArray)) ++ t218) ++ (⟨#[32]⟩ : ByteArray)) ++ t219) ++ (⟨#[32]⟩ : ByteArray)) ++ t220) ++ (⟨#[32]⟩ : ByteArray)).size + t221.size ≤ 9223372036854775807 then (if ((((((((t217 ++ (⟨#[44, 32]⟩ : ByteArray)) ++ t218) ++ (⟨#[32]⟩ : ByteArray)) ++ t219) ++ (⟨#[32]⟩ : ByteArray)) ++ t220) ++ (⟨#[32]⟩ : ByteArray)) ++ t221).size + 1 ≤ 9223372036854775807 then ((stamp_two.f (Int.tmod (wrap64 (Int.tdiv x5 60)) 60)).bind fun t222 => (if (((((((((t217 ++ (⟨#[44, 32]⟩ : ByteArray)) ++ t218) ++ (⟨#[32]⟩ : ByteArray)) ++ t219) ++ (⟨#[32]⟩ : ByteArray)) ++ t220) ++ (⟨#[32]⟩ : ByteArray)) ++ t221) ++ (⟨#[58]⟩ : ByteArray)).size + t222.size ≤ 9223372036854775807 then (if ((((((((((t217 ++ (⟨#[44, 32]⟩ : ByteArray)) ++ t218) ++ (⟨#[32]⟩ : ByteArray)) ++ t219) ++ (⟨#[32]⟩ : ByteArray)) ++ t220) ++ (⟨#[32]⟩ : ByteArray)) ++ t221) ++ (⟨#[58]⟩ : ByteArray)) ++ t222).size + 1 ≤ 9223372036854775807 then ((stamp_two.f (Int.tmod x5 60)).bind fun t223 => (if (((((((((((t217 ++ (⟨#[44, 32]⟩ : ByteArray)) ++ t218) ++ (⟨#[32]⟩ : ByteArray)) ++ t219) ++ (⟨#[32]⟩ : ByteArray)) ++ t220) ++ (⟨#[32]⟩ : ByteArray)) ++ t221) ++ (⟨#[58]⟩ : ByteArray)) ++ t222) ++ (⟨#[58]⟩ : ByteArray)).size + t223.size ≤ 9223372036854775807 then (if ((((((((((((t217 ++ (⟨#[44, 32]⟩ : ByteArray)) ++ t218) ++ (⟨#[32]⟩ : ByteArray)) ++ t219) ++ (⟨#[32]⟩ : ByteArray)) ++ t220) ++ (⟨#[32]⟩ : ByteArray)) ++ t221) ++ (⟨#[58]⟩ : ByteArray)) ++ t222) ++ (⟨#[58]⟩ : ByteArray)) ++ t223).size + 4 ≤ 9223372036854775807 then (some (((((((((((((t217 ++ (⟨#[44, 32]⟩ : ByteArray)) ++ t218) ++ (⟨#[32]⟩ : ByteArray)) ++ t219) ++ (⟨#[32]⟩ : ByteArray)) ++ t220) ++ (⟨#[32]⟩ : ByteArray)) ++ t221) ++ (⟨#[58]⟩ : ByteArray)) ++ t222) ++ (⟨#[58]⟩ : ByteArray)) ++ t223) ++ (⟨#[32, 71, 77, 84]⟩ : ByteArray), 0)) else (none)) else (none))) else (none)) else (none))) else (none)) else (none))) else (none)) else (none))) else (none)) else (none))) else (none)) else (none))) else (none))))
end
def stamp_Put.f (k : Nat) (a0 : Int) : Option (ByteArray × Int) := if a0 < 0 then (stamp_Put.j0 k a0 true) else ((stamp_before.f k 2200 1).bind fun t213 => (stamp_Put.j0 k a0 (decide (a0 ≥ (wrap64 (86400 * t213))))))
theorem stamp_Put.mono_l : ∀ k, (∀ y0 y1, LeO (stamp_Put.j0 k y0 y1) (stamp_Put.j0 (k + 1) y0 y1)) ∧ (∀ y0 y1 y2 y3 y4, LeO (stamp_Put.l0 k y0 y1 y2 y3 y4) (stamp_Put.l0 (k + 1) y0 y1 y2 y3 y4))
 | 0 => ⟨fun _ _ r h => by simp [stamp_Put.j0] at h, fun _ _ _ _ _ r h => by simp [stamp_Put.l0] at h⟩
 | k + 1 => by
  obtain ⟨ih0, ih1⟩ := stamp_Put.mono_l k
  refine ⟨?_, ?_⟩
  ·intro y0 y1
   unfold stamp_Put.j0
   repeat' first
   | (with_reducible exact ih0 _ _)
   | (with_reducible exact ih1 _ _ _ _ _)
   | (with_reducible exact stamp_before.mono _ _ _)
   | (with_reducible exact LeO.refl _)
   | (with_reducible exact LeO.none _)
   | (with_reducible refine LeO.ite ?_ ?_)
   | (with_reducible refine LeO.bind ?_ (fun _ => ?_))
   | exact ih0 _ _
   | exact ih1 _ _ _ _ _
   | exact stamp_before.mono _ _ _
   | exact LeO.none _
   | refine LeO.ite ?_ ?_
   | refine LeO.bind ?_ (fun _ => ?_)
  ·intro y0 y1 y2 y3 y4
   unfold stamp_Put.l0
   repeat' first
   | (with_reducible exact ih0 _ _)
   | (with_reducible exact ih1 _ _ _ _ _)
   | (with_reducible exact stamp_before.mono _ _ _)
   | (with_reducible exact LeO.refl _)
   | (with_reducible exact LeO.none _)
   | (with_reducible refine LeO.ite ?_ ?_)
   | (with_reducible refine LeO.bind ?_ (fun _ => ?_))
   | exact ih0 _ _
   | exact ih1 _ _ _ _ _
   | exact stamp_before.mono _ _ _
   | exact LeO.none _
   | refine LeO.ite ?_ ?_
   | refine LeO.bind ?_ (fun _ => ?_)
theorem stamp_Put.mono : ∀ a0 k, LeO (stamp_Put.f k a0) (stamp_Put.f (k + 1) a0) := by
 intro a0 k
 obtain ⟨ih0, ih1⟩ := stamp_Put.mono_l k
 unfold stamp_Put.f
 repeat' first
   | (with_reducible exact ih0 _ _)
   | (with_reducible exact ih1 _ _ _ _ _)
   | (with_reducible exact stamp_before.mono _ _ _)
   | (with_reducible exact LeO.refl _)
   | (with_reducible exact LeO.none _)
   | (with_reducible refine LeO.ite ?_ ?_)
   | (with_reducible refine LeO.bind ?_ (fun _ => ?_))
   | exact ih0 _ _
   | exact ih1 _ _ _ _ _
   | exact stamp_before.mono _ _ _
   | exact LeO.none _
   | refine LeO.ite ?_ ?_
   | refine LeO.bind ?_ (fun _ => ?_)
def stamp_Put.T5 : Bool × List (List Nat × List Nat) := (true, [([], []), ([0], [0]), ([], []), ([2], [2]), ([], []), ([4], [4]), ([3, 5], [3, 5]), ([1, 6], [1, 6])])
def stamp_Put.B5 : List Nat := [0, 1, 0, 4, 0, 16, 60, 127]
theorem stamp_Put.tab5 : rtab .any (opsOf Tryd.f8 5) = stamp_Put.T5 := by kernel_rfl
theorem stamp_Put.bits5 : waitsOk stamp_Put.T5.2 stamp_Put.B5 = true := by kernel_rfl
def stamp_Put.T6 : Bool × List (List Nat × List Nat) := (true, [([], []), ([0], [0]), ([], []), ([2], [2]), ([], []), ([4], [4]), ([3, 5], [3, 5]), ([1, 6], [1, 6]), ([0, 1, 2, 3, 4, 5, 6, 7], []), ([8, 7, 6, 0, 1, 2, 3, 4, 5, 6, 7], [7, 8])])
def stamp_Put.B6 : List Nat := [0, 1, 0, 4, 0, 16, 60, 127, 255, 511]
theorem stamp_Put.tab6 : rtab .any (opsOf Tryd.f8 6) = stamp_Put.T6 := by kernel_rfl
theorem stamp_Put.bits6 : waitsOk stamp_Put.T6.2 stamp_Put.B6 = true := by kernel_rfl
def stamp_Put.T10 : Bool × List (List Nat × List Nat) := (true, [([], []), ([0], [0]), ([1], [1]), ([2], [2]), ([], []), ([4], [4]), ([5, 2], [5]), ([3, 6], [3, 6]), ([7], [7]), ([], []), ([9], [9]), ([10], [10]), ([11, 6], [11]), ([8, 12], [8, 12]), ([13], [13]), ([], []), ([15], [15]), ([16, 12], [16]), ([14, 17], [14, 17]), ([18], [18]), ([], []), ([20], [20]), ([21, 17], [21]), ([19, 22], [19, 22]), ([23], [23]), ([], []), ([25], [25]), ([26], [26]), ([27, 22], [27]), ([24, 28], [24, 28]), ([29], [29]), ([], []), ([31], [31]), ([32, 28], [32]), ([30, 33], [30, 33]), ([34], [34]), ([35, 33, 0, 1, 2, 3, 4, 5, 6, 7, 8, 9, 10, 11, 12, 13, 14, 15, 16, 17, 18, 19, 20, 21, 22, 23, 24, 25, 26, 27, 28, 29, 30, 31, 32, 33, 34, 35], [35]), ([36, 0, 1, 2, 3, 4, 5, 6, 7, 8, 9, 10, 11, 12, 13, 14, 15, 16, 17, 18, 19, 20, 21, 22, 23, 24, 25, 26, 27, 28, 29, 30, 31, 32, 33, 34, 35, 36], [])])
def stamp_Put.B10 : List Nat := [0, 1, 3, 7, 0, 16, 55, 127, 255, 0, 512, 1536, 3703, 8191, 16383, 0, 32768, 106103, 262143, 524287, 0, 1048576, 3382903, 8388607, 16777215, 0, 33554432, 100663296, 242458231, 536870911, 1073741823, 0, 2147483648, 6953344631, 17179869183, 34359738367, 68719476735, 137438953471]
theorem stamp_Put.tab10 : rtab .any (opsOf Tryd.f8 10) = stamp_Put.T10 := by kernel_rfl
theorem stamp_Put.bits10 : waitsOk stamp_Put.T10.2 stamp_Put.B10 = true := by kernel_rfl
set_option maxHeartbeats 8000000 in
set_option maxRecDepth 100000 in
theorem stamp_Put.calls (k : Nat) (a0 : Int) (r1 : ByteArray) (r2 : Int) (w : World) (h : stamp_Put.f k a0 = some (r1, r2)) :
  Calls Tryd.prog 8 #[.int .i64 a0] w fun e w' => e = .returned (.tuple #[.string r1, .int .i64 r2]) ∧ Below w.heap.size w w' := by
 have hu41 := Tryd.underlying41
 have HB := mkA (Below.refl w.heap.size w)
 have H : (if a0 < 0 then (stamp_Put.j0 k a0 true) else ((stamp_before.f k 2200 1).bind fun t213 => (stamp_Put.j0 k a0 (decide (a0 ≥ (wrap64 (86400 * t213))))))) = some (r1, r2) := h
 clear h
 have HC2 := mkA H
 clear H
 go_enter Tryd.func8, Tryd.ntmps8
 go_upto_region 1 with (fail)
 go_cut [14] (fun v14 wc => ∃ (kq : Nat) (x14_1 : Bool), v14 = .bool x14_1 ∧ Aside0 (stamp_Put.j0 kq a0 x14_1 = some (r1, r2)) ∧ Aside0 (kq ≤ k) ∧ Aside0 (Below w.heap.size w wc))
 case first =>
  have H := HC2.out
  clear HC2
  by_cases c3 : a0 < 0
  ·rw [if_pos c3] at H
   have c3b0 : decide (a0 < 0) = true := decide_eq_true c3
   clear c3
   (first | rw [c3b0] | (simp only [i64_w, i32_w]; rw [c3b0]) | skip)
   as_aux_lemma =>
    have H' := mkA H
    clear H
    go_wp2
    go_meet
    case rel => exact ⟨_, (true), (by first | rfl | (simp; done) | (simp [*]; done)), H', ⟨by first | omega | exact Nat.le_refl _⟩, ⟨below_y HB.out⟩⟩
  ·rw [if_neg c3] at H
   have c3b0 : decide (a0 < 0) = false := decide_eq_false c3
   clear c3
   (first | rw [c3b0] | (simp only [i64_w, i32_w]; rw [c3b0]) | skip)
   replace H := Option.bind_eq_some_iff.mp H
   obtain ⟨t213, A40, H⟩ := H
   replace H : (stamp_Put.j0 k a0 (decide (a0 ≥ (wrap64 (86400 * t213))))) = some (r1, r2) := H
   have A4 := mkA A40
   clear A40
   as_aux_lemma =>
    have H' := mkA H
    clear H
    go_wp2_with (first | (go_at_call 18; (with_reducible refine (stamp_before.calls k 2200 1 t213 _ A4.out).mono ?_); rintro e w5 ⟨rfl, hb⟩; have n0_ := mkA (below_step (below_y HB.out) hb); clear HB; have HB := n0_; clear n0_; (try clear hb); (try clear hb2); (try clear hk); (try clear hi)))
    go_meet
    case rel => exact ⟨_, (decide (a0 ≥ (wrap64 (86400 * t213)))), (by first | rfl | (simp; done) | (simp [*]; done)), H', ⟨by first | omega | exact Nat.le_refl _⟩, ⟨below_y HB.out⟩⟩
 clear HC2
 try clear p2
 try clear c3
 try clear c3b0
 obtain ⟨kq, x14_1, rfl, HA, HJ1, HB⟩ := hcut
 rcases kq with _ | kj1
 ·exact absurd HA.out (by simp [stamp_Put.j0])
 have H := HA.out
 clear HA
 simp only [stamp_Put.j0] at H
 by_cases c6 : x14_1 = true
 ·subst c6
  have H1 : (some ((⟨#[]⟩ : ByteArray), 3)) = some (r1, r2) := by rw [if_pos rfl] at H; exact H
  clear H
  have H := H1
  clear H1
  as_aux_lemma =>
   simp only [Option.some.injEq, Prod.mk.injEq] at H
   obtain ⟨rfl, rfl⟩ := H
   go_wp2
   go_ret2
   exact ⟨by first | rfl | (simp [errW_none, errW_some] <;> rfl) | (simp [*, errW_none, errW_some] <;> rfl), below_y HB.out⟩
 replace c6 := Bool.eq_false_iff.mpr c6
 subst c6
 have H1 : (stamp_Put.l0 kj1 (wrap64 (Int.tdiv a0 86400)) (Int.tmod a0 86400) (wrap64 (1 + (wrap64 (Int.tdiv a0 86400)))) 1 1970) = some (r1, r2) := by rw [if_neg (show ¬ (false = true) by decide)] at H; exact H
 clear H
 have H := H1
 clear H1
 have H' := mkA H
 clear H
 go_wp2_with (first | ((with_reducible refine gate_dst (N := 6) rfl ?_); refine box_event ?hg (N := 6) ?hd (cs := #[.int .i64 0, .int .i64 0, .int .i64 0]) (t := 41) ?hr ?_; (case hd => rfl); (case hg => rfl); (case hr => first | (go_simp; done) | (go_simp; rfl)); intro gb214 hg w7 hbox hb; have n0_ := mkA (below_step (below_y HB.out) hb); have n1_ := mkA (hbox); have n2_ := mkA ((gz hg HB.out : w.heap.size ≤ gb214)); have n3_ := mkA ((gz hg HB.out : w.heap.size ≤ gb214)); clear HB; have HB := n0_; have BK214 := n1_; have GW214 := n2_; have GE214 := n3_; clear n0_ n1_ n2_ n3_; clear hb hbox hg; have hcz8_0 := bc BK214.out 0 (.int .i64 0) rfl; have hcz8_1 := bc BK214.out 1 (.int .i64 0) rfl; have hcz8_2 := bc BK214.out 2 (.int .i64 0) rfl; have hfz8_0 := blk_frozen BK214.out 0; have hfz8_1 := blk_frozen BK214.out 1; have hfz8_2 := blk_frozen BK214.out 2))
 go_loopg [] kj1 (fun kq w' => ∃ (x215000_2 : Int) (x215001_2 : Int) (x215002_2 : Int), Aside0 (stamp_Put.l0 kq (wrap64 (Int.tdiv a0 86400)) (Int.tmod a0 86400) x215000_2 x215001_2 x215002_2 = some (r1, r2)) ∧ Aside0 (kq ≤ kj1) ∧ Aside0 (w'.heap[gb214]? = some (.cells #[.int .i64 x215000_2, .int .i64 x215001_2, .int .i64 x215002_2] 41 (0, 0))) ∧ Aside0 (Below w.heap.size w w'))
 case atStart => exact ⟨(wrap64 (1 + (wrap64 (Int.tdiv a0 86400)))), (1), (1970), H', ⟨Nat.le_refl _⟩, ⟨by (with_reducible repeat (first | refine blk_drewN ?_ _ | refine blk_drew ?_ | refine blk_alloc ?_ _)); refine blk_put (cs := #[.int .i64 (wrap64 (1 + (wrap64 (Int.tdiv a0 86400)))), .int .i64 1, .int .i64 0]) ?_ 2 _ rfl; (with_reducible repeat (first | refine blk_drewN ?_ _ | refine blk_drew ?_ | refine blk_alloc ?_ _)); refine blk_put (cs := #[.int .i64 (wrap64 (1 + (wrap64 (Int.tdiv a0 86400)))), .int .i64 0, .int .i64 0]) ?_ 1 _ rfl; (with_reducible repeat (first | refine blk_drewN ?_ _ | refine blk_drew ?_ | refine blk_alloc ?_ _)); refine blk_put (cs := #[.int .i64 0, .int .i64 0, .int .i64 0]) ?_ 0 _ rfl; (with_reducible repeat (first | refine blk_drewN ?_ _ | refine blk_drew ?_ | refine blk_alloc ?_ _)); exact BK214.out⟩, ⟨by repeat (first | (with_reducible first | exact HB.out | apply below_alloc | apply pw_below_drewN | apply below_drew1 | refine below_set ?_ GE214.out) | exact HB.out)⟩⟩
 clear H'
 try clear p2
 try clear c3
 try clear c3b0
 try clear c6
 try clear p6
 try clear c8
 try clear hcz8_0
 try clear hcz8_1
 try clear hcz8_2
 try clear hfz8_0
 try clear hfz8_1
 try clear hfz8_2
 try clear p2
 obtain ⟨x215000_2, x215001_2, x215002_2, HA, HK2, BK214, HB⟩ := hrel
 rcases gk with _ | k2
 ·exact absurd HA.out (by simp [stamp_Put.l0])
 have H := HA.out
 clear HA
 simp only [stamp_Put.l0] at H
 replace H := Option.bind_eq_some_iff.mp H
 obtain ⟨t215, A90, H⟩ := H
 replace H : (if x215000_2 > t215 then ((stamp_Days.f x215002_2 x215001_2).bind fun t216 => (if (wrap64 (x215001_2 + 1)) > 12 then (stamp_Put.l0 k2 (wrap64 (Int.tdiv a0 86400)) (Int.tmod a0 86400) (wrap64 (x215000_2 - t216)) 1 (wrap64 (x215002_2 + 1))) else (stamp_Put.l0 k2 (wrap64 (Int.tdiv a0 86400)) (Int.tmod a0 86400) (wrap64 (x215000_2 - t216)) (wrap64 (x215001_2 + 1)) x215002_2))) else ((stamp_name.f (⟨#[116, 104, 117, 32, 102, 114, 105, 32, 115, 97, 116, 32, 115, 117, 110, 32, 109, 111, 110, 32, 116, 117, 101, 32, 119, 101, 100, 32]⟩ : ByteArray) (Int.tmod (wrap64 (Int.tdiv a0 86400)) 7)).bind fun t217 => (if t217.size + 2 ≤ 9223372036854775807 then ((stamp_two.f x215000_2).bind fun t218 => (if (t217 ++ (⟨#[44, 32]⟩ : ByteArray)).size + t218.size ≤ 9223372036854775807 then (if ((t217 ++ (⟨#[44, 32]⟩ : ByteArray)) ++ t218).size + 1 ≤ 9223372036854775807 then ((stamp_name.f (⟨#[106, 97, 110, 32, 102, 101, 98, 32, 109, 97, 114, 32, 97, 112, 114, 32, 109, 97, 121, 32, 106, 117, 110, 32, 106, 117, 108, 32, 97, 117, 103, 32, 115, 101, 112, 32, 111, 99, 116, 32, 110, 111, 118, 32, 100, 101, 99, 32]⟩ : ByteArray) (wrap64 (x215001_2 - 1))).bind fun t219 => (if (((t217 ++ (⟨#[44, 32]⟩ : ByteArray)) ++ t218) ++ (⟨#[32]⟩ : ByteArray)).size + t219.size ≤ 9223372036854775807 then (if ((((t217 ++ (⟨#[44, 32]⟩ : ByteArray)) ++ t218) ++ (⟨#[32]⟩ : ByteArray)) ++ t219).size + 1 ≤ 9223372036854775807 then ((num_Put.f x215002_2).bind fun t220 => (if (((((t217 ++ (⟨#[44, 32]⟩ : ByteArray)) ++ t218) ++ (⟨#[32]⟩ : ByteArray)) ++ t219) ++ (⟨#[32]⟩ : ByteArray)).size + t220.size ≤ 9223372036854775807 then (if ((((((t217 ++ (⟨#[44, 32]⟩ : ByteArray)) ++ t218) ++ (⟨#[32]⟩ : ByteArray)) ++ t219) ++ (⟨#[32]⟩ : ByteArray)) ++ t220).size + 1 ≤ 9223372036854775807 then ((stamp_two.f (wrap64 (Int.tdiv (Int.tmod a0 86400) 3600))).bind fun t221 => (if (((((((t217 ++ (⟨#[44, 32]⟩ : ByteArray)) ++ t218) ++ (⟨#[32]⟩ : ByteArray)) ++ t219) ++ (⟨#[32]⟩ : ByteArray)) ++ t220) ++ (⟨#[32]⟩ : ByteArray)).size + t221.size ≤ 9223372036854775807 then (if ((((((((t217 ++ (⟨#[44, 32]⟩ : ByteArray)) ++ t218) ++ (⟨#[32]⟩ : ByteArray)) ++ t219) ++ (⟨#[32]⟩ : ByteArray)) ++ t220) ++ (⟨#[32]⟩ : ByteArray)) ++ t221).size + 1 ≤ 9223372036854775807 then ((stamp_two.f (Int.tmod (wrap64 (Int.tdiv (Int.tmod a0 86400) 60)) 60)).bind fun t222 => (if (((((((((t217 ++ (⟨#[44, 32]⟩ : ByteArray)) ++ t218) ++ (⟨#[32]⟩ : ByteArray)) ++ t219) ++ (⟨#[32]⟩ : ByteArray)) ++ t220) ++ (⟨#[32]⟩ : ByteArray)) ++ t221) ++ (⟨#[58]⟩ : ByteArray)).size + t222.size ≤ 9223372036854775807 then (if ((((((((((t217 ++ (⟨#[44, 32]⟩ : ByteArray)) ++ t218) ++ (⟨#[32]⟩ : ByteArray)) ++ t219) ++ (⟨#[32]⟩ : ByteArray)) ++ t220) ++ (⟨#[32]⟩ : ByteArray)) ++ t221) ++ (⟨#[58]⟩ : ByteArray)) ++ t222).size + 1 ≤ 9223372036854775807 then ((stamp_two.f (Int.tmod (Int.tmod a0 86400) 60)).bind fun t223 => (if (((((((((((t217 ++ (⟨#[44, 32]⟩ : ByteArray)) ++ t218) ++ (⟨#[32]⟩ : ByteArray)) ++ t219) ++ (⟨#[32]⟩ : ByteArray)) ++ t220) ++ (⟨#[32]⟩ : ByteArray)) ++ t221) ++ (⟨#[58]⟩ : ByteArray)) ++ t222) ++ (⟨#[58]⟩ : ByteArray)).size + t223.size ≤ 9223372036854775807 then (if ((((((((((((t217 ++ (⟨#[44, 32]⟩ : ByteArray)) ++ t218) ++ (⟨#[32]⟩ : ByteArray)) ++ t219) ++ (⟨#[32]⟩ : ByteArray)) ++ t220) ++ (⟨#[32]⟩ : ByteArray)) ++ t221) ++ (⟨#[58]⟩ : ByteArray)) ++ t222) ++ (⟨#[58]⟩ : ByteArray)) ++ t223).size + 4 ≤ 9223372036854775807 then (some (((((((((((((t217 ++ (⟨#[44, 32]⟩ : ByteArray)) ++ t218) ++ (⟨#[32]⟩ : ByteArray)) ++ t219) ++ (⟨#[32]⟩ : ByteArray)) ++ t220) ++ (⟨#[32]⟩ : ByteArray)) ++ t221) ++ (⟨#[58]⟩ : ByteArray)) ++ t222) ++ (⟨#[58]⟩ : ByteArray)) ++ t223) ++ (⟨#[32, 71, 77, 84]⟩ : ByteArray), 0)) else (none)) else (none))) else (none)) else (none))) else (none)) else (none))) else (none)) else (none))) else (none)) else (none))) else (none)) else (none))) else (none)))) = some (r1, r2) := H
 have A9 := mkA A90
 clear A90
 try go_wp2
 have n0_ := mkA (blk_drew BK214.out)
 have n1_ := mkA (below_drew1 HB.out)
 clear BK214 HB
 have BK214 := n0_
 have HB := n1_
 clear n0_ n1_
 refine start_ (n := 8) (S := fun w' => w'.cell? ⟨gb214, 0, none⟩ = some (.int .i64 x215000_2) ∧ w'.cell? ⟨gb214, 1, none⟩ = some (.int .i64 x215001_2) ∧ w'.cell? ⟨gb214, 2, none⟩ = some (.int .i64 x215002_2)) (ds := []) #[false, false, false, false, false, false, false, false] (by kernel_rfl) rfl rfl ⟨(blk_cell BK214.out 0).trans rfl, (blk_cell BK214.out 1).trans rfl, (blk_cell BK214.out 2).trans rfl⟩ (fun hHeld => ?_); refine with_tabW stamp_Put.tab5 stamp_Put.bits5 (fun HT_ HW_ => ?_)
 generalize wr.drew = w13 at BK214 HB hHeld ⊢
 refine pu 0 22 HT_ ?_
 refine pu 2 24 HT_ ?_
 refine pu 4 26 HT_ ?_
 refine tk 1 23 HT_ HW_ hHeld ?_
 refine tk 3 25 HT_ HW_ hHeld ?_
 refine tk 5 27 HT_ HW_ hHeld ?_
 refine one_ (i := 6) (N := some 28) #[true, true, true, true, true, true, true, false] rfl rfl (one_of HT_.out (by kernel_rfl)) (by decide) (fun K hK => ?_)
 refine goes_ Tryd.func10 (by kernel_rfl) rfl #[.int .i64 x215002_2, .int .i64 x215001_2] (by rfl) rfl rfl ca ?_
 with_reducible refine (stamp_Days.calls x215002_2 x215001_2 t215 _ A9.out).mono ?_
 rintro e w14 ⟨rfl, hb⟩
 have hbk_w14 := mkA hb
 refine ⟨_, rfl, ?_⟩
 have n0_ := mkA (blk_below (blk_y BK214.out) hb)
 have n1_ := mkA (below_step (below_y HB.out) hb)
 clear BK214 HB
 have BK214 := n0_
 have HB := n1_
 clear n0_ n1_
 (try clear hb)
 (try clear hb2)
 (try clear hk)
 (try clear hi)
 refine hK.out _ _ ⟨(blk_cell BK214.out 0).trans rfl, (blk_cell BK214.out 1).trans rfl, (blk_cell BK214.out 2).trans rfl⟩ (fun hHeld => ?_)
 clear hK K
 refine norm_ (a' := ?_) ?_ ?_
 rotate_left
 ·show Act.put _ (some 28) _ = _
  simp only [Act.put, sA, s0, sS, i64_w, i32_w]
  rfl
 refine pu 7 29 HT_ ?_
 refine done_ (done_of HT_.out (by kernel_rfl)) ?_
 by_cases c10 : x215000_2 > t215
 ·rw [if_pos c10] at H
  have c10b0 : decide (t215 < x215000_2) = true := decide_eq_true c10
  (first | rw [c10b0] | (simp only [i64_w, i32_w]; rw [c10b0]) | skip)
  clear c10
  replace H := Option.bind_eq_some_iff.mp H
  obtain ⟨t216, A110, H⟩ := H
  replace H : (if (wrap64 (x215001_2 + 1)) > 12 then (stamp_Put.l0 k2 (wrap64 (Int.tdiv a0 86400)) (Int.tmod a0 86400) (wrap64 (x215000_2 - t216)) 1 (wrap64 (x215002_2 + 1))) else (stamp_Put.l0 k2 (wrap64 (Int.tdiv a0 86400)) (Int.tmod a0 86400) (wrap64 (x215000_2 - t216)) (wrap64 (x215001_2 + 1)) x215002_2)) = some (r1, r2) := H
  have A11 := mkA A110
  clear A110
  try go_wp2
  have n0_ := mkA (blk_drew BK214.out)
  have n1_ := mkA (below_drew1 HB.out)
  clear BK214 HB
  have BK214 := n0_
  have HB := n1_
  clear n0_ n1_
  refine start_ (n := 10) (S := fun w' => w'.cell? ⟨gb214, 0, none⟩ = some (.int .i64 x215000_2) ∧ w'.cell? ⟨gb214, 1, none⟩ = some (.int .i64 x215001_2) ∧ w'.cell? ⟨gb214, 2, none⟩ = some (.int .i64 x215002_2)) (ds := [9]) #[false, false, false, false, false, false, false, false, false, false] (by kernel_rfl) rfl rfl ⟨(blk_cell BK214.out 0).trans rfl, (blk_cell BK214.out 1).trans rfl, (blk_cell BK214.out 2).trans rfl⟩ (fun hHeld => ?_); refine with_tabW stamp_Put.tab6 stamp_Put.bits6 (fun HT_ HW_ => ?_)
  generalize w14.drew = w15 at BK214 HB hHeld ⊢
  refine pu 0 30 HT_ ?_
  refine pu 2 32 HT_ ?_
  refine pu 4 34 HT_ ?_
  refine tk 1 31 HT_ HW_ hHeld ?_
  refine tk 3 33 HT_ HW_ hHeld ?_
  refine tk 5 35 HT_ HW_ hHeld ?_
  refine one_ (i := 6) (N := some 36) #[true, true, true, true, true, true, true, false, false, false] rfl rfl (one_of HT_.out (by kernel_rfl)) (by decide) (fun K hK => ?_)
  refine goes_ Tryd.func10 (by kernel_rfl) rfl #[.int .i64 x215002_2, .int .i64 x215001_2] (by rfl) rfl rfl ca ?_
  with_reducible refine (stamp_Days.calls x215002_2 x215001_2 t216 _ A11.out).mono ?_
  rintro e w16 ⟨rfl, hb⟩
  have hbk_w16 := mkA hb
  refine ⟨_, rfl, ?_⟩
  have n0_ := mkA (blk_below (blk_y BK214.out) hb)
  have n1_ := mkA (below_step (below_y HB.out) hb)
  clear BK214 HB
  have BK214 := n0_
  have HB := n1_
  clear n0_ n1_
  (try clear hb)
  (try clear hb2)
  (try clear hk)
  (try clear hi)
  refine hK.out _ _ ⟨(blk_cell BK214.out 0).trans rfl, (blk_cell BK214.out 1).trans rfl, (blk_cell BK214.out 2).trans rfl⟩ (fun hHeld => ?_)
  clear hK K
  refine norm_ (a' := ?_) ?_ ?_
  rotate_left
  ·show Act.put _ (some 36) _ = _
   simp only [Act.put, sA, s0, sS, i64_w, i32_w]
   rfl
  refine pu 7 37 HT_ ?_
  refine pu 8 38 HT_ ?_
  refine last_ (i := 9) (N := none) #[true, true, true, true, true, true, true, true, true, true] rfl rfl (one_of HT_.out (by kernel_rfl)) (by decide) (fun K hK => ?_)
  have hs17 : w16.cell? ⟨gb214, 0, none⟩ = some (.int .i64 x215000_2) := (blk_cell BK214.out 0).trans rfl
  have hfs17 := blk_frozen BK214.out 0
  refine skip_ (w1 := ?_) (by rfl) rfl ?_ ?_
  rotate_left
  ·go_simp
   rfl
  refine hK.out _ _ ?_
  clear hK K
  refine done_ (done_of HT_.out (by kernel_rfl)) ?_
  have hcz18_0 := bc BK214.out 0 (.int .i64 x215000_2) rfl
  have hcz18_1 := bc BK214.out 1 (.int .i64 x215001_2) rfl
  have hcz18_2 := bc BK214.out 2 (.int .i64 x215002_2) rfl
  have hfz18_0 := blk_frozen BK214.out 0
  have hfz18_1 := blk_frozen BK214.out 1
  have hfz18_2 := blk_frozen BK214.out 2
  by_cases c12 : (wrap64 (x215001_2 + 1)) > 12
  ·rw [if_pos c12] at H
   have c12b0 : decide (12 < (wrap64 (x215001_2 + 1))) = true := decide_eq_true c12
   (first | rw [c12b0] | (simp only [i64_w, i32_w]; rw [c12b0]) | skip)
   (first | rw [c12b0] | (simp only [i64_w, i32_w]; rw [c12b0]) | skip)
   clear c12
   have H' := mkA H
   clear H
   as_aux_lemma =>
    try go_wp2
    go_roundg k2
    case measure => have := HJ1.out; have := HK2.out; omega
    case rel => exact ⟨(wrap64 (x215000_2 - t216)), (1), (wrap64 (x215002_2 + 1)), H', ⟨by have := HJ1.out; have := HK2.out; omega⟩, ⟨by (with_reducible repeat (first | refine blk_drewN ?_ _ | refine blk_drew ?_ | refine blk_alloc ?_ _)); refine blk_put (cs := #[.int .i64 (wrap64 (x215000_2 - t216)), .int .i64 1, .int .i64 x215002_2]) ?_ 2 _ rfl; (with_reducible repeat (first | refine blk_drewN ?_ _ | refine blk_drew ?_ | refine blk_alloc ?_ _)); refine blk_put (cs := #[.int .i64 (wrap64 (x215000_2 - t216)), .int .i64 (wrap64 (x215001_2 + 1)), .int .i64 x215002_2]) ?_ 1 _ rfl; (with_reducible repeat (first | refine blk_drewN ?_ _ | refine blk_drew ?_ | refine blk_alloc ?_ _)); refine blk_put (cs := #[.int .i64 (wrap64 (x215000_2 - t216)), .int .i64 x215001_2, .int .i64 x215002_2]) ?_ 1 _ rfl; (with_reducible repeat (first | refine blk_drewN ?_ _ | refine blk_drew ?_ | refine blk_alloc ?_ _)); refine blk_put (cs := #[.int .i64 x215000_2, .int .i64 x215001_2, .int .i64 x215002_2]) ?_ 0 _ rfl; (with_reducible repeat (first | refine blk_drewN ?_ _ | refine blk_drew ?_ | refine blk_alloc ?_ _)); exact BK214.out⟩, ⟨by repeat (first | (with_reducible first | exact HB.out | apply below_alloc | apply pw_below_drewN | apply below_drew1 | refine below_set ?_ GE214.out) | exact HB.out)⟩⟩
  ·rw [if_neg c12] at H
   have c12b0 : decide (12 < (wrap64 (x215001_2 + 1))) = false := decide_eq_false c12
   (first | rw [c12b0] | (simp only [i64_w, i32_w]; rw [c12b0]) | skip)
   (first | rw [c12b0] | (simp only [i64_w, i32_w]; rw [c12b0]) | skip)
   clear c12
   have H' := mkA H
   clear H
   as_aux_lemma =>
    try go_wp2
    go_roundg k2
    case measure => have := HJ1.out; have := HK2.out; omega
    case rel => exact ⟨(wrap64 (x215000_2 - t216)), (wrap64 (x215001_2 + 1)), (x215002_2), H', ⟨by have := HJ1.out; have := HK2.out; omega⟩, ⟨by (with_reducible repeat (first | refine blk_drewN ?_ _ | refine blk_drew ?_ | refine blk_alloc ?_ _)); refine blk_put (cs := #[.int .i64 (wrap64 (x215000_2 - t216)), .int .i64 x215001_2, .int .i64 x215002_2]) ?_ 1 _ rfl; (with_reducible repeat (first | refine blk_drewN ?_ _ | refine blk_drew ?_ | refine blk_alloc ?_ _)); refine blk_put (cs := #[.int .i64 x215000_2, .int .i64 x215001_2, .int .i64 x215002_2]) ?_ 0 _ rfl; (with_reducible repeat (first | refine blk_drewN ?_ _ | refine blk_drew ?_ | refine blk_alloc ?_ _)); exact BK214.out⟩, ⟨by repeat (first | (with_reducible first | exact HB.out | apply below_alloc | apply pw_below_drewN | apply below_drew1 | refine below_set ?_ GE214.out) | exact HB.out)⟩⟩
 rw [if_neg c10] at H
 have c10b0 : decide (t215 < x215000_2) = false := decide_eq_false c10
 (first | rw [c10b0] | (simp only [i64_w, i32_w]; rw [c10b0]) | skip)
 clear c10
 replace H := Option.bind_eq_some_iff.mp H
 obtain ⟨t217, A250, H⟩ := H
 replace H : (if t217.size + 2 ≤ 9223372036854775807 then ((stamp_two.f x215000_2).bind fun t218 => (if (t217 ++ (⟨#[44, 32]⟩ : ByteArray)).size + t218.size ≤ 9223372036854775807 then (if ((t217 ++ (⟨#[44, 32]⟩ : ByteArray)) ++ t218).size + 1 ≤ 9223372036854775807 then ((stamp_name.f (⟨#[106, 97, 110, 32, 102, 101, 98, 32, 109, 97, 114, 32, 97, 112, 114, 32, 109, 97, 121, 32, 106, 117, 110, 32, 106, 117, 108, 32, 97, 117, 103, 32, 115, 101, 112, 32, 111, 99, 116, 32, 110, 111, 118, 32, 100, 101, 99, 32]⟩ : ByteArray) (wrap64 (x215001_2 - 1))).bind fun t219 => (if (((t217 ++ (⟨#[44, 32]⟩ : ByteArray)) ++ t218) ++ (⟨#[32]⟩ : ByteArray)).size + t219.size ≤ 9223372036854775807 then (if ((((t217 ++ (⟨#[44, 32]⟩ : ByteArray)) ++ t218) ++ (⟨#[32]⟩ : ByteArray)) ++ t219).size + 1 ≤ 9223372036854775807 then ((num_Put.f x215002_2).bind fun t220 => (if (((((t217 ++ (⟨#[44, 32]⟩ : ByteArray)) ++ t218) ++ (⟨#[32]⟩ : ByteArray)) ++ t219) ++ (⟨#[32]⟩ : ByteArray)).size + t220.size ≤ 9223372036854775807 then (if ((((((t217 ++ (⟨#[44, 32]⟩ : ByteArray)) ++ t218) ++ (⟨#[32]⟩ : ByteArray)) ++ t219) ++ (⟨#[32]⟩ : ByteArray)) ++ t220).size + 1 ≤ 9223372036854775807 then ((stamp_two.f (wrap64 (Int.tdiv (Int.tmod a0 86400) 3600))).bind fun t221 => (if (((((((t217 ++ (⟨#[44, 32]⟩ : ByteArray)) ++ t218) ++ (⟨#[32]⟩ : ByteArray)) ++ t219) ++ (⟨#[32]⟩ : ByteArray)) ++ t220) ++ (⟨#[32]⟩ : ByteArray)).size + t221.size ≤ 9223372036854775807 then (if ((((((((t217 ++ (⟨#[44, 32]⟩ : ByteArray)) ++ t218) ++ (⟨#[32]⟩ : ByteArray)) ++ t219) ++ (⟨#[32]⟩ : ByteArray)) ++ t220) ++ (⟨#[32]⟩ : ByteArray)) ++ t221).size + 1 ≤ 9223372036854775807 then ((stamp_two.f (Int.tmod (wrap64 (Int.tdiv (Int.tmod a0 86400) 60)) 60)).bind fun t222 => (if (((((((((t217 ++ (⟨#[44, 32]⟩ : ByteArray)) ++ t218) ++ (⟨#[32]⟩ : ByteArray)) ++ t219) ++ (⟨#[32]⟩ : ByteArray)) ++ t220) ++ (⟨#[32]⟩ : ByteArray)) ++ t221) ++ (⟨#[58]⟩ : ByteArray)).size + t222.size ≤ 9223372036854775807 then (if ((((((((((t217 ++ (⟨#[44, 32]⟩ : ByteArray)) ++ t218) ++ (⟨#[32]⟩ : ByteArray)) ++ t219) ++ (⟨#[32]⟩ : ByteArray)) ++ t220) ++ (⟨#[32]⟩ : ByteArray)) ++ t221) ++ (⟨#[58]⟩ : ByteArray)) ++ t222).size + 1 ≤ 9223372036854775807 then ((stamp_two.f (Int.tmod (Int.tmod a0 86400) 60)).bind fun t223 => (if (((((((((((t217 ++ (⟨#[44, 32]⟩ : ByteArray)) ++ t218) ++ (⟨#[32]⟩ : ByteArray)) ++ t219) ++ (⟨#[32]⟩ : ByteArray)) ++ t220) ++ (⟨#[32]⟩ : ByteArray)) ++ t221) ++ (⟨#[58]⟩ : ByteArray)) ++ t222) ++ (⟨#[58]⟩ : ByteArray)).size + t223.size ≤ 9223372036854775807 then (if ((((((((((((t217 ++ (⟨#[44, 32]⟩ : ByteArray)) ++ t218) ++ (⟨#[32]⟩ : ByteArray)) ++ t219) ++ (⟨#[32]⟩ : ByteArray)) ++ t220) ++ (⟨#[32]⟩ : ByteArray)) ++ t221) ++ (⟨#[58]⟩ : ByteArray)) ++ t222) ++ (⟨#[58]⟩ : ByteArray)) ++ t223).size + 4 ≤ 9223372036854775807 then (some (((((((((((((t217 ++ (⟨#[44, 32]⟩ : ByteArray)) ++ t218) ++ (⟨#[32]⟩ : ByteArray)) ++ t219) ++ (⟨#[32]⟩ : ByteArray)) ++ t220) ++ (⟨#[32]⟩ : ByteArray)) ++ t221) ++ (⟨#[58]⟩ : ByteArray)) ++ t222) ++ (⟨#[58]⟩ : ByteArray)) ++ t223) ++ (⟨#[32, 71, 77, 84]⟩ : ByteArray), 0)) else (none)) else (none))) else (none)) else (none))) else (none)) else (none))) else (none)) else (none))) else (none)) else (none))) else (none)) else (none))) else (none)) = some (r1, r2) := H
 have A25 := mkA A250
 clear A250
 by_cases c26 : t217.size + 2 ≤ 9223372036854775807
 rotate_left
 ·rw [if_neg c26] at H
  exact absurd H (by simp)
 rw [if_pos c26] at H
 have c26b0 := eq_true c26
 have c26b1 : decide (t217.size + 2 ≤ 9223372036854775807) = true := decide_eq_true c26
 try have c26b2 : (9223372036854775807 < t217.size + 2) = False := eq_false (Nat.not_lt.2 c26)
 replace H := Option.bind_eq_some_iff.mp H
 obtain ⟨t218, A270, H⟩ := H
 replace H : (if (t217 ++ (⟨#[44, 32]⟩ : ByteArray)).size + t218.size ≤ 9223372036854775807 then (if ((t217 ++ (⟨#[44, 32]⟩ : ByteArray)) ++ t218).size + 1 ≤ 9223372036854775807 then ((stamp_name.f (⟨#[106, 97, 110, 32, 102, 101, 98, 32, 109, 97, 114, 32, 97, 112, 114, 32, 109, 97, 121, 32, 106, 117, 110, 32, 106, 117, 108, 32, 97, 117, 103, 32, 115, 101, 112, 32, 111, 99, 116, 32, 110, 111, 118, 32, 100, 101, 99, 32]⟩ : ByteArray) (wrap64 (x215001_2 - 1))).bind fun t219 => (if (((t217 ++ (⟨#[44, 32]⟩ : ByteArray)) ++ t218) ++ (⟨#[32]⟩ : ByteArray)).size + t219.size ≤ 9223372036854775807 then (if ((((t217 ++ (⟨#[44, 32]⟩ : ByteArray)) ++ t218) ++ (⟨#[32]⟩ : ByteArray)) ++ t219).size + 1 ≤ 9223372036854775807 then ((num_Put.f x215002_2).bind fun t220 => (if (((((t217 ++ (⟨#[44, 32]⟩ : ByteArray)) ++ t218) ++ (⟨#[32]⟩ : ByteArray)) ++ t219) ++ (⟨#[32]⟩ : ByteArray)).size + t220.size ≤ 9223372036854775807 then (if ((((((t217 ++ (⟨#[44, 32]⟩ : ByteArray)) ++ t218) ++ (⟨#[32]⟩ : ByteArray)) ++ t219) ++ (⟨#[32]⟩ : ByteArray)) ++ t220).size + 1 ≤ 9223372036854775807 then ((stamp_two.f (wrap64 (Int.tdiv (Int.tmod a0 86400) 3600))).bind fun t221 => (if (((((((t217 ++ (⟨#[44, 32]⟩ : ByteArray)) ++ t218) ++ (⟨#[32]⟩ : ByteArray)) ++ t219) ++ (⟨#[32]⟩ : ByteArray)) ++ t220) ++ (⟨#[32]⟩ : ByteArray)).size + t221.size ≤ 9223372036854775807 then (if ((((((((t217 ++ (⟨#[44, 32]⟩ : ByteArray)) ++ t218) ++ (⟨#[32]⟩ : ByteArray)) ++ t219) ++ (⟨#[32]⟩ : ByteArray)) ++ t220) ++ (⟨#[32]⟩ : ByteArray)) ++ t221).size + 1 ≤ 9223372036854775807 then ((stamp_two.f (Int.tmod (wrap64 (Int.tdiv (Int.tmod a0 86400) 60)) 60)).bind fun t222 => (if (((((((((t217 ++ (⟨#[44, 32]⟩ : ByteArray)) ++ t218) ++ (⟨#[32]⟩ : ByteArray)) ++ t219) ++ (⟨#[32]⟩ : ByteArray)) ++ t220) ++ (⟨#[32]⟩ : ByteArray)) ++ t221) ++ (⟨#[58]⟩ : ByteArray)).size + t222.size ≤ 9223372036854775807 then (if ((((((((((t217 ++ (⟨#[44, 32]⟩ : ByteArray)) ++ t218) ++ (⟨#[32]⟩ : ByteArray)) ++ t219) ++ (⟨#[32]⟩ : ByteArray)) ++ t220) ++ (⟨#[32]⟩ : ByteArray)) ++ t221) ++ (⟨#[58]⟩ : ByteArray)) ++ t222).size + 1 ≤ 9223372036854775807 then ((stamp_two.f (Int.tmod (Int.tmod a0 86400) 60)).bind fun t223 => (if (((((((((((t217 ++ (⟨#[44, 32]⟩ : ByteArray)) ++ t218) ++ (⟨#[32]⟩ : ByteArray)) ++ t219) ++ (⟨#[32]⟩ : ByteArray)) ++ t220) ++ (⟨#[32]⟩ : ByteArray)) ++ t221) ++ (⟨#[58]⟩ : ByteArray)) ++ t222) ++ (⟨#[58]⟩ : ByteArray)).size + t223.size ≤ 9223372036854775807 then (if ((((((((((((t217 ++ (⟨#[44, 32]⟩ : ByteArray)) ++ t218) ++ (⟨#[32]⟩ : ByteArray)) ++ t219) ++ (⟨#[32]⟩ : ByteArray)) ++ t220) ++ (⟨#[32]⟩ : ByteArray)) ++ t221) ++ (⟨#[58]⟩ : ByteArray)) ++ t222) ++ (⟨#[58]⟩ : ByteArray)) ++ t223).size + 4 ≤ 9223372036854775807 then (some (((((((((((((t217 ++ (⟨#[44, 32]⟩ : ByteArray)) ++ t218) ++ (⟨#[32]⟩ : ByteArray)) ++ t219) ++ (⟨#[32]⟩ : ByteArray)) ++ t220) ++ (⟨#[32]⟩ : ByteArray)) ++ t221) ++ (⟨#[58]⟩ : ByteArray)) ++ t222) ++ (⟨#[58]⟩ : ByteArray)) ++ t223) ++ (⟨#[32, 71, 77, 84]⟩ : ByteArray), 0)) else (none)) else (none))) else (none)) else (none))) else (none)) else (none))) else (none)) else (none))) else (none)) else (none))) else (none)) else (none)) = some (r1, r2) := H
 have A27 := mkA A270
 clear A270
 by_cases c28 : (t217 ++ (⟨#[44, 32]⟩ : ByteArray)).size + t218.size ≤ 9223372036854775807
 rotate_left
 ·rw [if_neg c28] at H
  exact absurd H (by simp)
 rw [if_pos c28] at H
 have c28b0 := eq_true c28
 have c28b1 : decide ((t217 ++ (⟨#[44, 32]⟩ : ByteArray)).size + t218.size ≤ 9223372036854775807) = true := decide_eq_true c28
 try have c28b2 : (9223372036854775807 < (t217 ++ (⟨#[44, 32]⟩ : ByteArray)).size + t218.size) = False := eq_false (Nat.not_lt.2 c28)
 have c28z : (9223372036854775807 < t217.size + 2 + t218.size) = False := eq_false (Nat.not_lt.2 (by have h8 := c28; (try simp only [ByteArray.size_append] at h8); exact h8))
 by_cases c29 : ((t217 ++ (⟨#[44, 32]⟩ : ByteArray)) ++ t218).size + 1 ≤ 9223372036854775807
 rotate_left
 ·rw [if_neg c29] at H
  exact absurd H (by simp)
 rw [if_pos c29] at H
 have c29b0 := eq_true c29
 have c29b1 : decide (((t217 ++ (⟨#[44, 32]⟩ : ByteArray)) ++ t218).size + 1 ≤ 9223372036854775807) = true := decide_eq_true c29
 try have c29b2 : (9223372036854775807 < ((t217 ++ (⟨#[44, 32]⟩ : ByteArray)) ++ t218).size + 1) = False := eq_false (Nat.not_lt.2 c29)
 have c29z : (9223372036854775807 < t217.size + 2 + t218.size + 1) = False := eq_false (Nat.not_lt.2 (by have h8 := c29; (try simp only [ByteArray.size_append] at h8); exact h8))
 replace H := Option.bind_eq_some_iff.mp H
 obtain ⟨t219, A300, H⟩ := H
 replace H : (if (((t217 ++ (⟨#[44, 32]⟩ : ByteArray)) ++ t218) ++ (⟨#[32]⟩ : ByteArray)).size + t219.size ≤ 9223372036854775807 then (if ((((t217 ++ (⟨#[44, 32]⟩ : ByteArray)) ++ t218) ++ (⟨#[32]⟩ : ByteArray)) ++ t219).size + 1 ≤ 9223372036854775807 then ((num_Put.f x215002_2).bind fun t220 => (if (((((t217 ++ (⟨#[44, 32]⟩ : ByteArray)) ++ t218) ++ (⟨#[32]⟩ : ByteArray)) ++ t219) ++ (⟨#[32]⟩ : ByteArray)).size + t220.size ≤ 9223372036854775807 then (if ((((((t217 ++ (⟨#[44, 32]⟩ : ByteArray)) ++ t218) ++ (⟨#[32]⟩ : ByteArray)) ++ t219) ++ (⟨#[32]⟩ : ByteArray)) ++ t220).size + 1 ≤ 9223372036854775807 then ((stamp_two.f (wrap64 (Int.tdiv (Int.tmod a0 86400) 3600))).bind fun t221 => (if (((((((t217 ++ (⟨#[44, 32]⟩ : ByteArray)) ++ t218) ++ (⟨#[32]⟩ : ByteArray)) ++ t219) ++ (⟨#[32]⟩ : ByteArray)) ++ t220) ++ (⟨#[32]⟩ : ByteArray)).size + t221.size ≤ 9223372036854775807 then (if ((((((((t217 ++ (⟨#[44, 32]⟩ : ByteArray)) ++ t218) ++ (⟨#[32]⟩ : ByteArray)) ++ t219) ++ (⟨#[32]⟩ : ByteArray)) ++ t220) ++ (⟨#[32]⟩ : ByteArray)) ++ t221).size + 1 ≤ 9223372036854775807 then ((stamp_two.f (Int.tmod (wrap64 (Int.tdiv (Int.tmod a0 86400) 60)) 60)).bind fun t222 => (if (((((((((t217 ++ (⟨#[44, 32]⟩ : ByteArray)) ++ t218) ++ (⟨#[32]⟩ : ByteArray)) ++ t219) ++ (⟨#[32]⟩ : ByteArray)) ++ t220) ++ (⟨#[32]⟩ : ByteArray)) ++ t221) ++ (⟨#[58]⟩ : ByteArray)).size + t222.size ≤ 9223372036854775807 then (if ((((((((((t217 ++ (⟨#[44, 32]⟩ : ByteArray)) ++ t218) ++ (⟨#[32]⟩ : ByteArray)) ++ t219) ++ (⟨#[32]⟩ : ByteArray)) ++ t220) ++ (⟨#[32]⟩ : ByteArray)) ++ t221) ++ (⟨#[58]⟩ : ByteArray)) ++ t222).size + 1 ≤ 9223372036854775807 then ((stamp_two.f (Int.tmod (Int.tmod a0 86400) 60)).bind fun t223 => (if (((((((((((t217 ++ (⟨#[44, 32]⟩ : ByteArray)) ++ t218) ++ (⟨#[32]⟩ : ByteArray)) ++ t219) ++ (⟨#[32]⟩ : ByteArray)) ++ t220) ++ (⟨#[32]⟩ : ByteArray)) ++ t221) ++ (⟨#[58]⟩ : ByteArray)) ++ t222) ++ (⟨#[58]⟩ : ByteArray)).size + t223.size ≤ 9223372036854775807 then (if ((((((((((((t217 ++ (⟨#[44, 32]⟩ : ByteArray)) ++ t218) ++ (⟨#[32]⟩ : ByteArray)) ++ t219) ++ (⟨#[32]⟩ : ByteArray)) ++ t220) ++ (⟨#[32]⟩ : ByteArray)) ++ t221) ++ (⟨#[58]⟩ : ByteArray)) ++ t222) ++ (⟨#[58]⟩ : ByteArray)) ++ t223).size + 4 ≤ 9223372036854775807 then (some (((((((((((((t217 ++ (⟨#[44, 32]⟩ : ByteArray)) ++ t218) ++ (⟨#[32]⟩ : ByteArray)) ++ t219) ++ (⟨#[32]⟩ : ByteArray)) ++ t220) ++ (⟨#[32]⟩ : ByteArray)) ++ t221) ++ (⟨#[58]⟩ : ByteArray)) ++ t222) ++ (⟨#[58]⟩ : ByteArray)) ++ t223) ++ (⟨#[32, 71, 77, 84]⟩ : ByteArray), 0)) else (none)) else (none))) else (none)) else (none))) else (none)) else (none))) else (none)) else (none))) else (none)) else (none)) = some (r1, r2) := H
 have A30 := mkA A300
 clear A300
 by_cases c31 : (((t217 ++ (⟨#[44, 32]⟩ : ByteArray)) ++ t218) ++ (⟨#[32]⟩ : ByteArray)).size + t219.size ≤ 9223372036854775807
 rotate_left
 ·rw [if_neg c31] at H
  exact absurd H (by simp)
 rw [if_pos c31] at H
 have c31b0 := eq_true c31
 have c31b1 : decide ((((t217 ++ (⟨#[44, 32]⟩ : ByteArray)) ++ t218) ++ (⟨#[32]⟩ : ByteArray)).size + t219.size ≤ 9223372036854775807) = true := decide_eq_true c31
 try have c31b2 : (9223372036854775807 < (((t217 ++ (⟨#[44, 32]⟩ : ByteArray)) ++ t218) ++ (⟨#[32]⟩ : ByteArray)).size + t219.size) = False := eq_false (Nat.not_lt.2 c31)
 have c31z : (9223372036854775807 < t217.size + 2 + t218.size + 1 + t219.size) = False := eq_false (Nat.not_lt.2 (by have h8 := c31; (try simp only [ByteArray.size_append] at h8); exact h8))
 by_cases c32 : ((((t217 ++ (⟨#[44, 32]⟩ : ByteArray)) ++ t218) ++ (⟨#[32]⟩ : ByteArray)) ++ t219).size + 1 ≤ 9223372036854775807
 rotate_left
 ·rw [if_neg c32] at H
  exact absurd H (by simp)
 rw [if_pos c32] at H
 have c32b0 := eq_true c32
 have c32b1 : decide (((((t217 ++ (⟨#[44, 32]⟩ : ByteArray)) ++ t218) ++ (⟨#[32]⟩ : ByteArray)) ++ t219).size + 1 ≤ 9223372036854775807) = true := decide_eq_true c32
 try have c32b2 : (9223372036854775807 < ((((t217 ++ (⟨#[44, 32]⟩ : ByteArray)) ++ t218) ++ (⟨#[32]⟩ : ByteArray)) ++ t219).size + 1) = False := eq_false (Nat.not_lt.2 c32)
 have c32z : (9223372036854775807 < t217.size + 2 + t218.size + 1 + t219.size + 1) = False := eq_false (Nat.not_lt.2 (by have h8 := c32; (try simp only [ByteArray.size_append] at h8); exact h8))
 replace H := Option.bind_eq_some_iff.mp H
 obtain ⟨t220, A330, H⟩ := H
 replace H : (if (((((t217 ++ (⟨#[44, 32]⟩ : ByteArray)) ++ t218) ++ (⟨#[32]⟩ : ByteArray)) ++ t219) ++ (⟨#[32]⟩ : ByteArray)).size + t220.size ≤ 9223372036854775807 then (if ((((((t217 ++ (⟨#[44, 32]⟩ : ByteArray)) ++ t218) ++ (⟨#[32]⟩ : ByteArray)) ++ t219) ++ (⟨#[32]⟩ : ByteArray)) ++ t220).size + 1 ≤ 9223372036854775807 then ((stamp_two.f (wrap64 (Int.tdiv (Int.tmod a0 86400) 3600))).bind fun t221 => (if (((((((t217 ++ (⟨#[44, 32]⟩ : ByteArray)) ++ t218) ++ (⟨#[32]⟩ : ByteArray)) ++ t219) ++ (⟨#[32]⟩ : ByteArray)) ++ t220) ++ (⟨#[32]⟩ : ByteArray)).size + t221.size ≤ 9223372036854775807 then (if ((((((((t217 ++ (⟨#[44, 32]⟩ : ByteArray)) ++ t218) ++ (⟨#[32]⟩ : ByteArray)) ++ t219) ++ (⟨#[32]⟩ : ByteArray)) ++ t220) ++ (⟨#[32]⟩ : ByteArray)) ++ t221).size + 1 ≤ 9223372036854775807 then ((stamp_two.f (Int.tmod (wrap64 (Int.tdiv (Int.tmod a0 86400) 60)) 60)).bind fun t222 => (if (((((((((t217 ++ (⟨#[44, 32]⟩ : ByteArray)) ++ t218) ++ (⟨#[32]⟩ : ByteArray)) ++ t219) ++ (⟨#[32]⟩ : ByteArray)) ++ t220) ++ (⟨#[32]⟩ : ByteArray)) ++ t221) ++ (⟨#[58]⟩ : ByteArray)).size + t222.size ≤ 9223372036854775807 then (if ((((((((((t217 ++ (⟨#[44, 32]⟩ : ByteArray)) ++ t218) ++ (⟨#[32]⟩ : ByteArray)) ++ t219) ++ (⟨#[32]⟩ : ByteArray)) ++ t220) ++ (⟨#[32]⟩ : ByteArray)) ++ t221) ++ (⟨#[58]⟩ : ByteArray)) ++ t222).size + 1 ≤ 9223372036854775807 then ((stamp_two.f (Int.tmod (Int.tmod a0 86400) 60)).bind fun t223 => (if (((((((((((t217 ++ (⟨#[44, 32]⟩ : ByteArray)) ++ t218) ++ (⟨#[32]⟩ : ByteArray)) ++ t219) ++ (⟨#[32]⟩ : ByteArray)) ++ t220) ++ (⟨#[32]⟩ : ByteArray)) ++ t221) ++ (⟨#[58]⟩ : ByteArray)) ++ t222) ++ (⟨#[58]⟩ : ByteArray)).size + t223.size ≤ 9223372036854775807 then (if ((((((((((((t217 ++ (⟨#[44, 32]⟩ : ByteArray)) ++ t218) ++ (⟨#[32]⟩ : ByteArray)) ++ t219) ++ (⟨#[32]⟩ : ByteArray)) ++ t220) ++ (⟨#[32]⟩ : ByteArray)) ++ t221) ++ (⟨#[58]⟩ : ByteArray)) ++ t222) ++ (⟨#[58]⟩ : ByteArray)) ++ t223).size + 4 ≤ 9223372036854775807 then (some (((((((((((((t217 ++ (⟨#[44, 32]⟩ : ByteArray)) ++ t218) ++ (⟨#[32]⟩ : ByteArray)) ++ t219) ++ (⟨#[32]⟩ : ByteArray)) ++ t220) ++ (⟨#[32]⟩ : ByteArray)) ++ t221) ++ (⟨#[58]⟩ : ByteArray)) ++ t222) ++ (⟨#[58]⟩ : ByteArray)) ++ t223) ++ (⟨#[32, 71, 77, 84]⟩ : ByteArray), 0)) else (none)) else (none))) else (none)) else (none))) else (none)) else (none))) else (none)) else (none)) = some (r1, r2) := H
 have A33 := mkA A330
 clear A330
 by_cases c34 : (((((t217 ++ (⟨#[44, 32]⟩ : ByteArray)) ++ t218) ++ (⟨#[32]⟩ : ByteArray)) ++ t219) ++ (⟨#[32]⟩ : ByteArray)).size + t220.size ≤ 9223372036854775807
 rotate_left
 ·rw [if_neg c34] at H
  exact absurd H (by simp)
 rw [if_pos c34] at H
 have c34b0 := eq_true c34
 have c34b1 : decide ((((((t217 ++ (⟨#[44, 32]⟩ : ByteArray)) ++ t218) ++ (⟨#[32]⟩ : ByteArray)) ++ t219) ++ (⟨#[32]⟩ : ByteArray)).size + t220.size ≤ 9223372036854775807) = true := decide_eq_true c34
 try have c34b2 : (9223372036854775807 < (((((t217 ++ (⟨#[44, 32]⟩ : ByteArray)) ++ t218) ++ (⟨#[32]⟩ : ByteArray)) ++ t219) ++ (⟨#[32]⟩ : ByteArray)).size + t220.size) = False := eq_false (Nat.not_lt.2 c34)
 have c34z : (9223372036854775807 < t217.size + 2 + t218.size + 1 + t219.size + 1 + t220.size) = False := eq_false (Nat.not_lt.2 (by have h8 := c34; (try simp only [ByteArray.size_append] at h8); exact h8))
 by_cases c35 : ((((((t217 ++ (⟨#[44, 32]⟩ : ByteArray)) ++ t218) ++ (⟨#[32]⟩ : ByteArray)) ++ t219) ++ (⟨#[32]⟩ : ByteArray)) ++ t220).size + 1 ≤ 9223372036854775807
 rotate_left
 ·rw [if_neg c35] at H
  exact absurd H (by simp)
 rw [if_pos c35] at H
 have c35b0 := eq_true c35
 have c35b1 : decide (((((((t217 ++ (⟨#[44, 32]⟩ : ByteArray)) ++ t218) ++ (⟨#[32]⟩ : ByteArray)) ++ t219) ++ (⟨#[32]⟩ : ByteArray)) ++ t220).size + 1 ≤ 9223372036854775807) = true := decide_eq_true c35
 try have c35b2 : (9223372036854775807 < ((((((t217 ++ (⟨#[44, 32]⟩ : ByteArray)) ++ t218) ++ (⟨#[32]⟩ : ByteArray)) ++ t219) ++ (⟨#[32]⟩ : ByteArray)) ++ t220).size + 1) = False := eq_false (Nat.not_lt.2 c35)
 have c35z : (9223372036854775807 < t217.size + 2 + t218.size + 1 + t219.size + 1 + t220.size + 1) = False := eq_false (Nat.not_lt.2 (by have h8 := c35; (try simp only [ByteArray.size_append] at h8); exact h8))
 replace H := Option.bind_eq_some_iff.mp H
 obtain ⟨t221, A360, H⟩ := H
 replace H : (if (((((((t217 ++ (⟨#[44, 32]⟩ : ByteArray)) ++ t218) ++ (⟨#[32]⟩ : ByteArray)) ++ t219) ++ (⟨#[32]⟩ : ByteArray)) ++ t220) ++ (⟨#[32]⟩ : ByteArray)).size + t221.size ≤ 9223372036854775807 then (if ((((((((t217 ++ (⟨#[44, 32]⟩ : ByteArray)) ++ t218) ++ (⟨#[32]⟩ : ByteArray)) ++ t219) ++ (⟨#[32]⟩ : ByteArray)) ++ t220) ++ (⟨#[32]⟩ : ByteArray)) ++ t221).size + 1 ≤ 9223372036854775807 then ((stamp_two.f (Int.tmod (wrap64 (Int.tdiv (Int.tmod a0 86400) 60)) 60)).bind fun t222 => (if (((((((((t217 ++ (⟨#[44, 32]⟩ : ByteArray)) ++ t218) ++ (⟨#[32]⟩ : ByteArray)) ++ t219) ++ (⟨#[32]⟩ : ByteArray)) ++ t220) ++ (⟨#[32]⟩ : ByteArray)) ++ t221) ++ (⟨#[58]⟩ : ByteArray)).size + t222.size ≤ 9223372036854775807 then (if ((((((((((t217 ++ (⟨#[44, 32]⟩ : ByteArray)) ++ t218) ++ (⟨#[32]⟩ : ByteArray)) ++ t219) ++ (⟨#[32]⟩ : ByteArray)) ++ t220) ++ (⟨#[32]⟩ : ByteArray)) ++ t221) ++ (⟨#[58]⟩ : ByteArray)) ++ t222).size + 1 ≤ 9223372036854775807 then ((stamp_two.f (Int.tmod (Int.tmod a0 86400) 60)).bind fun t223 => (if (((((((((((t217 ++ (⟨#[44, 32]⟩ : ByteArray)) ++ t218) ++ (⟨#[32]⟩ : ByteArray)) ++ t219) ++ (⟨#[32]⟩ : ByteArray)) ++ t220) ++ (⟨#[32]⟩ : ByteArray)) ++ t221) ++ (⟨#[58]⟩ : ByteArray)) ++ t222) ++ (⟨#[58]⟩ : ByteArray)).size + t223.size ≤ 9223372036854775807 then (if ((((((((((((t217 ++ (⟨#[44, 32]⟩ : ByteArray)) ++ t218) ++ (⟨#[32]⟩ : ByteArray)) ++ t219) ++ (⟨#[32]⟩ : ByteArray)) ++ t220) ++ (⟨#[32]⟩ : ByteArray)) ++ t221) ++ (⟨#[58]⟩ : ByteArray)) ++ t222) ++ (⟨#[58]⟩ : ByteArray)) ++ t223).size + 4 ≤ 9223372036854775807 then (some (((((((((((((t217 ++ (⟨#[44, 32]⟩ : ByteArray)) ++ t218) ++ (⟨#[32]⟩ : ByteArray)) ++ t219) ++ (⟨#[32]⟩ : ByteArray)) ++ t220) ++ (⟨#[32]⟩ : ByteArray)) ++ t221) ++ (⟨#[58]⟩ : ByteArray)) ++ t222) ++ (⟨#[58]⟩ : ByteArray)) ++ t223) ++ (⟨#[32, 71, 77, 84]⟩ : ByteArray), 0)) else (none)) else (none))) else (none)) else (none))) else (none)) else (none)) = some (r1, r2) := H
 have A36 := mkA A360
 clear A360
 by_cases c37 : (((((((t217 ++ (⟨#[44, 32]⟩ : ByteArray)) ++ t218) ++ (⟨#[32]⟩ : ByteArray)) ++ t219) ++ (⟨#[32]⟩ : ByteArray)) ++ t220) ++ (⟨#[32]⟩ : ByteArray)).size + t221.size ≤ 9223372036854775807
 rotate_left
 ·rw [if_neg c37] at H
  exact absurd H (by simp)
 rw [if_pos c37] at H
 have c37b0 := eq_true c37
 have c37b1 : decide ((((((((t217 ++ (⟨#[44, 32]⟩ : ByteArray)) ++ t218) ++ (⟨#[32]⟩ : ByteArray)) ++ t219) ++ (⟨#[32]⟩ : ByteArray)) ++ t220) ++ (⟨#[32]⟩ : ByteArray)).size + t221.size ≤ 9223372036854775807) = true := decide_eq_true c37
 try have c37b2 : (9223372036854775807 < (((((((t217 ++ (⟨#[44, 32]⟩ : ByteArray)) ++ t218) ++ (⟨#[32]⟩ : ByteArray)) ++ t219) ++ (⟨#[32]⟩ : ByteArray)) ++ t220) ++ (⟨#[32]⟩ : ByteArray)).size + t221.size) = False := eq_false (Nat.not_lt.2 c37)
 have c37z : (9223372036854775807 < t217.size + 2 + t218.size + 1 + t219.size + 1 + t220.size + 1 + t221.size) = False := eq_false (Nat.not_lt.2 (by have h8 := c37; (try simp only [ByteArray.size_append] at h8); exact h8))
 by_cases c38 : ((((((((t217 ++ (⟨#[44, 32]⟩ : ByteArray)) ++ t218) ++ (⟨#[32]⟩ : ByteArray)) ++ t219) ++ (⟨#[32]⟩ : ByteArray)) ++ t220) ++ (⟨#[32]⟩ : ByteArray)) ++ t221).size + 1 ≤ 9223372036854775807
 rotate_left
 ·rw [if_neg c38] at H
  exact absurd H (by simp)
 rw [if_pos c38] at H
 have c38b0 := eq_true c38
 have c38b1 : decide (((((((((t217 ++ (⟨#[44, 32]⟩ : ByteArray)) ++ t218) ++ (⟨#[32]⟩ : ByteArray)) ++ t219) ++ (⟨#[32]⟩ : ByteArray)) ++ t220) ++ (⟨#[32]⟩ : ByteArray)) ++ t221).size + 1 ≤ 9223372036854775807) = true := decide_eq_true c38
 try have c38b2 : (9223372036854775807 < ((((((((t217 ++ (⟨#[44, 32]⟩ : ByteArray)) ++ t218) ++ (⟨#[32]⟩ : ByteArray)) ++ t219) ++ (⟨#[32]⟩ : ByteArray)) ++ t220) ++ (⟨#[32]⟩ : ByteArray)) ++ t221).size + 1) = False := eq_false (Nat.not_lt.2 c38)
 have c38z : (9223372036854775807 < t217.size + 2 + t218.size + 1 + t219.size + 1 + t220.size + 1 + t221.size + 1) = False := eq_false (Nat.not_lt.2 (by have h8 := c38; (try simp only [ByteArray.size_append] at h8); exact h8))
 replace H := Option.bind_eq_some_iff.mp H
 obtain ⟨t222, A390, H⟩ := H
 replace H : (if (((((((((t217 ++ (⟨#[44, 32]⟩ : ByteArray)) ++ t218) ++ (⟨#[32]⟩ : ByteArray)) ++ t219) ++ (⟨#[32]⟩ : ByteArray)) ++ t220) ++ (⟨#[32]⟩ : ByteArray)) ++ t221) ++ (⟨#[58]⟩ : ByteArray)).size + t222.size ≤ 9223372036854775807 then (if ((((((((((t217 ++ (⟨#[44, 32]⟩ : ByteArray)) ++ t218) ++ (⟨#[32]⟩ : ByteArray)) ++ t219) ++ (⟨#[32]⟩ : ByteArray)) ++ t220) ++ (⟨#[32]⟩ : ByteArray)) ++ t221) ++ (⟨#[58]⟩ : ByteArray)) ++ t222).size + 1 ≤ 9223372036854775807 then ((stamp_two.f (Int.tmod (Int.tmod a0 86400) 60)).bind fun t223 => (if (((((((((((t217 ++ (⟨#[44, 32]⟩ : ByteArray)) ++ t218) ++ (⟨#[32]⟩ : ByteArray)) ++ t219) ++ (⟨#[32]⟩ : ByteArray)) ++ t220) ++ (⟨#[32]⟩ : ByteArray)) ++ t221) ++ (⟨#[58]⟩ : ByteArray)) ++ t222) ++ (⟨#[58]⟩ : ByteArray)).size + t223.size ≤ 9223372036854775807 then (if ((((((((((((t217 ++ (⟨#[44, 32]⟩ : ByteArray)) ++ t218) ++ (⟨#[32]⟩ : ByteArray)) ++ t219) ++ (⟨#[32]⟩ : ByteArray)) ++ t220) ++ (⟨#[32]⟩ : ByteArray)) ++ t221) ++ (⟨#[58]⟩ : ByteArray)) ++ t222) ++ (⟨#[58]⟩ : ByteArray)) ++ t223).size + 4 ≤ 9223372036854775807 then (some (((((((((((((t217 ++ (⟨#[44, 32]⟩ : ByteArray)) ++ t218) ++ (⟨#[32]⟩ : ByteArray)) ++ t219) ++ (⟨#[32]⟩ : ByteArray)) ++ t220) ++ (⟨#[32]⟩ : ByteArray)) ++ t221) ++ (⟨#[58]⟩ : ByteArray)) ++ t222) ++ (⟨#[58]⟩ : ByteArray)) ++ t223) ++ (⟨#[32, 71, 77, 84]⟩ : ByteArray), 0)) else (none)) else (none))) else (none)) else (none)) = some (r1, r2) := H
 have A39 := mkA A390
 clear A390
 by_cases c40 : (((((((((t217 ++ (⟨#[44, 32]⟩ : ByteArray)) ++ t218) ++ (⟨#[32]⟩ : ByteArray)) ++ t219) ++ (⟨#[32]⟩ : ByteArray)) ++ t220) ++ (⟨#[32]⟩ : ByteArray)) ++ t221) ++ (⟨#[58]⟩ : ByteArray)).size + t222.size ≤ 9223372036854775807
 rotate_left
 ·rw [if_neg c40] at H
  exact absurd H (by simp)
 rw [if_pos c40] at H
 have c40b0 := eq_true c40
 have c40b1 : decide ((((((((((t217 ++ (⟨#[44, 32]⟩ : ByteArray)) ++ t218) ++ (⟨#[32]⟩ : ByteArray)) ++ t219) ++ (⟨#[32]⟩ : ByteArray)) ++ t220) ++ (⟨#[32]⟩ : ByteArray)) ++ t221) ++ (⟨#[58]⟩ : ByteArray)).size + t222.size ≤ 9223372036854775807) = true := decide_eq_true c40
 try have c40b2 : (9223372036854775807 < (((((((((t217 ++ (⟨#[44, 32]⟩ : ByteArray)) ++ t218) ++ (⟨#[32]⟩ : ByteArray)) ++ t219) ++ (⟨#[32]⟩ : ByteArray)) ++ t220) ++ (⟨#[32]⟩ : ByteArray)) ++ t221) ++ (⟨#[58]⟩ : ByteArray)).size + t222.size) = False := eq_false (Nat.not_lt.2 c40)
 have c40z : (9223372036854775807 < t217.size + 2 + t218.size + 1 + t219.size + 1 + t220.size + 1 + t221.size + 1 + t222.size) = False := eq_false (Nat.not_lt.2 (by have h8 := c40; (try simp only [ByteArray.size_append] at h8); exact h8))
 by_cases c41 : ((((((((((t217 ++ (⟨#[44, 32]⟩ : ByteArray)) ++ t218) ++ (⟨#[32]⟩ : ByteArray)) ++ t219) ++ (⟨#[32]⟩ : ByteArray)) ++ t220) ++ (⟨#[32]⟩ : ByteArray)) ++ t221) ++ (⟨#[58]⟩ : ByteArray)) ++ t222).size + 1 ≤ 9223372036854775807
 rotate_left
 ·rw [if_neg c41] at H
  exact absurd H (by simp)
 rw [if_pos c41] at H
 have c41b0 := eq_true c41
 have c41b1 : decide (((((((((((t217 ++ (⟨#[44, 32]⟩ : ByteArray)) ++ t218) ++ (⟨#[32]⟩ : ByteArray)) ++ t219) ++ (⟨#[32]⟩ : ByteArray)) ++ t220) ++ (⟨#[32]⟩ : ByteArray)) ++ t221) ++ (⟨#[58]⟩ : ByteArray)) ++ t222).size + 1 ≤ 9223372036854775807) = true := decide_eq_true c41
 try have c41b2 : (9223372036854775807 < ((((((((((t217 ++ (⟨#[44, 32]⟩ : ByteArray)) ++ t218) ++ (⟨#[32]⟩ : ByteArray)) ++ t219) ++ (⟨#[32]⟩ : ByteArray)) ++ t220) ++ (⟨#[32]⟩ : ByteArray)) ++ t221) ++ (⟨#[58]⟩ : ByteArray)) ++ t222).size + 1) = False := eq_false (Nat.not_lt.2 c41)
 have c41z : (9223372036854775807 < t217.size + 2 + t218.size + 1 + t219.size + 1 + t220.size + 1 + t221.size + 1 + t222.size + 1) = False := eq_false (Nat.not_lt.2 (by have h8 := c41; (try simp only [ByteArray.size_append] at h8); exact h8))
 replace H := Option.bind_eq_some_iff.mp H
 obtain ⟨t223, A420, H⟩ := H
 replace H : (if (((((((((((t217 ++ (⟨#[44, 32]⟩ : ByteArray)) ++ t218) ++ (⟨#[32]⟩ : ByteArray)) ++ t219) ++ (⟨#[32]⟩ : ByteArray)) ++ t220) ++ (⟨#[32]⟩ : ByteArray)) ++ t221) ++ (⟨#[58]⟩ : ByteArray)) ++ t222) ++ (⟨#[58]⟩ : ByteArray)).size + t223.size ≤ 9223372036854775807 then (if ((((((((((((t217 ++ (⟨#[44, 32]⟩ : ByteArray)) ++ t218) ++ (⟨#[32]⟩ : ByteArray)) ++ t219) ++ (⟨#[32]⟩ : ByteArray)) ++ t220) ++ (⟨#[32]⟩ : ByteArray)) ++ t221) ++ (⟨#[58]⟩ : ByteArray)) ++ t222) ++ (⟨#[58]⟩ : ByteArray)) ++ t223).size + 4 ≤ 9223372036854775807 then (some (((((((((((((t217 ++ (⟨#[44, 32]⟩ : ByteArray)) ++ t218) ++ (⟨#[32]⟩ : ByteArray)) ++ t219) ++ (⟨#[32]⟩ : ByteArray)) ++ t220) ++ (⟨#[32]⟩ : ByteArray)) ++ t221) ++ (⟨#[58]⟩ : ByteArray)) ++ t222) ++ (⟨#[58]⟩ : ByteArray)) ++ t223) ++ (⟨#[32, 71, 77, 84]⟩ : ByteArray), 0)) else (none)) else (none)) = some (r1, r2) := H
 rw [show Int.tmod (Int.tmod a0 86400) 60 = Int.tmod a0 60 from by simp] at A420
 have A42 := mkA A420
 clear A420
 by_cases c43 : (((((((((((t217 ++ (⟨#[44, 32]⟩ : ByteArray)) ++ t218) ++ (⟨#[32]⟩ : ByteArray)) ++ t219) ++ (⟨#[32]⟩ : ByteArray)) ++ t220) ++ (⟨#[32]⟩ : ByteArray)) ++ t221) ++ (⟨#[58]⟩ : ByteArray)) ++ t222) ++ (⟨#[58]⟩ : ByteArray)).size + t223.size ≤ 9223372036854775807
 rotate_left
 ·rw [if_neg c43] at H
  exact absurd H (by simp)
 rw [if_pos c43] at H
 have c43b0 := eq_true c43
 have c43b1 : decide ((((((((((((t217 ++ (⟨#[44, 32]⟩ : ByteArray)) ++ t218) ++ (⟨#[32]⟩ : ByteArray)) ++ t219) ++ (⟨#[32]⟩ : ByteArray)) ++ t220) ++ (⟨#[32]⟩ : ByteArray)) ++ t221) ++ (⟨#[58]⟩ : ByteArray)) ++ t222) ++ (⟨#[58]⟩ : ByteArray)).size + t223.size ≤ 9223372036854775807) = true := decide_eq_true c43
 try have c43b2 : (9223372036854775807 < (((((((((((t217 ++ (⟨#[44, 32]⟩ : ByteArray)) ++ t218) ++ (⟨#[32]⟩ : ByteArray)) ++ t219) ++ (⟨#[32]⟩ : ByteArray)) ++ t220) ++ (⟨#[32]⟩ : ByteArray)) ++ t221) ++ (⟨#[58]⟩ : ByteArray)) ++ t222) ++ (⟨#[58]⟩ : ByteArray)).size + t223.size) = False := eq_false (Nat.not_lt.2 c43)
 have c43z : (9223372036854775807 < t217.size + 2 + t218.size + 1 + t219.size + 1 + t220.size + 1 + t221.size + 1 + t222.size + 1 + t223.size) = False := eq_false (Nat.not_lt.2 (by have h8 := c43; (try simp only [ByteArray.size_append] at h8); exact h8))
 by_cases c44 : ((((((((((((t217 ++ (⟨#[44, 32]⟩ : ByteArray)) ++ t218) ++ (⟨#[32]⟩ : ByteArray)) ++ t219) ++ (⟨#[32]⟩ : ByteArray)) ++ t220) ++ (⟨#[32]⟩ : ByteArray)) ++ t221) ++ (⟨#[58]⟩ : ByteArray)) ++ t222) ++ (⟨#[58]⟩ : ByteArray)) ++ t223).size + 4 ≤ 9223372036854775807
 rotate_left
 ·rw [if_neg c44] at H
  exact absurd H (by simp)
 rw [if_pos c44] at H
 have c44b0 := eq_true c44
 have c44b1 : decide (((((((((((((t217 ++ (⟨#[44, 32]⟩ : ByteArray)) ++ t218) ++ (⟨#[32]⟩ : ByteArray)) ++ t219) ++ (⟨#[32]⟩ : ByteArray)) ++ t220) ++ (⟨#[32]⟩ : ByteArray)) ++ t221) ++ (⟨#[58]⟩ : ByteArray)) ++ t222) ++ (⟨#[58]⟩ : ByteArray)) ++ t223).size + 4 ≤ 9223372036854775807) = true := decide_eq_true c44
 try have c44b2 : (9223372036854775807 < ((((((((((((t217 ++ (⟨#[44, 32]⟩ : ByteArray)) ++ t218) ++ (⟨#[32]⟩ : ByteArray)) ++ t219) ++ (⟨#[32]⟩ : ByteArray)) ++ t220) ++ (⟨#[32]⟩ : ByteArray)) ++ t221) ++ (⟨#[58]⟩ : ByteArray)) ++ t222) ++ (⟨#[58]⟩ : ByteArray)) ++ t223).size + 4) = False := eq_false (Nat.not_lt.2 c44)
 have c44z : (9223372036854775807 < t217.size + 2 + t218.size + 1 + t219.size + 1 + t220.size + 1 + t221.size + 1 + t222.size + 1 + t223.size + 4) = False := eq_false (Nat.not_lt.2 (by have h8 := c44; (try simp only [ByteArray.size_append] at h8); exact h8))
 simp only [Option.some.injEq, Prod.mk.injEq] at H
 obtain ⟨rfl, rfl⟩ := H
 as_aux_lemma =>
  try go_wp2
  have n0_ := mkA (blk_drew BK214.out)
  have n1_ := mkA (below_drew1 HB.out)
  clear BK214 HB
  have BK214 := n0_
  have HB := n1_
  clear n0_ n1_
  refine start_ (n := 38) (S := fun w' => w'.cell? ⟨gb214, 0, none⟩ = some (.int .i64 x215000_2) ∧ w'.cell? ⟨gb214, 1, none⟩ = some (.int .i64 x215001_2) ∧ w'.cell? ⟨gb214, 2, none⟩ = some (.int .i64 x215002_2)) (ds := []) #[false, false, false, false, false, false, false, false, false, false, false, false, false, false, false, false, false, false, false, false, false, false, false, false, false, false, false, false, false, false, false, false, false, false, false, false, false, false] (by kernel_rfl) rfl rfl ⟨(blk_cell BK214.out 0).trans rfl, (blk_cell BK214.out 1).trans rfl, (blk_cell BK214.out 2).trans rfl⟩ (fun hHeld => ?_); refine with_tabW stamp_Put.tab10 stamp_Put.bits10 (fun HT_ HW_ => ?_)
  generalize w14.drew = w47 at BK214 HB hHeld ⊢
  refine pu 0 51 HT_ ?_
  refine pu 1 52 HT_ ?_
  refine pu 4 55 HT_ ?_
  refine pu 9 60 HT_ ?_
  refine pu 15 66 HT_ ?_
  refine pu 20 71 HT_ ?_
  refine pu 21 72 HT_ ?_
  refine pu 25 76 HT_ ?_
  refine pu 26 77 HT_ ?_
  refine pu 27 78 HT_ ?_
  refine pu 31 82 HT_ ?_
  refine pu 32 83 HT_ ?_
  refine tk 5 56 HT_ HW_ hHeld ?_
  refine tk 10 61 HT_ HW_ hHeld ?_
  refine pu 11 62 HT_ ?_
  refine tk 16 67 HT_ HW_ hHeld ?_
  refine one_ (i := 2) (N := some 53) #[true, true, true, false, true, true, false, false, false, true, true, true, false, false, false, true, true, false, false, false, true, true, false, false, false, true, true, true, false, false, false, true, true, false, false, false, false, false] rfl rfl (one_of HT_.out (by kernel_rfl)) (by decide) (fun K hK => ?_)
  refine goes_ Tryd.func21 (by kernel_rfl) rfl #[.string (⟨#[116, 104, 117, 32, 102, 114, 105, 32, 115, 97, 116, 32, 115, 117, 110, 32, 109, 111, 110, 32, 116, 117, 101, 32, 119, 101, 100, 32]⟩ : ByteArray), .int .i64 (Int.tmod (wrap64 (Int.tdiv a0 86400)) 7)] (by rfl) rfl rfl ca ?_
  with_reducible refine (stamp_name.calls (⟨#[116, 104, 117, 32, 102, 114, 105, 32, 115, 97, 116, 32, 115, 117, 110, 32, 109, 111, 110, 32, 116, 117, 101, 32, 119, 101, 100, 32]⟩ : ByteArray) (Int.tmod (wrap64 (Int.tdiv a0 86400)) 7) t217 _ A25.out).mono ?_
  rintro e w48 ⟨rfl, hb⟩
  have hbk_w48 := mkA hb
  refine ⟨_, rfl, ?_⟩
  have n0_ := mkA (blk_below (blk_y BK214.out) hb)
  have n1_ := mkA (below_step (below_y HB.out) hb)
  clear BK214 HB
  have BK214 := n0_
  have HB := n1_
  clear n0_ n1_
  (try clear hb)
  (try clear hb2)
  (try clear hk)
  (try clear hi)
  refine hK.out _ _ ⟨(blk_cell BK214.out 0).trans rfl, (blk_cell BK214.out 1).trans rfl, (blk_cell BK214.out 2).trans rfl⟩ (fun hHeld => ?_)
  clear hK K
  refine norm_ (a' := ?_) ?_ ?_
  rotate_left
  ·show Act.put _ (some 53) _ = _
   simp only [Act.put, sA, s0, sS, i64_w, i32_w]
   rfl
  refine pu 3 54 HT_ ?_
  refine one_ (i := 6) (N := some 57) #[true, true, true, true, true, true, true, false, false, true, true, true, false, false, false, true, true, false, false, false, true, true, false, false, false, true, true, true, false, false, false, true, true, false, false, false, false, false] rfl rfl (one_of HT_.out (by kernel_rfl)) (by decide) (fun K hK => ?_)
  refine goes_ Tryd.func22 (by kernel_rfl) rfl #[.int .i64 x215000_2] (by rfl) rfl rfl ca ?_
  with_reducible refine (stamp_two.calls x215000_2 t218 _ A27.out).mono ?_
  rintro e w49 ⟨rfl, hb⟩
  have hbk_w49 := mkA hb
  refine ⟨_, rfl, ?_⟩
  have n0_ := mkA (blk_below (blk_y BK214.out) hb)
  have n1_ := mkA (below_step (below_y HB.out) hb)
  clear BK214 HB
  have BK214 := n0_
  have HB := n1_
  clear n0_ n1_
  (try clear hb)
  (try clear hb2)
  (try clear hk)
  (try clear hi)
  refine hK.out _ _ ⟨(blk_cell BK214.out 0).trans rfl, (blk_cell BK214.out 1).trans rfl, (blk_cell BK214.out 2).trans rfl⟩ (fun hHeld => ?_)
  clear hK K
  refine norm_ (a' := ?_) ?_ ?_
  rotate_left
  ·show Act.put _ (some 57) _ = _
   simp only [Act.put, sA, s0, sS, i64_w, i32_w]
   rfl
  refine pu 7 58 HT_ ?_
  refine pu 8 59 HT_ ?_
  refine one_ (i := 12) (N := some 63) #[true, true, true, true, true, true, true, true, true, true, true, true, true, false, false, true, true, false, false, false, true, true, false, false, false, true, true, true, false, false, false, true, true, false, false, false, false, false] rfl rfl (one_of HT_.out (by kernel_rfl)) (by decide) (fun K hK => ?_)
  refine goes_ Tryd.func21 (by kernel_rfl) rfl #[.string (⟨#[106, 97, 110, 32, 102, 101, 98, 32, 109, 97, 114, 32, 97, 112, 114, 32, 109, 97, 121, 32, 106, 117, 110, 32, 106, 117, 108, 32, 97, 117, 103, 32, 115, 101, 112, 32, 111, 99, 116, 32, 110, 111, 118, 32, 100, 101, 99, 32]⟩ : ByteArray), .int .i64 (wrap64 (x215001_2 - 1))] (by rfl) rfl rfl ca ?_
  with_reducible refine (stamp_name.calls (⟨#[106, 97, 110, 32, 102, 101, 98, 32, 109, 97, 114, 32, 97, 112, 114, 32, 109, 97, 121, 32, 106, 117, 110, 32, 106, 117, 108, 32, 97, 117, 103, 32, 115, 101, 112, 32, 111, 99, 116, 32, 110, 111, 118, 32, 100, 101, 99, 32]⟩ : ByteArray) (wrap64 (x215001_2 - 1)) t219 _ A30.out).mono ?_
  rintro e w50 ⟨rfl, hb⟩
  have hbk_w50 := mkA hb
  refine ⟨_, rfl, ?_⟩
  have n0_ := mkA (blk_below (blk_y BK214.out) hb)
  have n1_ := mkA (below_step (below_y HB.out) hb)
  clear BK214 HB
  have BK214 := n0_
  have HB := n1_
  clear n0_ n1_
  (try clear hb)
  (try clear hb2)
  (try clear hk)
  (try clear hi)
  refine hK.out _ _ ⟨(blk_cell BK214.out 0).trans rfl, (blk_cell BK214.out 1).trans rfl, (blk_cell BK214.out 2).trans rfl⟩ (fun hHeld => ?_)
  clear hK K
  refine norm_ (a' := ?_) ?_ ?_
  rotate_left
  ·show Act.put _ (some 63) _ = _
   simp only [Act.put, sA, s0, sS, i64_w, i32_w]
   rfl
  refine pu 13 64 HT_ ?_
  refine pu 14 65 HT_ ?_
  refine one_ (i := 17) (N := some 68) #[true, true, true, true, true, true, true, true, true, true, true, true, true, true, true, true, true, true, false, false, true, true, false, false, false, true, true, true, false, false, false, true, true, false, false, false, false, false] rfl rfl (one_of HT_.out (by kernel_rfl)) (by decide) (fun K hK => ?_)
  refine goes_ Tryd.func23 (by kernel_rfl) rfl #[.int .i64 x215002_2] (by rfl) rfl rfl ca ?_
  with_reducible refine (num_Put.calls x215002_2 t220 _ A33.out).mono ?_
  rintro e w51 ⟨rfl, hb⟩
  have hbk_w51 := mkA hb
  refine ⟨_, rfl, ?_⟩
  have n0_ := mkA (blk_below (blk_y BK214.out) hb)
  have n1_ := mkA (below_step (below_y HB.out) hb)
  clear BK214 HB
  have BK214 := n0_
  have HB := n1_
  clear n0_ n1_
  (try clear hb)
  (try clear hb2)
  (try clear hk)
  (try clear hi)
  refine hK.out _ _ ⟨(blk_cell BK214.out 0).trans rfl, (blk_cell BK214.out 1).trans rfl, (blk_cell BK214.out 2).trans rfl⟩ (fun hHeld => ?_)
  clear hK K
  refine norm_ (a' := ?_) ?_ ?_
  rotate_left
  ·show Act.put _ (some 68) _ = _
   simp only [Act.put, sA, s0, sS, i64_w, i32_w]
   rfl
  refine pu 18 69 HT_ ?_
  refine pu 19 70 HT_ ?_
  refine one_ (i := 22) (N := some 73) #[true, true, true, true, true, true, true, true, true, true, true, true, true, true, true, true, true, true, true, true, true, true, true, false, false, true, true, true, false, false, false, true, true, false, false, false, false, false] rfl rfl (one_of HT_.out (by kernel_rfl)) (by decide) (fun K hK => ?_)
  refine goes_ Tryd.func22 (by kernel_rfl) rfl #[.int .i64 (wrap64 (Int.tdiv (Int.tmod a0 86400) 3600))] (by rfl) rfl rfl ca ?_
  with_reducible refine (stamp_two.calls (wrap64 (Int.tdiv (Int.tmod a0 86400) 3600)) t221 _ A36.out).mono ?_
  rintro e w52 ⟨rfl, hb⟩
  have hbk_w52 := mkA hb
  refine ⟨_, rfl, ?_⟩
  have n0_ := mkA (blk_below (blk_y BK214.out) hb)
  have n1_ := mkA (below_step (below_y HB.out) hb)
  clear BK214 HB
  have BK214 := n0_
  have HB := n1_
  clear n0_ n1_
  (try clear hb)
  (try clear hb2)
  (try clear hk)
  (try clear hi)
  refine hK.out _ _ ⟨(blk_cell BK214.out 0).trans rfl, (blk_cell BK214.out 1).trans rfl, (blk_cell BK214.out 2).trans rfl⟩ (fun hHeld => ?_)
  clear hK K
  refine norm_ (a' := ?_) ?_ ?_
  rotate_left
  ·show Act.put _ (some 73) _ = _
   simp only [Act.put, sA, s0, sS, i64_w, i32_w]
   rfl
  refine pu 23 74 HT_ ?_
  refine pu 24 75 HT_ ?_
  refine one_ (i := 28) (N := some 79) #[true, true, true, true, true, true, true, true, true, true, true, true, true, true, true, true, true, true, true, true, true, true, true, true, true, true, true, true, true, false, false, true, true, false, false, false, false, false] rfl rfl (one_of HT_.out (by kernel_rfl)) (by decide) (fun K hK => ?_)
  refine goes_ Tryd.func22 (by kernel_rfl) rfl #[.int .i64 (Int.tmod (wrap64 (Int.tdiv (Int.tmod a0 86400) 60)) 60)] (by rfl) rfl rfl ca ?_
  with_reducible refine (stamp_two.calls (Int.tmod (wrap64 (Int.tdiv (Int.tmod a0 86400) 60)) 60) t222 _ A39.out).mono ?_
  rintro e w53 ⟨rfl, hb⟩
  have hbk_w53 := mkA hb
  refine ⟨_, rfl, ?_⟩
  have n0_ := mkA (blk_below (blk_y BK214.out) hb)
  have n1_ := mkA (below_step (below_y HB.out) hb)
  clear BK214 HB
  have BK214 := n0_
  have HB := n1_
  clear n0_ n1_
  (try clear hb)
  (try clear hb2)
  (try clear hk)
  (try clear hi)
  refine hK.out _ _ ⟨(blk_cell BK214.out 0).trans rfl, (blk_cell BK214.out 1).trans rfl, (blk_cell BK214.out 2).trans rfl⟩ (fun hHeld => ?_)
  clear hK K
  refine norm_ (a' := ?_) ?_ ?_
  rotate_left
  ·show Act.put _ (some 79) _ = _
   simp only [Act.put, sA, s0, sS, i64_w, i32_w]
   rfl
  refine pu 29 80 HT_ ?_
  refine pu 30 81 HT_ ?_
  refine one_ (i := 33) (N := some 84) #[true, true, true, true, true, true, true, true, true, true, true, true, true, true, true, true, true, true, true, true, true, true, true, true, true, true, true, true, true, true, true, true, true, true, false, false, false, false] rfl rfl (one_of HT_.out (by kernel_rfl)) (by decide) (fun K hK => ?_)
  refine goes_ Tryd.func22 (by kernel_rfl) rfl #[.int .i64 (Int.tmod a0 60)] (by rfl) rfl rfl ca ?_
  with_reducible refine (stamp_two.calls (Int.tmod a0 60) t223 _ A42.out).mono ?_
  rintro e w54 ⟨rfl, hb⟩
  have hbk_w54 := mkA hb
  refine ⟨_, rfl, ?_⟩
  have n0_ := mkA (blk_below (blk_y BK214.out) hb)
  have n1_ := mkA (below_step (below_y HB.out) hb)
  clear BK214 HB
  have BK214 := n0_
  have HB := n1_
  clear n0_ n1_
  (try clear hb)
  (try clear hb2)
  (try clear hk)
  (try clear hi)
  refine hK.out _ _ ⟨(blk_cell BK214.out 0).trans rfl, (blk_cell BK214.out 1).trans rfl, (blk_cell BK214.out 2).trans rfl⟩ (fun hHeld => ?_)
  clear hK K
  refine norm_ (a' := ?_) ?_ ?_
  rotate_left
  ·show Act.put _ (some 84) _ = _
   simp only [Act.put, sA, s0, sS, i64_w, i32_w]
   rfl
  refine pu 34 85 HT_ ?_
  refine pu 35 86 HT_ ?_
  refine pu 36 2 HT_ ?_
  refine pu 37 3 HT_ ?_
  refine done_ (done_of HT_.out (by kernel_rfl)) ?_
  try go_wp2
  go_ret2
  exact ⟨by first | rfl | (simp [errW_none, errW_some] <;> rfl) | (simp [*, errW_none, errW_some] <;> rfl), by repeat (first | (with_reducible first | exact HB.out | apply below_alloc | apply pw_below_drewN | apply below_drew1 | refine below_set ?_ GE214.out) | exact HB.out)⟩

end Go.Proofs.YtghdkpcpgpfgcaaDoor.XStb
