-- By a program of this work (xprint.py) over the translation; Lean checks it.
import Derived.Test.YtcpojadlnpnbaaaXRetx0
import Derived.Test.YtcpojadlnpnbaaaXRetx3
import Derived.Test.YtcpojadlnpnbaaaXRetx4
namespace Go.Proofs.Ytcpojadlnpnbaaa.XRet
open Go.RowKit Go.Proofs.YtcpojadlnpnbaaaW.PrintWords Go.Proofs.YtcpojadlnpnbaaaW.PrintLast Go.Proofs.YtcpojadlnpnbaaaW.PrintMore
attribute [local go_sem] max2_int min2_int max_two min_two max_three min_three max_four min_four   -- for this text's walks alone
set_option linter.unusedVariables false
set_option linter.unusedSimpArgs false

/-! ### newsreelref15_Light: function 5 -/
mutual
def newsreelref15_Light.j0 : Nat → Bool → Int → Int → Int → Int → List (S43) → List (S29) → Option (Bool)
 | 0, _, _, _, _, _, _, _ => none
 | k + 1, x14, x104000, x104001, x104002, x104003, x104004, x104005 => if x14 = true then (some false) else (newsreelref15_Light.l0 k 0 x104000 x104001 x104002 x104003 x104004 x104005)
def newsreelref15_Light.l0 : Nat → Int → Int → Int → Int → Int → List (S43) → List (S29) → Option (Bool)
 | 0, _, _, _, _, _, _, _ => none
 | k + 1, x3, x104000, x104001, x104002, x104003, x104004, x104005 => if x3 < (x104004.length : Int) then (if 0 ≤ x3 then ((newsreelref14_Short.f ((rd_T43 x104004 x3).f0) ((rd_T43 x104004 x3).f1) ((rd_T43 x104004 x3).f2) ((rd_T43 x104004 x3).f3) ((rd_T43 x104004 x3).f4)).bind fun t105 => (if t105 = true then (newsreelref15_Light.l0 k (wrap64 (x3 + 1)) x104000 x104001 x104002 x104003 x104004 x104005) else (some false))) else (none)) else (newsreelref15_Light.l1 k 0 x104000 x104001 x104002 x104003 x104004 x104005)
def newsreelref15_Light.l1 : Nat → Int → Int → Int → Int → Int → List (S43) → List (S29) → Option (Bool)
 | 0, _, _, _, _, _, _, _ => none
 | k + 1, x4, x104000, x104001, x104002, x104003, x104004, x104005 => if x4 < (x104005.length : Int) then (if 0 ≤ x4 then ((newsreelref14_ShortEp.f ((rd_T29 x104005 x4).f0) ((rd_T29 x104005 x4).f1) ((rd_T29 x104005 x4).f2) ((rd_T29 x104005 x4).f3) ((rd_T29 x104005 x4).f4) ((rd_T29 x104005 x4).f5) ((rd_T29 x104005 x4).f6) ((rd_T29 x104005 x4).f7) ((rd_T29 x104005 x4).f8) ((rd_T29 x104005 x4).f9) ((rd_T29 x104005 x4).f10) ((rd_T29 x104005 x4).f11) ((rd_T29 x104005 x4).f12) ((rd_T29 x104005 x4).f13) ((rd_T29 x104005 x4).f14) ((rd_T29 x104005 x4).f15) ((rd_T29 x104005 x4).f16) ((rd_T29 x104005 x4).f17) ((rd_T29 x104005 x4).f18) ((rd_T29 x104005 x4).f19)).bind fun t107 => (if t107 = true then (newsreelref15_Light.l1 k (wrap64 (x4 + 1)) x104000 x104001 x104002 x104003 x104004 x104005) else (some false))) else (none)) else (some true)
end
def newsreelref15_Light.f (k : Nat) (a0_0 : Int) (a0_1 : Int) (a0_2 : Int) (a0_3 : Int) (l0_4 : List (S43)) (l0_5 : List (S29)) : Option (Bool) := if (l0_4.length : Int) > 6 then (newsreelref15_Light.j0 k true a0_0 a0_1 a0_2 a0_3 l0_4 l0_5) else (newsreelref15_Light.j0 k (decide ((l0_5.length : Int) > 34)) a0_0 a0_1 a0_2 a0_3 l0_4 l0_5)
theorem newsreelref15_Light.mono_l : ∀ k, (∀ y0 y1 y2 y3 y4 y5 y6, LeO (newsreelref15_Light.j0 k y0 y1 y2 y3 y4 y5 y6) (newsreelref15_Light.j0 (k + 1) y0 y1 y2 y3 y4 y5 y6)) ∧ (∀ y0 y1 y2 y3 y4 y5 y6, LeO (newsreelref15_Light.l0 k y0 y1 y2 y3 y4 y5 y6) (newsreelref15_Light.l0 (k + 1) y0 y1 y2 y3 y4 y5 y6)) ∧ (∀ y0 y1 y2 y3 y4 y5 y6, LeO (newsreelref15_Light.l1 k y0 y1 y2 y3 y4 y5 y6) (newsreelref15_Light.l1 (k + 1) y0 y1 y2 y3 y4 y5 y6))
 | 0 => ⟨fun _ _ _ _ _ _ _ r h => by simp [newsreelref15_Light.j0] at h, fun _ _ _ _ _ _ _ r h => by simp [newsreelref15_Light.l0] at h, fun _ _ _ _ _ _ _ r h => by simp [newsreelref15_Light.l1] at h⟩
 | k + 1 => by
  obtain ⟨ih0, ih1, ih2⟩ := newsreelref15_Light.mono_l k
  refine ⟨?_, ?_, ?_⟩
  ·intro y0 y1 y2 y3 y4 y5 y6
   unfold newsreelref15_Light.j0
   repeat' first
   | (with_reducible exact ih0 _ _ _ _ _ _ _)
   | (with_reducible exact ih1 _ _ _ _ _ _ _)
   | (with_reducible exact ih2 _ _ _ _ _ _ _)
   | (with_reducible exact LeO.refl _)
   | (with_reducible exact LeO.none _)
   | (with_reducible refine LeO.ite ?_ ?_)
   | (with_reducible refine LeO.bind ?_ (fun _ => ?_))
   | exact ih0 _ _ _ _ _ _ _
   | exact ih1 _ _ _ _ _ _ _
   | exact ih2 _ _ _ _ _ _ _
   | exact LeO.none _
   | refine LeO.ite ?_ ?_
   | refine LeO.bind ?_ (fun _ => ?_)
  ·intro y0 y1 y2 y3 y4 y5 y6
   unfold newsreelref15_Light.l0
   repeat' first
   | (with_reducible exact ih0 _ _ _ _ _ _ _)
   | (with_reducible exact ih1 _ _ _ _ _ _ _)
   | (with_reducible exact ih2 _ _ _ _ _ _ _)
   | (with_reducible exact LeO.refl _)
   | (with_reducible exact LeO.none _)
   | (with_reducible refine LeO.ite ?_ ?_)
   | (with_reducible refine LeO.bind ?_ (fun _ => ?_))
   | exact ih0 _ _ _ _ _ _ _
   | exact ih1 _ _ _ _ _ _ _
   | exact ih2 _ _ _ _ _ _ _
   | exact LeO.none _
   | refine LeO.ite ?_ ?_
   | refine LeO.bind ?_ (fun _ => ?_)
  ·intro y0 y1 y2 y3 y4 y5 y6
   unfold newsreelref15_Light.l1
   repeat' first
   | (with_reducible exact ih0 _ _ _ _ _ _ _)
   | (with_reducible exact ih1 _ _ _ _ _ _ _)
   | (with_reducible exact ih2 _ _ _ _ _ _ _)
   | (with_reducible exact LeO.refl _)
   | (with_reducible exact LeO.none _)
   | (with_reducible refine LeO.ite ?_ ?_)
   | (with_reducible refine LeO.bind ?_ (fun _ => ?_))
   | exact ih0 _ _ _ _ _ _ _
   | exact ih1 _ _ _ _ _ _ _
   | exact ih2 _ _ _ _ _ _ _
   | exact LeO.none _
   | refine LeO.ite ?_ ?_
   | refine LeO.bind ?_ (fun _ => ?_)
theorem newsreelref15_Light.mono : ∀ a0 a1 a2 a3 a4 a5 k, LeO (newsreelref15_Light.f k a0 a1 a2 a3 a4 a5) (newsreelref15_Light.f (k + 1) a0 a1 a2 a3 a4 a5) := by
 intro a0 a1 a2 a3 a4 a5 k
 obtain ⟨ih0, ih1, ih2⟩ := newsreelref15_Light.mono_l k
 unfold newsreelref15_Light.f
 repeat' first
   | (with_reducible exact ih0 _ _ _ _ _ _ _)
   | (with_reducible exact ih1 _ _ _ _ _ _ _)
   | (with_reducible exact ih2 _ _ _ _ _ _ _)
   | (with_reducible exact LeO.refl _)
   | (with_reducible exact LeO.none _)
   | (with_reducible refine LeO.ite ?_ ?_)
   | (with_reducible refine LeO.bind ?_ (fun _ => ?_))
   | exact ih0 _ _ _ _ _ _ _
   | exact ih1 _ _ _ _ _ _ _
   | exact ih2 _ _ _ _ _ _ _
   | exact LeO.none _
   | refine LeO.ite ?_ ?_
   | refine LeO.bind ?_ (fun _ => ?_)
set_option maxHeartbeats 2000000 in
set_option maxRecDepth 100000 in
theorem newsreelref15_Light.calls (k : Nat) (a0_0 : Int) (a0_1 : Int) (a0_2 : Int) (a0_3 : Int) (A0_4 : Option Addr) (c0_4 : Nat) (l0_4 : List (S43)) (A0_5 : Option Addr) (c0_5 : Nat) (l0_5 : List (S29)) (r : Bool) (w : World) (hr0_4 : Kd.C k43 w A0_4 l0_4.length l0_4) (hc0_4 : l0_4.length ≤ c0_4) (hr0_5 : Kd.C k29 w A0_5 l0_5.length l0_5) (hc0_5 : l0_5.length ≤ c0_5) (h : newsreelref15_Light.f k a0_0 a0_1 a0_2 a0_3 l0_4 l0_5 = some r) :
  Calls Try.prog 5 #[.agg #[.int .i64 a0_0, .int .i64 a0_1, .int .i64 a0_2, .int .i64 a0_3, .slice A0_4 l0_4.length c0_4, .slice A0_5 l0_5.length c0_5]] w fun e w' => e = .returned (.bool r) ∧ Below w.heap.size w w' := by
 have hu25 := Try.underlying25
 have hu43 := Try.underlying43
 have hu29 := Try.underlying29
 have HR0_4 := mkA hr0_4
 have HC0_4 := mkA hc0_4
 clear hr0_4 hc0_4
 have HR0_5 := mkA hr0_5
 have HC0_5 := mkA hc0_5
 clear hr0_5 hc0_5
 have HB := mkA (Below.refl w.heap.size w)
 have H : (if (l0_4.length : Int) > 6 then (newsreelref15_Light.j0 k true a0_0 a0_1 a0_2 a0_3 l0_4 l0_5) else (newsreelref15_Light.j0 k (decide ((l0_5.length : Int) > 34)) a0_0 a0_1 a0_2 a0_3 l0_4 l0_5)) = some r := h
 clear h
 have HC2 := mkA H
 clear H
 go_enter Try.func5, Try.ntmps5
 go_upto_region 1 with (first | ((with_reducible refine gate_load (t := 25) rfl ?_); refine load_row3 (t := 25) (g := gb103) ?hg BK103.out ?ho ?hb Try.underlying25 rfl ?hs ?_; (case hg => rfl); (case ho => refine ⟨_, rfl, ?_⟩; first | (with_reducible rfl) | (go_simp; done)); (case hb => (with_reducible repeat (first | refine blk_drewN ?_ _ | refine blk_drew ?_ | refine blk_alloc ?_ _)); with_reducible exact BK103.out); (case hs => kernel_rfl)) | ((with_reducible refine gate_dst (N := 1) rfl ?_); (try (refine gate_guard (by rfl) ?_; dsimp only)); refine box_event ?hg (N := 1) ?hd (cs := #[.int .i64 a0_0, .int .i64 a0_1, .int .i64 a0_2, .int .i64 a0_3, .slice A0_4 l0_4.length c0_4, .slice A0_5 l0_5.length c0_5]) (t := 25) ?hr ?_; (case hd => rfl); (case hg => rfl); (case hr => first | (go_simp; done) | (go_simp; rfl)); intro gb103 hg w3 hbox hb; have n0_ := mkA (below_step (below_y HB.out) hb); have n1_ := mkA (hbox); have n2_ := mkA ((gz hg HB.out : w.heap.size ≤ gb103)); have n3_ := mkA ((gz hg HB.out : w.heap.size ≤ gb103)); clear HB; have HB := n0_; have BK103 := n1_; have GW103 := n2_; have GE103 := n3_; clear n0_ n1_ n2_ n3_; clear hb hbox hg))
 (try simp only [Act.put, sA, s0, sS])
 go_cut [14] (fun v14 wc => ∃ (kq : Nat) (x14_1 : Bool), v14 = .bool x14_1 ∧ Aside0 (newsreelref15_Light.j0 kq x14_1 a0_0 a0_1 a0_2 a0_3 l0_4 l0_5 = some r) ∧ Aside0 (kq ≤ k) ∧ Aside0 (wc.heap[gb103]? = some (.cells #[.int .i64 a0_0, .int .i64 a0_1, .int .i64 a0_2, .int .i64 a0_3, (.slice A0_4 l0_4.length c0_4), (.slice A0_5 l0_5.length c0_5)] 25 (0, 0))) ∧ Aside0 (Below w.heap.size w wc))
 case first =>
  have H := HC2.out
  clear HC2
  by_cases c4 : (l0_4.length : Int) > 6
  ·rw [if_pos c4] at H
   have c4b0 : decide (6 < (l0_4.length : Int)) = true := decide_eq_true c4
   have c4b1 : decide (6 < l0_4.length) = true := decide_eq_true (by omega)
   clear c4
   (first | rw [c4b0] | (simp only [i64_w, i32_w]; rw [c4b0]) | skip)
   as_aux_lemma =>
    have H' := mkA H
    clear H
    have hcz5_0 := bc BK103.out 0 _ rfl
    have hcz5_1 := bc BK103.out 1 _ rfl
    have hcz5_2 := bc BK103.out 2 _ rfl
    have hcz5_3 := bc BK103.out 3 _ rfl
    have hcz5_4 := bc BK103.out 4 _ rfl
    have hcz5_5 := bc BK103.out 5 _ rfl
    have hfz5_0 := blk_frozen BK103.out 0
    have hfz5_1 := blk_frozen BK103.out 1
    have hfz5_2 := blk_frozen BK103.out 2
    have hfz5_3 := blk_frozen BK103.out 3
    have hfz5_4 := blk_frozen BK103.out 4
    have hfz5_5 := blk_frozen BK103.out 5
    go_wp2_with (first | ((with_reducible refine gate_load (t := 25) rfl ?_); refine load_row3 (t := 25) (g := gb103) ?hg BK103.out ?ho ?hb Try.underlying25 rfl ?hs ?_; (case hg => rfl); (case ho => refine ⟨_, rfl, ?_⟩; first | (with_reducible rfl) | (go_simp; done)); (case hb => (with_reducible repeat (first | refine blk_drewN ?_ _ | refine blk_drew ?_ | refine blk_alloc ?_ _)); with_reducible exact BK103.out); (case hs => kernel_rfl)))
    go_meet
    case rel => exact ⟨_, (true), (by first | rfl | (simp; done) | (simp [*]; done)), H', ⟨by first | omega | exact Nat.le_refl _⟩, ⟨by (with_reducible repeat (first | refine blk_drewN ?_ _ | refine blk_drew ?_ | refine blk_alloc ?_ _)); exact BK103.out⟩, ⟨by repeat (first | (with_reducible first | exact HB.out | apply below_alloc | apply pw_below_drewN | apply below_drew1 | refine below_set ?_ GE103.out) | exact HB.out)⟩⟩
  ·rw [if_neg c4] at H
   have c4b0 : decide (6 < (l0_4.length : Int)) = false := decide_eq_false c4
   have c4b1 : decide (6 < l0_4.length) = false := decide_eq_false (by omega)
   clear c4
   (first | rw [c4b0] | (simp only [i64_w, i32_w]; rw [c4b0]) | skip)
   as_aux_lemma =>
    have H' := mkA H
    clear H
    have hcz6_0 := bc BK103.out 0 _ rfl
    have hcz6_1 := bc BK103.out 1 _ rfl
    have hcz6_2 := bc BK103.out 2 _ rfl
    have hcz6_3 := bc BK103.out 3 _ rfl
    have hcz6_4 := bc BK103.out 4 _ rfl
    have hcz6_5 := bc BK103.out 5 _ rfl
    have hfz6_0 := blk_frozen BK103.out 0
    have hfz6_1 := blk_frozen BK103.out 1
    have hfz6_2 := blk_frozen BK103.out 2
    have hfz6_3 := blk_frozen BK103.out 3
    have hfz6_4 := blk_frozen BK103.out 4
    have hfz6_5 := blk_frozen BK103.out 5
    go_wp2_with (first | ((with_reducible refine gate_load (t := 25) rfl ?_); refine load_row3 (t := 25) (g := gb103) ?hg BK103.out ?ho ?hb Try.underlying25 rfl ?hs ?_; (case hg => rfl); (case ho => refine ⟨_, rfl, ?_⟩; first | (with_reducible rfl) | (go_simp; done)); (case hb => (with_reducible repeat (first | refine blk_drewN ?_ _ | refine blk_drew ?_ | refine blk_alloc ?_ _)); with_reducible exact BK103.out); (case hs => kernel_rfl)))
    go_meet
    case rel => exact ⟨_, (decide ((l0_5.length : Int) > 34)), (by first | rfl | (simp; done) | (simp [*]; done)), H', ⟨by first | omega | exact Nat.le_refl _⟩, ⟨by (with_reducible repeat (first | refine blk_drewN ?_ _ | refine blk_drew ?_ | refine blk_alloc ?_ _)); exact BK103.out⟩, ⟨by repeat (first | (with_reducible first | exact HB.out | apply below_alloc | apply pw_below_drewN | apply below_drew1 | refine below_set ?_ GE103.out) | exact HB.out)⟩⟩
 case rest =>
  clear HC2
  try clear p2
  try clear c4
  try clear c4b0
  try clear c4b1
  try clear c5
  try clear hcz5_0
  try clear hcz5_1
  try clear hcz5_2
  try clear hcz5_3
  try clear hcz5_4
  try clear hcz5_5
  try clear hcz6_0
  try clear hcz6_1
  try clear hcz6_2
  try clear hcz6_3
  try clear hcz6_4
  try clear hcz6_5
  try clear hfz5_0
  try clear hfz5_1
  try clear hfz5_2
  try clear hfz5_3
  try clear hfz5_4
  try clear hfz5_5
  try clear hfz6_0
  try clear hfz6_1
  try clear hfz6_2
  try clear hfz6_3
  try clear hfz6_4
  try clear hfz6_5
  obtain ⟨kq, x14_1, rfl, HA, HJ1, BK103, HB⟩ := hcut
  cases kq with
  | zero => exact absurd HA.out (by simp [newsreelref15_Light.j0])
  | succ kj1 =>
   have H := HA.out
   clear HA
   simp only [newsreelref15_Light.j0] at H
   by_cases c7 : x14_1 = true
   ·subst c7
    have H1 : (some false) = some r := by rw [if_pos rfl] at H; exact H
    clear H
    have H := H1
    clear H1
    as_aux_lemma =>
     obtain rfl := Option.some.inj H
     go_wp2_with (first | ((with_reducible refine gate_load (t := 25) rfl ?_); refine load_row3 (t := 25) (g := gb103) ?hg BK103.out ?ho ?hb Try.underlying25 rfl ?hs ?_; (case hg => rfl); (case ho => refine ⟨_, rfl, ?_⟩; first | (with_reducible rfl) | (go_simp; done)); (case hb => (with_reducible repeat (first | refine blk_drewN ?_ _ | refine blk_drew ?_ | refine blk_alloc ?_ _)); with_reducible exact BK103.out); (case hs => kernel_rfl)))
     go_ret
     exact ⟨by first | rfl | (simp [errW_none, errW_some] <;> rfl) | (simp [*, errW_none, errW_some] <;> rfl), by repeat (first | (with_reducible first | exact HB.out | apply below_alloc | apply pw_below_drewN | apply below_drew1 | refine below_set ?_ GE103.out) | exact HB.out)⟩
   ·replace c7 := Bool.eq_false_iff.mpr c7
    subst c7
    have H1 : (newsreelref15_Light.l0 kj1 0 a0_0 a0_1 a0_2 a0_3 l0_4 l0_5) = some r := by rw [if_neg (show ¬ (false = true) by decide)] at H; exact H
    clear H
    have H := H1
    clear H1
    have H' := mkA H
    clear H
    go_wp2_with (first | ((with_reducible refine gate_load (t := 25) rfl ?_); refine load_row3 (t := 25) (g := gb103) ?hg BK103.out ?ho ?hb Try.underlying25 rfl ?hs ?_; (case hg => rfl); (case ho => refine ⟨_, rfl, ?_⟩; first | (with_reducible rfl) | (go_simp; done)); (case hb => (with_reducible repeat (first | refine blk_drewN ?_ _ | refine blk_drew ?_ | refine blk_alloc ?_ _)); with_reducible exact BK103.out); (case hs => kernel_rfl)))
    go_loopg [3] kj1 (fun kq v3 w' => ∃ (x3_2 : Int), v3 = .int .i64 x3_2 ∧ Aside0 (newsreelref15_Light.l0 kq x3_2 a0_0 a0_1 a0_2 a0_3 l0_4 l0_5 = some r) ∧ Aside0 (kq ≤ kj1) ∧ Aside0 (w'.heap[gb103]? = some (.cells #[.int .i64 a0_0, .int .i64 a0_1, .int .i64 a0_2, .int .i64 a0_3, (.slice A0_4 l0_4.length c0_4), (.slice A0_5 l0_5.length c0_5)] 25 (0, 0))) ∧ Aside0 (Below w.heap.size w w'))
    case atStart => exact ⟨(0), (by first | rfl | (simp; done) | (simp [*]; done)), H', ⟨Nat.le_refl _⟩, ⟨by (with_reducible repeat (first | refine blk_drewN ?_ _ | refine blk_drew ?_ | refine blk_alloc ?_ _)); exact BK103.out⟩, ⟨by repeat (first | (with_reducible first | exact HB.out | apply below_alloc | apply pw_below_drewN | apply below_drew1 | refine below_set ?_ GE103.out) | exact HB.out)⟩⟩
    case round =>
     clear H'
     try clear p2
     try clear c4
     try clear c4b0
     try clear c4b1
     try clear c5
     try clear c7
     try clear hcz5_0
     try clear hcz5_1
     try clear hcz5_2
     try clear hcz5_3
     try clear hcz5_4
     try clear hcz5_5
     try clear hcz6_0
     try clear hcz6_1
     try clear hcz6_2
     try clear hcz6_3
     try clear hcz6_4
     try clear hcz6_5
     try clear hfz5_0
     try clear hfz5_1
     try clear hfz5_2
     try clear hfz5_3
     try clear hfz5_4
     try clear hfz5_5
     try clear hfz6_0
     try clear hfz6_1
     try clear hfz6_2
     try clear hfz6_3
     try clear hfz6_4
     try clear hfz6_5
     try clear p2
     obtain ⟨x3_2, rfl, HA, HK2, BK103, HB⟩ := hrel
     cases gk with
     | zero => exact absurd HA.out (by simp [newsreelref15_Light.l0])
     | succ k2 =>
      have H := HA.out
      clear HA
      simp only [newsreelref15_Light.l0] at H
      by_cases c8 : x3_2 < (l0_4.length : Int)
      ·rw [if_pos c8] at H
       have c8b0 : decide (x3_2 < (l0_4.length : Int)) = true := decide_eq_true c8
       clear c8
       by_cases c9 : 0 ≤ x3_2
       ·rw [if_pos c9] at H
        have c9b0 : decide (0 ≤ x3_2) = true := decide_eq_true c9
        clear c9
        replace H := Option.bind_eq_some_iff.mp H
        obtain ⟨t105, A100, H⟩ := H
        replace H : (if t105 = true then (newsreelref15_Light.l0 k2 (wrap64 (x3_2 + 1)) a0_0 a0_1 a0_2 a0_3 l0_4 l0_5) else (some false)) = some r := H
        have A10 := mkA A100
        clear A100
        by_cases c11 : t105 = true
        ·subst c11
         have H1 : (newsreelref15_Light.l0 k2 (wrap64 (x3_2 + 1)) a0_0 a0_1 a0_2 a0_3 l0_4 l0_5) = some r := by rw [if_pos rfl] at H; exact H
         clear H
         have H := H1
         clear H1
         as_aux_lemma =>
          have H' := mkA H
          clear H
          have hcz12_0 := bc BK103.out 0 _ rfl
          have hcz12_1 := bc BK103.out 1 _ rfl
          have hcz12_2 := bc BK103.out 2 _ rfl
          have hcz12_3 := bc BK103.out 3 _ rfl
          have hcz12_4 := bc BK103.out 4 _ rfl
          have hcz12_5 := bc BK103.out 5 _ rfl
          have hfz12_0 := blk_frozen BK103.out 0
          have hfz12_1 := blk_frozen BK103.out 1
          have hfz12_2 := blk_frozen BK103.out 2
          have hfz12_3 := blk_frozen BK103.out 3
          have hfz12_4 := blk_frozen BK103.out 4
          have hfz12_5 := blk_frozen BK103.out 5
          have p104 : 0 ≤ (x3_2 : Int) := odt
          have q104 : x3_2 < (l0_4.length : Int) := odt
          obtain ⟨ad104, e104, hx104_0, hx104_1, hx104_2, hx104_3, hx104_4⟩ := at_T43 HR0_4.out x3_2 p104 q104
          cases e104
          replace hx104_0 := hs_ HB.out hx104_0
          replace hx104_1 := hs_ HB.out hx104_1
          replace hx104_2 := hs_ HB.out hx104_2
          replace hx104_3 := hs_ HB.out hx104_3
          replace hx104_4 := hs_ HB.out hx104_4
          replace p104 := eq_true p104
          replace q104 := eq_true q104
          go_wp2_with (first | ((with_reducible refine gate_load (t := 43) rfl ?_); refine load_at2 (t := 43) ?hg ?ho (c0 := _) (cs := [_, _, _, _]) Try.underlying43 rfl (by kernel_rfl) hx104_0 ⟨hx104_1, hx104_2, hx104_3, hx104_4, trivial⟩ ?_; (case hg => rfl); (case ho => refine ⟨_, rfl, ?_⟩; first | (with_reducible rfl) | (go_simp; done))) | ((with_reducible refine gate_load (t := 25) rfl ?_); refine load_row3 (t := 25) (g := gb103) ?hg BK103.out ?ho ?hb Try.underlying25 rfl ?hs ?_; (case hg => rfl); (case ho => refine ⟨_, rfl, ?_⟩; first | (with_reducible rfl) | (go_simp; done)); (case hb => (with_reducible repeat (first | refine blk_drewN ?_ _ | refine blk_drew ?_ | refine blk_alloc ?_ _)); with_reducible exact BK103.out); (case hs => kernel_rfl)) | ((with_reducible refine gate_callee (f := 18) rfl ?_); refine goesL_ (some 27) rfl rfl Try.func18 (by kernel_rfl) rfl #[.agg #[.int .i64 ((rd_T43 l0_4 x3_2).f0), .string ((rd_T43 l0_4 x3_2).f1), .string ((rd_T43 l0_4 x3_2).f2), .int .i64 ((rd_T43 l0_4 x3_2).f3), .int .i64 ((rd_T43 l0_4 x3_2).f4)]] rfl ca ?_; (with_reducible refine (newsreelref14_Short.calls _ _ _ _ _ true _ A10.out).mono ?_); rintro e w13 ⟨rfl, hb⟩; refine ⟨_, rfl, ?_⟩; have n0_ := mkA (blk_below (blk_y BK103.out) hb); have n1_ := mkA (below_step (below_y HB.out) hb); clear BK103; clear HB; have BK103 := n0_; have HB := n1_; clear n0_ n1_; (try clear hb); (try clear hb2); (try clear hk); (try clear hi)))
          go_roundg k2
          case measure => have := HJ1.out; have := HK2.out; omega
          case rel => exact ⟨(wrap64 (x3_2 + 1)), (by first | rfl | (simp; done) | (simp [*]; done)), H', ⟨by have := HJ1.out; have := HK2.out; omega⟩, ⟨by (with_reducible repeat (first | refine blk_drewN ?_ _ | refine blk_drew ?_ | refine blk_alloc ?_ _)); exact BK103.out⟩, ⟨by repeat (first | (with_reducible first | exact HB.out | apply below_alloc | apply pw_below_drewN | apply below_drew1 | refine below_set ?_ GE103.out) | exact HB.out)⟩⟩
        ·replace c11 := Bool.eq_false_iff.mpr c11
         subst c11
         have H1 : (some false) = some r := by rw [if_neg (show ¬ (false = true) by decide)] at H; exact H
         clear H
         have H := H1
         clear H1
         as_aux_lemma =>
          obtain rfl := Option.some.inj H
          have hcz14_0 := bc BK103.out 0 _ rfl
          have hcz14_1 := bc BK103.out 1 _ rfl
          have hcz14_2 := bc BK103.out 2 _ rfl
          have hcz14_3 := bc BK103.out 3 _ rfl
          have hcz14_4 := bc BK103.out 4 _ rfl
          have hcz14_5 := bc BK103.out 5 _ rfl
          have hfz14_0 := blk_frozen BK103.out 0
          have hfz14_1 := blk_frozen BK103.out 1
          have hfz14_2 := blk_frozen BK103.out 2
          have hfz14_3 := blk_frozen BK103.out 3
          have hfz14_4 := blk_frozen BK103.out 4
          have hfz14_5 := blk_frozen BK103.out 5
          have p104 : 0 ≤ (x3_2 : Int) := odt
          have q104 : x3_2 < (l0_4.length : Int) := odt
          obtain ⟨ad104, e104, hx104_0, hx104_1, hx104_2, hx104_3, hx104_4⟩ := at_T43 HR0_4.out x3_2 p104 q104
          cases e104
          replace hx104_0 := hs_ HB.out hx104_0
          replace hx104_1 := hs_ HB.out hx104_1
          replace hx104_2 := hs_ HB.out hx104_2
          replace hx104_3 := hs_ HB.out hx104_3
          replace hx104_4 := hs_ HB.out hx104_4
          replace p104 := eq_true p104
          replace q104 := eq_true q104
          go_wp2_with (first | ((with_reducible refine gate_load (t := 43) rfl ?_); refine load_at2 (t := 43) ?hg ?ho (c0 := _) (cs := [_, _, _, _]) Try.underlying43 rfl (by kernel_rfl) hx104_0 ⟨hx104_1, hx104_2, hx104_3, hx104_4, trivial⟩ ?_; (case hg => rfl); (case ho => refine ⟨_, rfl, ?_⟩; first | (with_reducible rfl) | (go_simp; done))) | ((with_reducible refine gate_load (t := 25) rfl ?_); refine load_row3 (t := 25) (g := gb103) ?hg BK103.out ?ho ?hb Try.underlying25 rfl ?hs ?_; (case hg => rfl); (case ho => refine ⟨_, rfl, ?_⟩; first | (with_reducible rfl) | (go_simp; done)); (case hb => (with_reducible repeat (first | refine blk_drewN ?_ _ | refine blk_drew ?_ | refine blk_alloc ?_ _)); with_reducible exact BK103.out); (case hs => kernel_rfl)) | ((with_reducible refine gate_callee (f := 18) rfl ?_); refine goesL_ (some 27) rfl rfl Try.func18 (by kernel_rfl) rfl #[.agg #[.int .i64 ((rd_T43 l0_4 x3_2).f0), .string ((rd_T43 l0_4 x3_2).f1), .string ((rd_T43 l0_4 x3_2).f2), .int .i64 ((rd_T43 l0_4 x3_2).f3), .int .i64 ((rd_T43 l0_4 x3_2).f4)]] rfl ca ?_; (with_reducible refine (newsreelref14_Short.calls _ _ _ _ _ false _ A10.out).mono ?_); rintro e w15 ⟨rfl, hb⟩; refine ⟨_, rfl, ?_⟩; have n0_ := mkA (blk_below (blk_y BK103.out) hb); have n1_ := mkA (below_step (below_y HB.out) hb); clear BK103; clear HB; have BK103 := n0_; have HB := n1_; clear n0_ n1_; (try clear hb); (try clear hb2); (try clear hk); (try clear hi)))
          go_ret
          exact ⟨by first | rfl | (simp [errW_none, errW_some] <;> rfl) | (simp [*, errW_none, errW_some] <;> rfl), by repeat (first | (with_reducible first | exact HB.out | apply below_alloc | apply pw_below_drewN | apply below_drew1 | refine below_set ?_ GE103.out) | exact HB.out)⟩
       ·rw [if_neg c9] at H
        exact absurd H (by simp)
      ·rw [if_neg c8] at H
       have c8b0 : decide (x3_2 < (l0_4.length : Int)) = false := decide_eq_false c8
       clear c8
       have H' := mkA H
       clear H
       have hcz16_0 := bc BK103.out 0 _ rfl
       have hcz16_1 := bc BK103.out 1 _ rfl
       have hcz16_2 := bc BK103.out 2 _ rfl
       have hcz16_3 := bc BK103.out 3 _ rfl
       have hcz16_4 := bc BK103.out 4 _ rfl
       have hcz16_5 := bc BK103.out 5 _ rfl
       have hfz16_0 := blk_frozen BK103.out 0
       have hfz16_1 := blk_frozen BK103.out 1
       have hfz16_2 := blk_frozen BK103.out 2
       have hfz16_3 := blk_frozen BK103.out 3
       have hfz16_4 := blk_frozen BK103.out 4
       have hfz16_5 := blk_frozen BK103.out 5
       go_wp2_with (first | ((with_reducible refine gate_load (t := 25) rfl ?_); refine load_row3 (t := 25) (g := gb103) ?hg BK103.out ?ho ?hb Try.underlying25 rfl ?hs ?_; (case hg => rfl); (case ho => refine ⟨_, rfl, ?_⟩; first | (with_reducible rfl) | (go_simp; done)); (case hb => (with_reducible repeat (first | refine blk_drewN ?_ _ | refine blk_drew ?_ | refine blk_alloc ?_ _)); with_reducible exact BK103.out); (case hs => kernel_rfl)))
       go_loopg [4] k2 (fun kq v4 w' => ∃ (x4_3 : Int), v4 = .int .i64 x4_3 ∧ Aside0 (newsreelref15_Light.l1 kq x4_3 a0_0 a0_1 a0_2 a0_3 l0_4 l0_5 = some r) ∧ Aside0 (kq ≤ k2) ∧ Aside0 (w'.heap[gb103]? = some (.cells #[.int .i64 a0_0, .int .i64 a0_1, .int .i64 a0_2, .int .i64 a0_3, (.slice A0_4 l0_4.length c0_4), (.slice A0_5 l0_5.length c0_5)] 25 (0, 0))) ∧ Aside0 (Below w.heap.size w w'))
       case atStart => exact ⟨(0), (by first | rfl | (simp; done) | (simp [*]; done)), H', ⟨Nat.le_refl _⟩, ⟨by (with_reducible repeat (first | refine blk_drewN ?_ _ | refine blk_drew ?_ | refine blk_alloc ?_ _)); exact BK103.out⟩, ⟨by repeat (first | (with_reducible first | exact HB.out | apply below_alloc | apply pw_below_drewN | apply below_drew1 | refine below_set ?_ GE103.out) | exact HB.out)⟩⟩
       case round =>
        clear H'
        try clear c1
        try clear p1
        try clear q1
        try clear hx1
        try clear p2
        try clear c4
        try clear c4b0
        try clear c4b1
        try clear c5
        try clear p6
        try clear c7
        try clear c8
        try clear c8b0
        try clear c9
        try clear c9b0
        try clear p10
        try clear q10
        try clear hx10
        try clear c11
        try clear hcz12_0
        try clear hcz12_1
        try clear hcz12_2
        try clear hcz12_3
        try clear hcz12_4
        try clear hcz12_5
        try clear hcz14_0
        try clear hcz14_1
        try clear hcz14_2
        try clear hcz14_3
        try clear hcz14_4
        try clear hcz14_5
        try clear hcz16_0
        try clear hcz16_1
        try clear hcz16_2
        try clear hcz16_3
        try clear hcz16_4
        try clear hcz16_5
        try clear hcz5_0
        try clear hcz5_1
        try clear hcz5_2
        try clear hcz5_3
        try clear hcz5_4
        try clear hcz5_5
        try clear hcz6_0
        try clear hcz6_1
        try clear hcz6_2
        try clear hcz6_3
        try clear hcz6_4
        try clear hcz6_5
        try clear hfz12_0
        try clear hfz12_1
        try clear hfz12_2
        try clear hfz12_3
        try clear hfz12_4
        try clear hfz12_5
        try clear hfz14_0
        try clear hfz14_1
        try clear hfz14_2
        try clear hfz14_3
        try clear hfz14_4
        try clear hfz14_5
        try clear hfz16_0
        try clear hfz16_1
        try clear hfz16_2
        try clear hfz16_3
        try clear hfz16_4
        try clear hfz16_5
        try clear hfz5_0
        try clear hfz5_1
        try clear hfz5_2
        try clear hfz5_3
        try clear hfz5_4
        try clear hfz5_5
        try clear hfz6_0
        try clear hfz6_1
        try clear hfz6_2
        try clear hfz6_3
        try clear hfz6_4
        try clear hfz6_5
        try clear hx104_0
        try clear hx104_1
        try clear hx104_2
        try clear hx104_3
        try clear hx104_4
        try clear p104
        try clear p2
        try clear q104
        obtain ⟨x4_3, rfl, HA, HK3, BK103, HB⟩ := hrel
        cases gk with
        | zero => exact absurd HA.out (by simp [newsreelref15_Light.l1])
        | succ k3 =>
         have H := HA.out
         clear HA
         simp only [newsreelref15_Light.l1] at H
         by_cases c17 : x4_3 < (l0_5.length : Int)
         ·rw [if_pos c17] at H
          have c17b0 : decide (x4_3 < (l0_5.length : Int)) = true := decide_eq_true c17
          clear c17
          by_cases c18 : 0 ≤ x4_3
          ·rw [if_pos c18] at H
           have c18b0 : decide (0 ≤ x4_3) = true := decide_eq_true c18
           clear c18
           replace H := Option.bind_eq_some_iff.mp H
           obtain ⟨t107, A190, H⟩ := H
           replace H : (if t107 = true then (newsreelref15_Light.l1 k3 (wrap64 (x4_3 + 1)) a0_0 a0_1 a0_2 a0_3 l0_4 l0_5) else (some false)) = some r := H
           have A19 := mkA A190
           clear A190
           by_cases c20 : t107 = true
           ·subst c20
            have H1 : (newsreelref15_Light.l1 k3 (wrap64 (x4_3 + 1)) a0_0 a0_1 a0_2 a0_3 l0_4 l0_5) = some r := by rw [if_pos rfl] at H; exact H
            clear H
            have H := H1
            clear H1
            as_aux_lemma =>
             have H' := mkA H
             clear H
             have hcz21_0 := bc BK103.out 0 _ rfl
             have hcz21_1 := bc BK103.out 1 _ rfl
             have hcz21_2 := bc BK103.out 2 _ rfl
             have hcz21_3 := bc BK103.out 3 _ rfl
             have hcz21_4 := bc BK103.out 4 _ rfl
             have hcz21_5 := bc BK103.out 5 _ rfl
             have hfz21_0 := blk_frozen BK103.out 0
             have hfz21_1 := blk_frozen BK103.out 1
             have hfz21_2 := blk_frozen BK103.out 2
             have hfz21_3 := blk_frozen BK103.out 3
             have hfz21_4 := blk_frozen BK103.out 4
             have hfz21_5 := blk_frozen BK103.out 5
             have p106 : 0 ≤ (x4_3 : Int) := odt
             have q106 : x4_3 < (l0_5.length : Int) := odt
             obtain ⟨ad106, e106, hx106_0, hx106_1, hx106_2, hx106_3, hx106_4, hx106_5, hx106_6, hx106_7, hx106_8, hx106_9, hx106_10, hx106_11, hx106_12, hx106_13, hx106_14, hx106_15, hx106_16, hx106_17, hx106_18, hx106_19⟩ := at_T29 HR0_5.out x4_3 p106 q106
             cases e106
             replace hx106_0 := hs_ HB.out hx106_0
             replace hx106_1 := hs_ HB.out hx106_1
             replace hx106_2 := hs_ HB.out hx106_2
             replace hx106_3 := hs_ HB.out hx106_3
             replace hx106_4 := hs_ HB.out hx106_4
             replace hx106_5 := hs_ HB.out hx106_5
             replace hx106_6 := hs_ HB.out hx106_6
             replace hx106_7 := hs_ HB.out hx106_7
             replace hx106_8 := hs_ HB.out hx106_8
             replace hx106_9 := hs_ HB.out hx106_9
             replace hx106_10 := hs_ HB.out hx106_10
             replace hx106_11 := hs_ HB.out hx106_11
             replace hx106_12 := hs_ HB.out hx106_12
             replace hx106_13 := hs_ HB.out hx106_13
             replace hx106_14 := hs_ HB.out hx106_14
             replace hx106_15 := hs_ HB.out hx106_15
             replace hx106_16 := hs_ HB.out hx106_16
             replace hx106_17 := hs_ HB.out hx106_17
             replace hx106_18 := hs_ HB.out hx106_18
             replace hx106_19 := hs_ HB.out hx106_19
             replace p106 := eq_true p106
             replace q106 := eq_true q106
             go_wp2_with (first | ((with_reducible refine gate_load (t := 29) rfl ?_); refine load_at2 (t := 29) ?hg ?ho (c0 := _) (cs := [_, _, _, _, _, _, _, _, _, _, _, _, _, _, _, _, _, _, _]) Try.underlying29 rfl (by kernel_rfl) hx106_0 ⟨hx106_1, hx106_2, hx106_3, hx106_4, hx106_5, hx106_6, hx106_7, hx106_8, hx106_9, hx106_10, hx106_11, hx106_12, hx106_13, hx106_14, hx106_15, hx106_16, hx106_17, hx106_18, hx106_19, trivial⟩ ?_; (case hg => rfl); (case ho => refine ⟨_, rfl, ?_⟩; first | (with_reducible rfl) | (go_simp; done))) | ((with_reducible refine gate_load (t := 25) rfl ?_); refine load_row3 (t := 25) (g := gb103) ?hg BK103.out ?ho ?hb Try.underlying25 rfl ?hs ?_; (case hg => rfl); (case ho => refine ⟨_, rfl, ?_⟩; first | (with_reducible rfl) | (go_simp; done)); (case hb => (with_reducible repeat (first | refine blk_drewN ?_ _ | refine blk_drew ?_ | refine blk_alloc ?_ _)); with_reducible exact BK103.out); (case hs => kernel_rfl)) | ((with_reducible refine gate_callee (f := 19) rfl ?_); refine goesL_ (some 41) rfl rfl Try.func19 (by kernel_rfl) rfl #[.agg #[.int .i64 ((rd_T29 l0_5 x4_3).f0), .int .i64 ((rd_T29 l0_5 x4_3).f1), .string ((rd_T29 l0_5 x4_3).f2), .string ((rd_T29 l0_5 x4_3).f3), .string ((rd_T29 l0_5 x4_3).f4), .int .i64 ((rd_T29 l0_5 x4_3).f5), .int .i64 ((rd_T29 l0_5 x4_3).f6), .int .i64 ((rd_T29 l0_5 x4_3).f7), .int .i64 ((rd_T29 l0_5 x4_3).f8), .bool ((rd_T29 l0_5 x4_3).f9), .int .i64 ((rd_T29 l0_5 x4_3).f10), .int .i64 ((rd_T29 l0_5 x4_3).f11), .int .i64 ((rd_T29 l0_5 x4_3).f12), .string ((rd_T29 l0_5 x4_3).f13), .int .i64 ((rd_T29 l0_5 x4_3).f14), .int .i64 ((rd_T29 l0_5 x4_3).f15), .string ((rd_T29 l0_5 x4_3).f16), .int .i64 ((rd_T29 l0_5 x4_3).f17), .int .i64 ((rd_T29 l0_5 x4_3).f18), .string ((rd_T29 l0_5 x4_3).f19)]] rfl ca ?_; (with_reducible refine (newsreelref14_ShortEp.calls _ _ _ _ _ _ _ _ _ _ _ _ _ _ _ _ _ _ _ _ true _ A19.out).mono ?_); rintro e w22 ⟨rfl, hb⟩; refine ⟨_, rfl, ?_⟩; have n0_ := mkA (blk_below (blk_y BK103.out) hb); have n1_ := mkA (below_step (below_y HB.out) hb); clear BK103; clear HB; have BK103 := n0_; have HB := n1_; clear n0_ n1_; (try clear hb); (try clear hb2); (try clear hk); (try clear hi)))
             go_roundg k3
             case measure => have := HJ1.out; have := HK2.out; have := HK3.out; omega
             case rel => exact ⟨(wrap64 (x4_3 + 1)), (by first | rfl | (simp; done) | (simp [*]; done)), H', ⟨by have := HJ1.out; have := HK2.out; have := HK3.out; omega⟩, ⟨by (with_reducible repeat (first | refine blk_drewN ?_ _ | refine blk_drew ?_ | refine blk_alloc ?_ _)); exact BK103.out⟩, ⟨by repeat (first | (with_reducible first | exact HB.out | apply below_alloc | apply pw_below_drewN | apply below_drew1 | refine below_set ?_ GE103.out) | exact HB.out)⟩⟩
           ·replace c20 := Bool.eq_false_iff.mpr c20
            subst c20
            have H1 : (some false) = some r := by rw [if_neg (show ¬ (false = true) by decide)] at H; exact H
            clear H
            have H := H1
            clear H1
            as_aux_lemma =>
             obtain rfl := Option.some.inj H
             have hcz23_0 := bc BK103.out 0 _ rfl
             have hcz23_1 := bc BK103.out 1 _ rfl
             have hcz23_2 := bc BK103.out 2 _ rfl
             have hcz23_3 := bc BK103.out 3 _ rfl
             have hcz23_4 := bc BK103.out 4 _ rfl
             have hcz23_5 := bc BK103.out 5 _ rfl
             have hfz23_0 := blk_frozen BK103.out 0
             have hfz23_1 := blk_frozen BK103.out 1
             have hfz23_2 := blk_frozen BK103.out 2
             have hfz23_3 := blk_frozen BK103.out 3
             have hfz23_4 := blk_frozen BK103.out 4
             have hfz23_5 := blk_frozen BK103.out 5
             have p106 : 0 ≤ (x4_3 : Int) := odt
             have q106 : x4_3 < (l0_5.length : Int) := odt
             obtain ⟨ad106, e106, hx106_0, hx106_1, hx106_2, hx106_3, hx106_4, hx106_5, hx106_6, hx106_7, hx106_8, hx106_9, hx106_10, hx106_11, hx106_12, hx106_13, hx106_14, hx106_15, hx106_16, hx106_17, hx106_18, hx106_19⟩ := at_T29 HR0_5.out x4_3 p106 q106
             cases e106
             replace hx106_0 := hs_ HB.out hx106_0
             replace hx106_1 := hs_ HB.out hx106_1
             replace hx106_2 := hs_ HB.out hx106_2
             replace hx106_3 := hs_ HB.out hx106_3
             replace hx106_4 := hs_ HB.out hx106_4
             replace hx106_5 := hs_ HB.out hx106_5
             replace hx106_6 := hs_ HB.out hx106_6
             replace hx106_7 := hs_ HB.out hx106_7
             replace hx106_8 := hs_ HB.out hx106_8
             replace hx106_9 := hs_ HB.out hx106_9
             replace hx106_10 := hs_ HB.out hx106_10
             replace hx106_11 := hs_ HB.out hx106_11
             replace hx106_12 := hs_ HB.out hx106_12
             replace hx106_13 := hs_ HB.out hx106_13
             replace hx106_14 := hs_ HB.out hx106_14
             replace hx106_15 := hs_ HB.out hx106_15
             replace hx106_16 := hs_ HB.out hx106_16
             replace hx106_17 := hs_ HB.out hx106_17
             replace hx106_18 := hs_ HB.out hx106_18
             replace hx106_19 := hs_ HB.out hx106_19
             replace p106 := eq_true p106
             replace q106 := eq_true q106
             go_wp2_with (first | ((with_reducible refine gate_load (t := 29) rfl ?_); refine load_at2 (t := 29) ?hg ?ho (c0 := _) (cs := [_, _, _, _, _, _, _, _, _, _, _, _, _, _, _, _, _, _, _]) Try.underlying29 rfl (by kernel_rfl) hx106_0 ⟨hx106_1, hx106_2, hx106_3, hx106_4, hx106_5, hx106_6, hx106_7, hx106_8, hx106_9, hx106_10, hx106_11, hx106_12, hx106_13, hx106_14, hx106_15, hx106_16, hx106_17, hx106_18, hx106_19, trivial⟩ ?_; (case hg => rfl); (case ho => refine ⟨_, rfl, ?_⟩; first | (with_reducible rfl) | (go_simp; done))) | ((with_reducible refine gate_load (t := 25) rfl ?_); refine load_row3 (t := 25) (g := gb103) ?hg BK103.out ?ho ?hb Try.underlying25 rfl ?hs ?_; (case hg => rfl); (case ho => refine ⟨_, rfl, ?_⟩; first | (with_reducible rfl) | (go_simp; done)); (case hb => (with_reducible repeat (first | refine blk_drewN ?_ _ | refine blk_drew ?_ | refine blk_alloc ?_ _)); with_reducible exact BK103.out); (case hs => kernel_rfl)) | ((with_reducible refine gate_callee (f := 19) rfl ?_); refine goesL_ (some 41) rfl rfl Try.func19 (by kernel_rfl) rfl #[.agg #[.int .i64 ((rd_T29 l0_5 x4_3).f0), .int .i64 ((rd_T29 l0_5 x4_3).f1), .string ((rd_T29 l0_5 x4_3).f2), .string ((rd_T29 l0_5 x4_3).f3), .string ((rd_T29 l0_5 x4_3).f4), .int .i64 ((rd_T29 l0_5 x4_3).f5), .int .i64 ((rd_T29 l0_5 x4_3).f6), .int .i64 ((rd_T29 l0_5 x4_3).f7), .int .i64 ((rd_T29 l0_5 x4_3).f8), .bool ((rd_T29 l0_5 x4_3).f9), .int .i64 ((rd_T29 l0_5 x4_3).f10), .int .i64 ((rd_T29 l0_5 x4_3).f11), .int .i64 ((rd_T29 l0_5 x4_3).f12), .string ((rd_T29 l0_5 x4_3).f13), .int .i64 ((rd_T29 l0_5 x4_3).f14), .int .i64 ((rd_T29 l0_5 x4_3).f15), .string ((rd_T29 l0_5 x4_3).f16), .int .i64 ((rd_T29 l0_5 x4_3).f17), .int .i64 ((rd_T29 l0_5 x4_3).f18), .string ((rd_T29 l0_5 x4_3).f19)]] rfl ca ?_; (with_reducible refine (newsreelref14_ShortEp.calls _ _ _ _ _ _ _ _ _ _ _ _ _ _ _ _ _ _ _ _ false _ A19.out).mono ?_); rintro e w24 ⟨rfl, hb⟩; refine ⟨_, rfl, ?_⟩; have n0_ := mkA (blk_below (blk_y BK103.out) hb); have n1_ := mkA (below_step (below_y HB.out) hb); clear BK103; clear HB; have BK103 := n0_; have HB := n1_; clear n0_ n1_; (try clear hb); (try clear hb2); (try clear hk); (try clear hi)))
             go_ret
             exact ⟨by first | rfl | (simp [errW_none, errW_some] <;> rfl) | (simp [*, errW_none, errW_some] <;> rfl), by repeat (first | (with_reducible first | exact HB.out | apply below_alloc | apply pw_below_drewN | apply below_drew1 | refine below_set ?_ GE103.out) | exact HB.out)⟩
          ·rw [if_neg c18] at H
           exact absurd H (by simp)
         ·rw [if_neg c17] at H
          have c17b0 : decide (x4_3 < (l0_5.length : Int)) = false := decide_eq_false c17
          clear c17
          as_aux_lemma =>
           obtain rfl := Option.some.inj H
           have hcz25_0 := bc BK103.out 0 _ rfl
           have hcz25_1 := bc BK103.out 1 _ rfl
           have hcz25_2 := bc BK103.out 2 _ rfl
           have hcz25_3 := bc BK103.out 3 _ rfl
           have hcz25_4 := bc BK103.out 4 _ rfl
           have hcz25_5 := bc BK103.out 5 _ rfl
           have hfz25_0 := blk_frozen BK103.out 0
           have hfz25_1 := blk_frozen BK103.out 1
           have hfz25_2 := blk_frozen BK103.out 2
           have hfz25_3 := blk_frozen BK103.out 3
           have hfz25_4 := blk_frozen BK103.out 4
           have hfz25_5 := blk_frozen BK103.out 5
           go_wp2_with (first | ((with_reducible refine gate_load (t := 25) rfl ?_); refine load_row3 (t := 25) (g := gb103) ?hg BK103.out ?ho ?hb Try.underlying25 rfl ?hs ?_; (case hg => rfl); (case ho => refine ⟨_, rfl, ?_⟩; first | (with_reducible rfl) | (go_simp; done)); (case hb => (with_reducible repeat (first | refine blk_drewN ?_ _ | refine blk_drew ?_ | refine blk_alloc ?_ _)); with_reducible exact BK103.out); (case hs => kernel_rfl)))
           go_ret
           exact ⟨by first | rfl | (simp [errW_none, errW_some] <;> rfl) | (simp [*, errW_none, errW_some] <;> rfl), by repeat (first | (with_reducible first | exact HB.out | apply below_alloc | apply pw_below_drewN | apply below_drew1 | refine below_set ?_ GE103.out) | exact HB.out)⟩

end Go.Proofs.Ytcpojadlnpnbaaa.XRet
