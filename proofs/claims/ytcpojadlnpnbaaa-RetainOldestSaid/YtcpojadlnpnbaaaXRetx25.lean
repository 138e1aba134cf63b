-- By a program of this work (xprint.py) over the translation; Lean checks it.
import Derived.Test.YtcpojadlnpnbaaaXRetx0
import Derived.Test.YtcpojadlnpnbaaaXRetx21
import Derived.Test.YtcpojadlnpnbaaaXRetx22
import Derived.Test.YtcpojadlnpnbaaaXRetx24
namespace Go.Proofs.Ytcpojadlnpnbaaa.XRet
open Go.RowKit Go.Proofs.YtcpojadlnpnbaaaW.PrintWords Go.Proofs.YtcpojadlnpnbaaaW.PrintLast Go.Proofs.YtcpojadlnpnbaaaW.PrintMore
attribute [local go_sem] max2_int min2_int max_two min_two max_three min_three max_four min_four   -- for this text's walks alone
set_option linter.unusedVariables false
set_option linter.unusedSimpArgs false

/-! ### retain_Apply: function 14 -/
def retain_Apply.l0 : Nat → List (S46) → List Int → Int → Int → Int → Int → Int → Int → List (S43) → List (S29) → Option ((List (S46)))
 | 0, _, _, _, _, _, _, _, _, _, _ => none
 | k + 1, x5, x12, x13, x14, x185000, x185001, x185002, x185003, x185004, x185005 => if x14 < x13 then (if 0 ≤ x14 then (if x14 < (x12.length : Int) then ((change_Find.f x185000 x185001 x185002 x185003 x185004 x185005 (rd x12 x14)).bind fun bt189 => ((retain_Gone.f bt189.1 bt189.2.1 bt189.2.2.1 bt189.2.2.2.1 bt189.2.2.2.2.1 bt189.2.2.2.2.2.1 bt189.2.2.2.2.2.2.1 bt189.2.2.2.2.2.2.2.1 bt189.2.2.2.2.2.2.2.2.1 bt189.2.2.2.2.2.2.2.2.2.1 bt189.2.2.2.2.2.2.2.2.2.2.1 bt189.2.2.2.2.2.2.2.2.2.2.2.1 bt189.2.2.2.2.2.2.2.2.2.2.2.2.1 bt189.2.2.2.2.2.2.2.2.2.2.2.2.2.1 bt189.2.2.2.2.2.2.2.2.2.2.2.2.2.2.1 bt189.2.2.2.2.2.2.2.2.2.2.2.2.2.2.2.1 bt189.2.2.2.2.2.2.2.2.2.2.2.2.2.2.2.2.1 bt189.2.2.2.2.2.2.2.2.2.2.2.2.2.2.2.2.2.1 bt189.2.2.2.2.2.2.2.2.2.2.2.2.2.2.2.2.2.2.1 bt189.2.2.2.2.2.2.2.2.2.2.2.2.2.2.2.2.2.2.2.1).bind fun bt211 => (if x5.length < 488671834567 then (retain_Apply.l0 k (x5 ++ [(⟨3, (⟨0, (⟨#[]⟩ : ByteArray), (⟨#[]⟩ : ByteArray), 0, 0⟩ : S43), (⟨bt211.1, bt211.2.1, bt211.2.2.1, bt211.2.2.2.1, bt211.2.2.2.2.1, bt211.2.2.2.2.2.1, bt211.2.2.2.2.2.2.1, bt211.2.2.2.2.2.2.2.1, bt211.2.2.2.2.2.2.2.2.1, bt211.2.2.2.2.2.2.2.2.2.1, bt211.2.2.2.2.2.2.2.2.2.2.1, bt211.2.2.2.2.2.2.2.2.2.2.2.1, bt211.2.2.2.2.2.2.2.2.2.2.2.2.1, bt211.2.2.2.2.2.2.2.2.2.2.2.2.2.1, bt211.2.2.2.2.2.2.2.2.2.2.2.2.2.2.1, bt211.2.2.2.2.2.2.2.2.2.2.2.2.2.2.2.1, bt211.2.2.2.2.2.2.2.2.2.2.2.2.2.2.2.2.1, bt211.2.2.2.2.2.2.2.2.2.2.2.2.2.2.2.2.2.1, bt211.2.2.2.2.2.2.2.2.2.2.2.2.2.2.2.2.2.2.1, bt211.2.2.2.2.2.2.2.2.2.2.2.2.2.2.2.2.2.2.2⟩ : S29), 0, 0⟩ : S46)]) x12 x13 (wrap64 (x14 + 1)) x185000 x185001 x185002 x185003 x185004 x185005) else (none)))) else (none)) else (none)) else (some x5)
def retain_Apply.f (k : Nat) (a0_0 : Int) (a0_1 : Int) (a0_2 : Int) (a0_3 : Int) (l0_4 : List (S43)) (l0_5 : List (S29)) (a1 : Int) : Option ((List (S46))) := (retain_Over.f k a0_0 a0_1 a0_2 a0_3 l0_4 l0_5 a1).bind fun t185 => (retain_Apply.l0 k ([] : List (S46)) t185 (t185.length : Int) 0 a0_0 a0_1 a0_2 a0_3 l0_4 l0_5)
theorem retain_Apply.mono_l : ∀ k, (∀ y0 y1 y2 y3 y4 y5 y6 y7 y8 y9, LeO (retain_Apply.l0 k y0 y1 y2 y3 y4 y5 y6 y7 y8 y9) (retain_Apply.l0 (k + 1) y0 y1 y2 y3 y4 y5 y6 y7 y8 y9))
 | 0 => fun _ _ _ _ _ _ _ _ _ _ r h => by simp [retain_Apply.l0] at h
 | k + 1 => by
  have ih0 := retain_Apply.mono_l k
  ·intro y0 y1 y2 y3 y4 y5 y6 y7 y8 y9
   unfold retain_Apply.l0
   repeat' first
   | (with_reducible exact ih0 _ _ _ _ _ _ _ _ _ _)
   | (with_reducible exact retain_Over.mono _ _ _ _ _ _ _ _)
   | (with_reducible exact LeO.refl _)
   | (with_reducible exact LeO.none _)
   | (with_reducible refine LeO.ite ?_ ?_)
   | (with_reducible refine LeO.bind ?_ (fun _ => ?_))
   | exact ih0 _ _ _ _ _ _ _ _ _ _
   | exact retain_Over.mono _ _ _ _ _ _ _ _
   | exact LeO.none _
   | refine LeO.ite ?_ ?_
   | refine LeO.bind ?_ (fun _ => ?_)
theorem retain_Apply.mono : ∀ a0 a1 a2 a3 a4 a5 a6 k, LeO (retain_Apply.f k a0 a1 a2 a3 a4 a5 a6) (retain_Apply.f (k + 1) a0 a1 a2 a3 a4 a5 a6) := by
 intro a0 a1 a2 a3 a4 a5 a6 k
 have ih0 := retain_Apply.mono_l k
 unfold retain_Apply.f
 repeat' first
   | (with_reducible exact ih0 _ _ _ _ _ _ _ _ _ _)
   | (with_reducible exact retain_Over.mono _ _ _ _ _ _ _ _)
   | (with_reducible exact LeO.refl _)
   | (with_reducible exact LeO.none _)
   | (with_reducible refine LeO.ite ?_ ?_)
   | (with_reducible refine LeO.bind ?_ (fun _ => ?_))
   | exact ih0 _ _ _ _ _ _ _ _ _ _
   | exact retain_Over.mono _ _ _ _ _ _ _ _
   | exact LeO.none _
   | refine LeO.ite ?_ ?_
   | refine LeO.bind ?_ (fun _ => ?_)
set_option maxHeartbeats 2000000 in
set_option maxRecDepth 100000 in
theorem retain_Apply.calls (k : Nat) (a0_0 : Int) (a0_1 : Int) (a0_2 : Int) (a0_3 : Int) (A0_4 : Option Addr) (c0_4 : Nat) (l0_4 : List (S43)) (A0_5 : Option Addr) (c0_5 : Nat) (l0_5 : List (S29)) (a1 : Int) (r : List (S46)) (w : World) (hr0_4 : Kd.C k43 w A0_4 l0_4.length l0_4) (hc0_4 : l0_4.length ≤ c0_4) (hr0_5 : Kd.C k29 w A0_5 l0_5.length l0_5) (hc0_5 : l0_5.length ≤ c0_5) (h : retain_Apply.f k a0_0 a0_1 a0_2 a0_3 l0_4 l0_5 a1 = some r) :
  Calls Try.prog 14 #[.agg #[.int .i64 a0_0, .int .i64 a0_1, .int .i64 a0_2, .int .i64 a0_3, .slice A0_4 l0_4.length c0_4, .slice A0_5 l0_5.length c0_5], .int .i64 a1] w fun e w' => ∃ v0_ : Value, e = .returned (v0_) ∧ Kd.R k46 46 w' w.heap.size (fun _ => True) v0_ r ∧ Below w.heap.size w w' := by
 have hu25 := Try.underlying25
 have hu29 := Try.underlying29
 have hu46 := Try.underlying46
 have HR0_4 := mkA hr0_4
 have HC0_4 := mkA hc0_4
 clear hr0_4 hc0_4
 have HR0_5 := mkA hr0_5
 have HC0_5 := mkA hc0_5
 clear hr0_5 hc0_5
 have HB := mkA (Below.refl w.heap.size w)
 have H : ((retain_Over.f k a0_0 a0_1 a0_2 a0_3 l0_4 l0_5 a1).bind fun t185 => (retain_Apply.l0 k ([] : List (S46)) t185 (t185.length : Int) 0 a0_0 a0_1 a0_2 a0_3 l0_4 l0_5)) = some r := h
 clear h
 replace H := Option.bind_eq_some_iff.mp H
 obtain ⟨t185, A30, H⟩ := H
 replace H : (retain_Apply.l0 k ([] : List (S46)) t185 (t185.length : Int) 0 a0_0 a0_1 a0_2 a0_3 l0_4 l0_5) = some r := H
 have A3 := mkA A30
 clear A30
 have H' := mkA H
 clear H
 go_enter Try.func14, Try.ntmps14
 go_wp2_with (first | ((with_reducible refine gate_load (t := 25) rfl ?_); refine load_row3 (t := 25) (g := gb184) ?hg BK184.out ?ho ?hb Try.underlying25 rfl ?hs ?_; (case hg => rfl); (case ho => refine ⟨_, rfl, ?_⟩; first | (with_reducible rfl) | (go_simp; done)); (case hb => (with_reducible repeat (first | refine blk_drewN ?_ _ | refine blk_drew ?_ | refine blk_alloc ?_ _)); with_reducible exact BK184.out); (case hs => kernel_rfl)) | ((with_reducible refine gate_dst (N := 2) rfl ?_); refine box_event ?hg (N := 2) ?hd (cs := #[.int .i64 a0_0, .int .i64 a0_1, .int .i64 a0_2, .int .i64 a0_3, .slice A0_4 l0_4.length c0_4, .slice A0_5 l0_5.length c0_5]) (t := 25) ?hr ?_; (case hd => rfl); (case hg => rfl); (case hr => first | (go_simp; done) | (go_simp; rfl)); intro gb184 hg w4 hbox hb; have n0_ := mkA (below_step (below_y HB.out) hb); have n1_ := mkA (hbox); have n2_ := mkA ((gz hg HB.out : w.heap.size ≤ gb184)); have n3_ := mkA ((gz hg HB.out : w.heap.size ≤ gb184)); clear HB; have HB := n0_; have BK184 := n1_; have GW184 := n2_; have GE184 := n3_; clear n0_ n1_ n2_ n3_; clear hb hbox hg; have hcz5_0 := bc BK184.out 0 _ rfl; have hcz5_1 := bc BK184.out 1 _ rfl; have hcz5_2 := bc BK184.out 2 _ rfl; have hcz5_3 := bc BK184.out 3 _ rfl; have hcz5_4 := bc BK184.out 4 _ rfl; have hcz5_5 := bc BK184.out 5 _ rfl; have hfz5_0 := blk_frozen BK184.out 0; have hfz5_1 := blk_frozen BK184.out 1; have hfz5_2 := blk_frozen BK184.out 2; have hfz5_3 := blk_frozen BK184.out 3; have hfz5_4 := blk_frozen BK184.out 4; have hfz5_5 := blk_frozen BK184.out 5) | ((with_reducible refine gate_callee (f := 11) rfl ?_); refine goesL_ (some 12) rfl rfl Try.func11 (by kernel_rfl) rfl #[.agg #[.int .i64 a0_0, .int .i64 a0_1, .int .i64 a0_2, .int .i64 a0_3, .slice A0_4 l0_4.length c0_4, .slice A0_5 l0_5.length c0_5], .int .i64 a1] rfl ca ?_; (with_reducible refine (retain_Over.calls _ _ _ _ _ _ _ _ _ _ _ _ _ _ ?side1 ?side2 ?side3 ?side4 A3.out).mono ?_); (case side1 => exact cz HR0_4.out HB.out); (case side2 => exact HC0_4.out); (case side3 => exact cz HR0_5.out HB.out); (case side4 => exact HC0_5.out); rintro e w6 ⟨v186, rfl, ho0, hb⟩; refine ⟨_, rfl, ?_⟩; have n0_ := mkA (Kd.R_lower ho0 (below_size (below_y HB.out))); have n1_ := mkA (blk_below (blk_y BK184.out) hb); have n2_ := mkA (below_step (below_y HB.out) hb); clear BK184; clear HB; have HO187 := n0_; have BK184 := n1_; have HB := n2_; clear n0_ n1_ n2_; (try clear hb); (try clear hb2); (try clear hk); (try clear hi); (try clear ho0); obtain ⟨Ao7, co7, eo7⟩ := Kd.R_slice HO187.out; subst eo7))
 go_loopg [5, 14] k (fun kq v5 v14 w' => ∃ (x5_1 : List (S46)) (x14_1 : Int), v14 = .int .i64 x14_1 ∧ Aside0 (retain_Apply.l0 kq x5_1 t185 (t185.length : Int) x14_1 a0_0 a0_1 a0_2 a0_3 l0_4 l0_5 = some r) ∧ Aside0 (kq ≤ k) ∧ Aside0 (Kd.R k46 46 w' w.heap.size (fun _ => True) v5 x5_1) ∧ Aside0 (Kd.R (Kd.int .i64) 3 w' w.heap.size (fun _ => True) (.slice Ao7 t185.length co7) t185) ∧ Aside0 (w'.heap[gb184]? = some (.cells #[.int .i64 a0_0, .int .i64 a0_1, .int .i64 a0_2, .int .i64 a0_3, (.slice A0_4 l0_4.length c0_4), (.slice A0_5 l0_5.length c0_5)] 25 (0, 0))) ∧ Aside0 (Below w.heap.size w w'))
 case atStart => exact ⟨(([] : List (S46))), (0), (by first | rfl | (simp; done) | (simp [*]; done)), H', ⟨Nat.le_refl _⟩, ⟨by first | exact Kd.R_nil _ _ _ _ _ | exact Kd.N_nil _ _ _ _ _ | exact Kd.V_nil _ _ _ _ _ | exact Kd.Q_nil _ _ _ _ _ | exact Kd.S_nil _ _ _ _ _⟩, ⟨by (with_reducible repeat (first | apply Kd.R_alloc | apply Kd.R_drewN | apply Kd.R_drew)); exact HO187.out⟩, ⟨by (with_reducible repeat (first | refine blk_drewN ?_ _ | refine blk_drew ?_ | refine blk_alloc ?_ _)); exact BK184.out⟩, ⟨by repeat (first | (with_reducible first | exact HB.out | apply below_alloc | apply pw_below_drewN | apply below_drew1 | refine below_set ?_ GE184.out) | exact HB.out)⟩⟩
 case round =>
  clear H'
  try clear c1
  try clear p2
  try clear hcz5_0
  try clear hcz5_1
  try clear hcz5_2
  try clear hcz5_3
  try clear hcz5_4
  try clear hcz5_5
  try clear hfz5_0
  try clear hfz5_1
  try clear hfz5_2
  try clear hfz5_3
  try clear hfz5_4
  try clear hfz5_5
  obtain ⟨x5_1, x14_1, rfl, HA, HK1, HO_5, HO_12, BK184, HB⟩ := hrel
  cases gk with
  | zero => exact absurd HA.out (by simp [retain_Apply.l0])
  | succ k1 =>
   have H := HA.out
   clear HA
   simp only [retain_Apply.l0] at H
   by_cases c8 : x14_1 < (t185.length : Int)
   ·rw [if_pos c8] at H
    have c8b0 : decide (x14_1 < (t185.length : Int)) = true := decide_eq_true c8
    clear c8
    by_cases c9 : 0 ≤ x14_1
    ·rw [if_pos c9] at H
     have c9b0 : decide (0 ≤ x14_1) = true := decide_eq_true c9
     clear c9
     by_cases c10 : x14_1 < (t185.length : Int)
     ·rw [if_pos c10] at H
      have c10b0 : decide (x14_1 < (t185.length : Int)) = true := decide_eq_true c10
      clear c10
      replace H := Option.bind_eq_some_iff.mp H
      obtain ⟨⟨t189, t190, t191, t192, t193, t194, t195, t196, t197, t198, t199, t200, t201, t202, t203, t204, t205, t206, t207, t208, t209⟩, A110, H⟩ := H
      replace H : ((retain_Gone.f t189 t190 t191 t192 t193 t194 t195 t196 t197 t198 t199 t200 t201 t202 t203 t204 t205 t206 t207 t208).bind fun bt211 => (if x5_1.length < 488671834567 then (retain_Apply.l0 k1 (x5_1 ++ [(⟨3, (⟨0, (⟨#[]⟩ : ByteArray), (⟨#[]⟩ : ByteArray), 0, 0⟩ : S43), (⟨bt211.1, bt211.2.1, bt211.2.2.1, bt211.2.2.2.1, bt211.2.2.2.2.1, bt211.2.2.2.2.2.1, bt211.2.2.2.2.2.2.1, bt211.2.2.2.2.2.2.2.1, bt211.2.2.2.2.2.2.2.2.1, bt211.2.2.2.2.2.2.2.2.2.1, bt211.2.2.2.2.2.2.2.2.2.2.1, bt211.2.2.2.2.2.2.2.2.2.2.2.1, bt211.2.2.2.2.2.2.2.2.2.2.2.2.1, bt211.2.2.2.2.2.2.2.2.2.2.2.2.2.1, bt211.2.2.2.2.2.2.2.2.2.2.2.2.2.2.1, bt211.2.2.2.2.2.2.2.2.2.2.2.2.2.2.2.1, bt211.2.2.2.2.2.2.2.2.2.2.2.2.2.2.2.2.1, bt211.2.2.2.2.2.2.2.2.2.2.2.2.2.2.2.2.2.1, bt211.2.2.2.2.2.2.2.2.2.2.2.2.2.2.2.2.2.2.1, bt211.2.2.2.2.2.2.2.2.2.2.2.2.2.2.2.2.2.2.2⟩ : S29), 0, 0⟩ : S46)]) t185 (t185.length : Int) (wrap64 (x14_1 + 1)) a0_0 a0_1 a0_2 a0_3 l0_4 l0_5) else (none))) = some r := H
      have A11 := mkA A110
      clear A110
      replace H := Option.bind_eq_some_iff.mp H
      obtain ⟨⟨t211, t212, t213, t214, t215, t216, t217, t218, t219, t220, t221, t222, t223, t224, t225, t226, t227, t228, t229, t230⟩, A120, H⟩ := H
      replace H : (if x5_1.length < 488671834567 then (retain_Apply.l0 k1 (x5_1 ++ [(⟨3, (⟨0, (⟨#[]⟩ : ByteArray), (⟨#[]⟩ : ByteArray), 0, 0⟩ : S43), (⟨t211, t212, t213, t214, t215, t216, t217, t218, t219, t220, t221, t222, t223, t224, t225, t226, t227, t228, t229, t230⟩ : S29), 0, 0⟩ : S46)]) t185 (t185.length : Int) (wrap64 (x14_1 + 1)) a0_0 a0_1 a0_2 a0_3 l0_4 l0_5) else (none)) = some r := H
      have A12 := mkA A120
      clear A120
      by_cases c13 : x5_1.length < 488671834567
      ·rw [if_pos c13] at H
       have LMc13 := mkA c13
       clear c13
       obtain ⟨y231, hy231⟩ : ∃ y_ : List (S46), y_ = (x5_1 ++ [(⟨3, (⟨0, (⟨#[]⟩ : ByteArray), (⟨#[]⟩ : ByteArray), 0, 0⟩ : S43), (⟨t211, t212, t213, t214, t215, t216, t217, t218, t219, t220, t221, t222, t223, t224, t225, t226, t227, t228, t229, t230⟩ : S29), 0, 0⟩ : S46)]) := ⟨_, rfl⟩
       replace H : (retain_Apply.l0 k1 y231 t185 (t185.length : Int) (wrap64 (x14_1 + 1)) a0_0 a0_1 a0_2 a0_3 l0_4 l0_5) = some r := by first | (rw [hy231]; with_reducible exact H) | (have H2_ := (Option.bind_some _ _).symm.trans H; rw [hy231]; with_reducible exact H2_) | (have H2_ := (Option.bind_some _ _).symm.trans H; with_reducible exact H2_) | with_reducible exact H | (rw [hy231]; exact H) | exact H
       have Ny231 := mkA hy231
       clear hy231
       have H' := mkA H
       clear H
       have p188 : 0 ≤ (x14_1 : Int) := odt
       have q188 : x14_1 < (t185.length : Int) := odt
       obtain ⟨ad188, e188, hx188_0⟩ := Kd.at_int (Kd.R_reads' HO_12.out).2.2 x14_1 p188 q188
       cases e188
       replace p188 := eq_true p188
       replace q188 := eq_true q188
       have hcz14_0 := bc BK184.out 0 _ rfl
       have hcz14_1 := bc BK184.out 1 _ rfl
       have hcz14_2 := bc BK184.out 2 _ rfl
       have hcz14_3 := bc BK184.out 3 _ rfl
       have hcz14_4 := bc BK184.out 4 _ rfl
       have hcz14_5 := bc BK184.out 5 _ rfl
       have hfz14_0 := blk_frozen BK184.out 0
       have hfz14_1 := blk_frozen BK184.out 1
       have hfz14_2 := blk_frozen BK184.out 2
       have hfz14_3 := blk_frozen BK184.out 3
       have hfz14_4 := blk_frozen BK184.out 4
       have hfz14_5 := blk_frozen BK184.out 5
       go_wp2_with (first | ((with_reducible refine gate_load (t := 25) rfl ?_); refine load_row3 (t := 25) (g := gb184) ?hg BK184.out ?ho ?hb Try.underlying25 rfl ?hs ?_; (case hg => rfl); (case ho => refine ⟨_, rfl, ?_⟩; first | (with_reducible rfl) | (go_simp; done)); (case hb => (with_reducible repeat (first | refine blk_drewN ?_ _ | refine blk_drew ?_ | refine blk_alloc ?_ _)); with_reducible exact BK184.out); (case hs => kernel_rfl)) | ((with_reducible refine gate_load (t := 29) rfl ?_); refine load_row3 (t := 29) (g := gb210) ?hg BK210.out ?ho ?hb Try.underlying29 rfl ?hs ?_; (case hg => rfl); (case ho => refine ⟨_, rfl, ?_⟩; first | (with_reducible rfl) | (go_simp; done)); (case hb => (with_reducible repeat (first | refine blk_drewN ?_ _ | refine blk_drew ?_ | refine blk_alloc ?_ _)); with_reducible exact BK210.out); (case hs => kernel_rfl)) | ((with_reducible refine gate_callee (f := 25) rfl ?_); refine goesL_ (some 21) rfl rfl Try.func25 (by kernel_rfl) rfl #[.agg #[.int .i64 a0_0, .int .i64 a0_1, .int .i64 a0_2, .int .i64 a0_3, .slice A0_4 l0_4.length c0_4, .slice A0_5 l0_5.length c0_5], .int .i64 (rd t185 x14_1)] rfl ca ?_; (with_reducible refine (change_Find.calls _ _ _ _ _ _ _ _ _ _ _ _ _ _ _ _ _ _ _ _ _ _ _ _ _ _ _ _ _ _ _ _ _ ?side1 ?side2 ?side3 ?side4 A11.out).mono ?_); (case side1 => exact cz HR0_4.out HB.out); (case side2 => exact HC0_4.out); (case side3 => exact cz HR0_5.out HB.out); (case side4 => exact HC0_5.out); rintro e w15 ⟨rfl, hb⟩; refine ⟨_, rfl, ?_⟩; have n0_ := mkA (Kd.R_below (Kd.R_y HO_5.out) hb); have n1_ := mkA (Kd.R_below (Kd.R_y HO_12.out) hb); have n2_ := mkA (blk_below (blk_y BK184.out) hb); have n3_ := mkA (below_step (below_y HB.out) hb); clear HO_5; clear HO_12; clear BK184; clear HB; have HO_5 := n0_; have HO_12 := n1_; have BK184 := n2_; have HB := n3_; clear n0_ n1_ n2_ n3_; (try clear hb); (try clear hb2); (try clear hk); (try clear hi)) | ((with_reducible refine gate_dst (N := 8) rfl ?_); refine box_event ?hg (N := 8) ?hd (cs := #[.int .i64 0, .int .i64 0, .string (⟨#[]⟩ : ByteArray), .string (⟨#[]⟩ : ByteArray), .string (⟨#[]⟩ : ByteArray), .int .i64 0, .int .i64 0, .int .i64 0, .int .i64 0, .bool false, .int .i64 0, .int .i64 0, .int .i64 0, .string (⟨#[]⟩ : ByteArray), .int .i64 0, .int .i64 0, .string (⟨#[]⟩ : ByteArray), .int .i64 0, .int .i64 0, .string (⟨#[]⟩ : ByteArray)]) (t := 29) ?hr ?_; (case hd => rfl); (case hg => rfl); (case hr => first | (go_simp; done) | (go_simp; rfl)); intro gb210 hg w16 hbox hb; have n0_ := mkA (Kd.R_below (Kd.R_y HO_5.out) hb); have n1_ := mkA (Kd.R_below (Kd.R_y HO_12.out) hb); have n2_ := mkA (blk_below (blk_y BK184.out) hb); have n3_ := mkA (below_step (below_y HB.out) hb); have n4_ := mkA (hbox); have n5_ := mkA ((gz hg HB.out : w.heap.size ≤ gb210)); have n6_ := mkA ((gz hg HB.out : w.heap.size ≤ gb210)); have n7_ := mkA ((gn hg BK184.out : gb184 ≠ gb210)); have n8_ := mkA ((gm hg BK184.out : gb210 ≠ gb184)); clear HO_5; clear HO_12; clear BK184; clear HB; have HO_5 := n0_; have HO_12 := n1_; have BK184 := n2_; have HB := n3_; have BK210 := n4_; have GW210 := n5_; have GE210 := n6_; have NB184_210 := n7_; have NB210_184 := n8_; clear n0_ n1_ n2_ n3_ n4_ n5_ n6_ n7_ n8_; clear hb hbox hg; have hnb17 := NB210_184.out; have hnc17 := NB184_210.out; have hcz18_0 := bc BK210.out 0 _ rfl; have hcz18_1 := bc BK210.out 1 _ rfl; have hcz18_2 := bc BK210.out 2 _ rfl; have hcz18_3 := bc BK210.out 3 _ rfl; have hcz18_4 := bc BK210.out 4 _ rfl; have hcz18_5 := bc BK210.out 5 _ rfl; have hcz18_6 := bc BK210.out 6 _ rfl; have hcz18_7 := bc BK210.out 7 _ rfl; have hcz18_8 := bc BK210.out 8 _ rfl; have hcz18_9 := bc BK210.out 9 _ rfl; have hcz18_10 := bc BK210.out 10 _ rfl; have hcz18_11 := bc BK210.out 11 _ rfl; have hcz18_12 := bc BK210.out 12 _ rfl; have hcz18_13 := bc BK210.out 13 _ rfl; have hcz18_14 := bc BK210.out 14 _ rfl; have hcz18_15 := bc BK210.out 15 _ rfl; have hcz18_16 := bc BK210.out 16 _ rfl; have hcz18_17 := bc BK210.out 17 _ rfl; have hcz18_18 := bc BK210.out 18 _ rfl; have hcz18_19 := bc BK210.out 19 _ rfl; have hfz18_0 := blk_frozen BK210.out 0; have hfz18_1 := blk_frozen BK210.out 1; have hfz18_2 := blk_frozen BK210.out 2; have hfz18_3 := blk_frozen BK210.out 3; have hfz18_4 := blk_frozen BK210.out 4; have hfz18_5 := blk_frozen BK210.out 5; have hfz18_6 := blk_frozen BK210.out 6; have hfz18_7 := blk_frozen BK210.out 7; have hfz18_8 := blk_frozen BK210.out 8; have hfz18_9 := blk_frozen BK210.out 9; have hfz18_10 := blk_frozen BK210.out 10; have hfz18_11 := blk_frozen BK210.out 11; have hfz18_12 := blk_frozen BK210.out 12; have hfz18_13 := blk_frozen BK210.out 13; have hfz18_14 := blk_frozen BK210.out 14; have hfz18_15 := blk_frozen BK210.out 15; have hfz18_16 := blk_frozen BK210.out 16; have hfz18_17 := blk_frozen BK210.out 17; have hfz18_18 := blk_frozen BK210.out 18; have hfz18_19 := blk_frozen BK210.out 19) | ((with_reducible refine gate_store (t := 29) (p := 8) rfl ?_); refine store_whole2 (t := 29) (g := gb210) ?hg ?hn (cells := #[.int .i64 t189, .int .i64 t190, .string t191, .string t192, .string t193, .int .i64 t194, .int .i64 t195, .int .i64 t196, .int .i64 t197, .bool t198, .int .i64 t199, .int .i64 t200, .int .i64 t201, .string t202, .int .i64 t203, .int .i64 t204, .string t205, .int .i64 t206, .int .i64 t207, .string t208]) ?ho (blk_y BK210.out) (by kernel_rfl) rfl ?h1 ?_; (case hg => rfl); (case hn => rfl); (case ho => refine ⟨_, _, rfl, ?_, ?_⟩; all_goals (first | (with_reducible rfl) | (go_simp; done) | rfl | (go_simp; rfl))); (case h1 => first | rfl | simp [Value.oneCell']); intro w19 hw; have hg : w16.grownBy w19 (some gb210) := (by rw [hw]; exact grown_setRow _ _ _); have n0_ := mkA ((by have h0_ : Kd.R k46 46 w16 w.heap.size (fun _ => True) u5 x5_1 := (Kd.R_y HO_5.out); exact Kd.R_mono (Kd.R_grown (Kd.R_types h0_ (blk_y BK210.out) (by decide)) hg (fun k_ hk_ e_ => hk_.2 (Option.some.inj e_))) (fun _ h_ => h_.1) : Kd.R k46 46 w19 w.heap.size (fun _ => True) u5 x5_1)); have n1_ := mkA ((by have h0_ : Kd.R (Kd.int .i64) 3 w16 w.heap.size (fun _ => True) (.slice (some ad188) t185.length co7) t185 := (Kd.R_y HO_12.out); exact Kd.R_mono (Kd.R_grown (Kd.R_types h0_ (blk_y BK210.out) (by decide)) hg (fun k_ hk_ e_ => hk_.2 (Option.some.inj e_))) (fun _ h_ => h_.1) : Kd.R (Kd.int .i64) 3 w19 w.heap.size (fun _ => True) (.slice (some ad188) t185.length co7) t185)); have n2_ := mkA ((by rw [hw]; exact (setRow_other _ _ _ _ NB184_210.out).trans (blk_y BK184.out) : w19.heap[gb184]? = some (.cells #[.int .i64 a0_0, .int .i64 a0_1, .int .i64 a0_2, .int .i64 a0_3, .slice A0_4 l0_4.length c0_4, .slice A0_5 l0_5.length c0_5] 25 (0, 0)))); have n3_ := mkA ((by rw [hw]; exact setRow_heap _ _ _ _ _ _ (blk_y BK210.out) : w19.heap[gb210]? = some (.cells #[.int .i64 t189, .int .i64 t190, .string t191, .string t192, .string t193, .int .i64 t194, .int .i64 t195, .int .i64 t196, .int .i64 t197, .bool t198, .int .i64 t199, .int .i64 t200, .int .i64 t201, .string t202, .int .i64 t203, .int .i64 t204, .string t205, .int .i64 t206, .int .i64 t207, .string t208] 29 (0, 0)))); have n4_ := mkA ((by rw [hw]; exact below_setRow (below_y HB.out) GE210.out _ : Below w.heap.size w w19)); clear HO_5; clear HO_12; clear BK184; clear BK210; clear HB; have HO_5 := n0_; have HO_12 := n1_; have BK184 := n2_; have BK210 := n3_; have HB := n4_; clear n0_ n1_ n2_ n3_ n4_; clear hg hw; have hcz20_0 := bc BK210.out 0 _ rfl; have hcz20_1 := bc BK210.out 1 _ rfl; have hcz20_2 := bc BK210.out 2 _ rfl; have hcz20_3 := bc BK210.out 3 _ rfl; have hcz20_4 := bc BK210.out 4 _ rfl; have hcz20_5 := bc BK210.out 5 _ rfl; have hcz20_6 := bc BK210.out 6 _ rfl; have hcz20_7 := bc BK210.out 7 _ rfl; have hcz20_8 := bc BK210.out 8 _ rfl; have hcz20_9 := bc BK210.out 9 _ rfl; have hcz20_10 := bc BK210.out 10 _ rfl; have hcz20_11 := bc BK210.out 11 _ rfl; have hcz20_12 := bc BK210.out 12 _ rfl; have hcz20_13 := bc BK210.out 13 _ rfl; have hcz20_14 := bc BK210.out 14 _ rfl; have hcz20_15 := bc BK210.out 15 _ rfl; have hcz20_16 := bc BK210.out 16 _ rfl; have hcz20_17 := bc BK210.out 17 _ rfl; have hcz20_18 := bc BK210.out 18 _ rfl; have hcz20_19 := bc BK210.out 19 _ rfl; have hfz20_0 := blk_frozen BK210.out 0; have hfz20_1 := blk_frozen BK210.out 1; have hfz20_2 := blk_frozen BK210.out 2; have hfz20_3 := blk_frozen BK210.out 3; have hfz20_4 := blk_frozen BK210.out 4; have hfz20_5 := blk_frozen BK210.out 5; have hfz20_6 := blk_frozen BK210.out 6; have hfz20_7 := blk_frozen BK210.out 7; have hfz20_8 := blk_frozen BK210.out 8; have hfz20_9 := blk_frozen BK210.out 9; have hfz20_10 := blk_frozen BK210.out 10; have hfz20_11 := blk_frozen BK210.out 11; have hfz20_12 := blk_frozen BK210.out 12; have hfz20_13 := blk_frozen BK210.out 13; have hfz20_14 := blk_frozen BK210.out 14; have hfz20_15 := blk_frozen BK210.out 15; have hfz20_16 := blk_frozen BK210.out 16; have hfz20_17 := blk_frozen BK210.out 17; have hfz20_18 := blk_frozen BK210.out 18; have hfz20_19 := blk_frozen BK210.out 19) | ((with_reducible refine gate_callee (f := 8) rfl ?_); refine goesL_ (some 26) rfl rfl Try.func8 (by kernel_rfl) rfl #[.agg #[.int .i64 t189, .int .i64 t190, .string t191, .string t192, .string t193, .int .i64 t194, .int .i64 t195, .int .i64 t196, .int .i64 t197, .bool t198, .int .i64 t199, .int .i64 t200, .int .i64 t201, .string t202, .int .i64 t203, .int .i64 t204, .string t205, .int .i64 t206, .int .i64 t207, .string t208]] rfl ca ?_; (with_reducible refine (retain_Gone.calls _ _ _ _ _ _ _ _ _ _ _ _ _ _ _ _ _ _ _ _ _ _ _ _ _ _ _ _ _ _ _ _ _ _ _ _ _ _ _ _ _ A12.out).mono ?_); rintro e w21 ⟨rfl, hb⟩; refine ⟨_, rfl, ?_⟩; have n0_ := mkA (Kd.R_below (Kd.R_y HO_5.out) hb); have n1_ := mkA (Kd.R_below (Kd.R_y HO_12.out) hb); have n2_ := mkA (blk_below (blk_y BK184.out) hb); have n3_ := mkA (blk_below (blk_y BK210.out) hb); have n4_ := mkA (below_step (below_y HB.out) hb); clear HO_5; clear HO_12; clear BK184; clear BK210; clear HB; have HO_5 := n0_; have HO_12 := n1_; have BK184 := n2_; have BK210 := n3_; have HB := n4_; clear n0_ n1_ n2_ n3_ n4_; (try clear hb); (try clear hb2); (try clear hk); (try clear hi)) | ((with_reducible refine gate_builtin (b := .append) (xs := #[.tmp 24, .tmp 28]) rfl ?_); at_builtin; refine Kd.R_append k46 (w0 := w) w.heap.size rfl (.tmp 24) (.tmp 28) 35 46 (.agg #[(.int .i64 0), (.int .i64 0), (.string ⟨#[]⟩), (.string ⟨#[]⟩), (.int .i64 0), (.int .i64 0), (.int .i64 0), (.int .i64 0), (.string ⟨#[]⟩), (.string ⟨#[]⟩), (.string ⟨#[]⟩), (.int .i64 0), (.int .i64 0), (.int .i64 0), (.int .i64 0), (.bool false), (.int .i64 0), (.int .i64 0), (.int .i64 0), (.string ⟨#[]⟩), (.int .i64 0), (.int .i64 0), (.string ⟨#[]⟩), (.int .i64 0), (.int .i64 0), (.string ⟨#[]⟩), (.int .i64 0), (.int .i64 0)]) 288 rfl Try.underlying35 info46 rfl (by decide) (by omega) u5 x5_1 (⟨3, (⟨0, (⟨#[]⟩ : ByteArray), (⟨#[]⟩ : ByteArray), 0, 0⟩ : S43), (⟨t211, t212, t213, t214, t215, t216, t217, t218, t219, t220, t221, t222, t223, t224, t225, t226, t227, t228, t229, t230⟩ : S29), 0, 0⟩ : S46) [.int .i64 3, .int .i64 0, .string (⟨#[]⟩ : ByteArray), .string (⟨#[]⟩ : ByteArray), .int .i64 0, .int .i64 0, .int .i64 t211, .int .i64 t212, .string t213, .string t214, .string t215, .int .i64 t216, .int .i64 t217, .int .i64 t218, .int .i64 t219, .bool t220, .int .i64 t221, .int .i64 t222, .int .i64 t223, .string t224, .int .i64 t225, .int .i64 t226, .string t227, .int .i64 t228, .int .i64 t229, .string t230, .int .i64 0, .int .i64 0] (fun _ => True) (fun _ => False) rfl rfl ?aP (fun _ hk => hk.elim) ?aF ?aO ?aB ?aS ?aL ?_; (case aP => exact k46_mkM _ _ _ (⟨3, (⟨0, (⟨#[]⟩ : ByteArray), (⟨#[]⟩ : ByteArray), 0, 0⟩ : S43), (⟨t211, t212, t213, t214, t215, t216, t217, t218, t219, t220, t221, t222, t223, t224, t225, t226, t227, t228, t229, t230⟩ : S29), 0, 0⟩ : S46)); (case aB => exact (below_y HB.out)); (case aF => exact (fun _ _ => trivial)); (case aO => exact (Kd.R_y HO_5.out)); (case aS => exact (below_size (below_y HB.out))); (case aL => have := LMc13.out; omega); intro v232 w22 ho hb hg hat; rw [← Ny231.out] at ho; have n0_ := mkA (Kd.R_over' (Kd.R_y HO_12.out) (Kd.R_typed (Kd.R_y HO_5.out)) (by decide) hg); have n1_ := mkA (blk_grown (blk_y BK184.out) hg (Kd.R_ne HO_5.out BK184.out (by decide))); have n2_ := mkA (blk_grown (blk_y BK210.out) hg (Kd.R_ne HO_5.out BK210.out (by decide))); have n3_ := mkA (hb); have n4_ := mkA (ho); clear HO_12; clear BK184; clear BK210; clear HB; clear HO_5; have HO_12 := n0_; have BK184 := n1_; have BK210 := n2_; have HB := n3_; have HO233 := n4_; clear n0_ n1_ n2_ n3_ n4_; clear ho hb hg hat))
       go_roundg k1
       case measure => have := HK1.out; omega
       case rel => exact ⟨(y231), (wrap64 (x14_1 + 1)), (by first | rfl | (simp; done) | (simp [*]; done)), H', ⟨by have := HK1.out; omega⟩, ⟨by (with_reducible repeat (first | apply Kd.R_alloc | apply Kd.R_drewN | apply Kd.R_drew)); exact HO233.out⟩, ⟨by (with_reducible repeat (first | apply Kd.R_alloc | apply Kd.R_drewN | apply Kd.R_drew)); exact HO_12.out⟩, ⟨by (with_reducible repeat (first | refine blk_drewN ?_ _ | refine blk_drew ?_ | refine blk_alloc ?_ _)); exact BK184.out⟩, ⟨by repeat (first | (with_reducible first | exact HB.out | apply below_alloc | apply pw_below_drewN | apply below_drew1 | refine below_set ?_ GE184.out | refine below_set ?_ GE210.out) | exact HB.out)⟩⟩
      ·rw [if_neg c13] at H
       exact absurd H (by simp)
     ·rw [if_neg c10] at H
      exact absurd H (by simp)
    ·rw [if_neg c9] at H
     exact absurd H (by simp)
   ·rw [if_neg c8] at H
    have c8b0 : decide (x14_1 < (t185.length : Int)) = false := decide_eq_false c8
    clear c8
    obtain rfl := Option.some.inj H
    go_wp2_with (first | ((with_reducible refine gate_load (t := 25) rfl ?_); refine load_row3 (t := 25) (g := gb184) ?hg BK184.out ?ho ?hb Try.underlying25 rfl ?hs ?_; (case hg => rfl); (case ho => refine ⟨_, rfl, ?_⟩; first | (with_reducible rfl) | (go_simp; done)); (case hb => (with_reducible repeat (first | refine blk_drewN ?_ _ | refine blk_drew ?_ | refine blk_alloc ?_ _)); with_reducible exact BK184.out); (case hs => kernel_rfl)))
    go_ret
    exact ⟨_, by first | rfl | (simp [errW_none, errW_some] <;> rfl) | (simp [*, errW_none, errW_some] <;> rfl), by (with_reducible repeat (first | apply Kd.R_alloc | apply Kd.R_drewN | apply Kd.R_drew)); exact HO_5.out, by repeat (first | (with_reducible first | exact HB.out | apply below_alloc | apply pw_below_drewN | apply below_drew1 | refine below_set ?_ GE184.out) | exact HB.out)⟩

end Go.Proofs.Ytcpojadlnpnbaaa.XRet
