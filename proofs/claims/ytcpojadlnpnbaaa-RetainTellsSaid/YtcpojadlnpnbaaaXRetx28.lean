-- By a program of this work (xprint.py) over the translation; Lean checks it.
import Derived.Test.YtcpojadlnpnbaaaXRetx0
namespace Go.Proofs.Ytcpojadlnpnbaaa.XRet
open Go.RowKit Go.Proofs.YtcpojadlnpnbaaaW.PrintWords Go.Proofs.YtcpojadlnpnbaaaW.PrintLast Go.Proofs.YtcpojadlnpnbaaaW.PrintMore
attribute [local go_sem] max2_int min2_int max_two min_two max_three min_three max_four min_four   -- for this text's walks alone
set_option linter.unusedVariables false
set_option linter.unusedSimpArgs false

/-! ### newsreelref41_published: function 23 -/
def newsreelref41_published.l0 : Nat → List (S29) → Int → Int → Int → Option (Int)
 | 0, _, _, _, _ => none
 | k + 1, x0, x1, x5, x6 => if x6 < (x0.length : Int) then (if 0 ≤ x6 then (if ((rd_T29 x0 x6).f1) = x1 then (if ((rd_T29 x0 x6).f7) = 3 then (newsreelref41_published.l0 k x0 x1 (wrap64 (x5 + 1)) (wrap64 (x6 + 1))) else (newsreelref41_published.l0 k x0 x1 x5 (wrap64 (x6 + 1)))) else (newsreelref41_published.l0 k x0 x1 x5 (wrap64 (x6 + 1)))) else (none)) else (some x5)
def newsreelref41_published.f (k : Nat) (l0 : List (S29)) (a1 : Int) : Option (Int) := newsreelref41_published.l0 k l0 a1 0 0
theorem newsreelref41_published.mono_l : ∀ k, (∀ y0 y1 y2 y3, LeO (newsreelref41_published.l0 k y0 y1 y2 y3) (newsreelref41_published.l0 (k + 1) y0 y1 y2 y3))
 | 0 => fun _ _ _ _ r h => by simp [newsreelref41_published.l0] at h
 | k + 1 => by
  have ih0 := newsreelref41_published.mono_l k
  ·intro y0 y1 y2 y3
   unfold newsreelref41_published.l0
   repeat' first
   | (with_reducible exact ih0 _ _ _ _)
   | (with_reducible exact LeO.refl _)
   | (with_reducible exact LeO.none _)
   | (with_reducible refine LeO.ite ?_ ?_)
   | (with_reducible refine LeO.bind ?_ (fun _ => ?_))
   | exact ih0 _ _ _ _
   | exact LeO.none _
   | refine LeO.ite ?_ ?_
   | refine LeO.bind ?_ (fun _ => ?_)
theorem newsreelref41_published.mono : ∀ a0 a1 k, LeO (newsreelref41_published.f k a0 a1) (newsreelref41_published.f (k + 1) a0 a1) := by
 intro a0 a1 k
 have ih0 := newsreelref41_published.mono_l k
 unfold newsreelref41_published.f
 repeat' first
   | (with_reducible exact ih0 _ _ _ _)
   | (with_reducible exact LeO.refl _)
   | (with_reducible exact LeO.none _)
   | (with_reducible refine LeO.ite ?_ ?_)
   | (with_reducible refine LeO.bind ?_ (fun _ => ?_))
   | exact ih0 _ _ _ _
   | exact LeO.none _
   | refine LeO.ite ?_ ?_
   | refine LeO.bind ?_ (fun _ => ?_)
set_option maxHeartbeats 2000000 in
set_option maxRecDepth 100000 in
theorem newsreelref41_published.calls (k : Nat) (A0 : Option Addr) (c0 : Nat) (l0 : List (S29)) (a1 : Int) (r : Int) (w : World) (hr0 : Kd.C k29 w A0 l0.length l0) (hc0 : l0.length ≤ c0) (h : newsreelref41_published.f k l0 a1 = some r) :
  Calls Try.prog 23 #[.slice A0 l0.length c0, .int .i64 a1] w fun e w' => e = .returned (.int .i64 r) ∧ Drawn0 w w' := by
 have HR0 := mkA hr0
 have HC0 := mkA hc0
 clear hr0 hc0
 have H : (newsreelref41_published.l0 k l0 a1 0 0) = some r := h
 clear h
 have H' := mkA H
 clear H
 go_enter Try.func23, Try.ntmps23
 go_wp2
 go_loopg [5, 6] k (fun kq v5 v6 w' => ∃ (x5_1 : Int) (x6_1 : Int), v5 = .int .i64 x5_1 ∧ v6 = .int .i64 x6_1 ∧ Aside0 (newsreelref41_published.l0 kq l0 a1 x5_1 x6_1 = some r) ∧ Aside0 (kq ≤ k) ∧ Drawn0 w w')
 case atStart => exact ⟨(0), (0), (by first | rfl | (simp; done) | (simp [*]; done)), (by first | rfl | (simp; done) | (simp [*]; done)), H', ⟨Nat.le_refl _⟩, by repeat (first | exact Drawn0.refl _ | apply Drawn0.step)⟩
 case round =>
  clear H'
  try clear c2
  try clear p2
  obtain ⟨x5_1, x6_1, rfl, rfl, HA, HK1, ⟨m1, rfl⟩⟩ := hrel
  cases gk with
  | zero => exact absurd HA.out (by simp [newsreelref41_published.l0])
  | succ k1 =>
   have H := HA.out
   clear HA
   simp only [newsreelref41_published.l0] at H
   by_cases c3 : x6_1 < (l0.length : Int)
   ·rw [if_pos c3] at H
    have c3b0 : decide (x6_1 < (l0.length : Int)) = true := decide_eq_true c3
    clear c3
    by_cases c4 : 0 ≤ x6_1
    ·rw [if_pos c4] at H
     have c4b0 : decide (0 ≤ x6_1) = true := decide_eq_true c4
     clear c4
     by_cases c5 : ((rd_T29 l0 x6_1).f1) = a1
     ·rw [if_pos c5] at H
      have c5b0 : (((rd_T29 l0 x6_1).f1) == a1) = true := beq_iff_eq.mpr c5
      have c5b1 : (((rd_T29 l0 x6_1).f1) != a1) = false := bne_eq_false_iff_eq.mpr c5
      clear c5
      by_cases c6 : ((rd_T29 l0 x6_1).f7) = 3
      ·rw [if_pos c6] at H
       have c6b0 : (((rd_T29 l0 x6_1).f7) == 3) = true := beq_iff_eq.mpr c6
       have c6b1 : (((rd_T29 l0 x6_1).f7) != 3) = false := bne_eq_false_iff_eq.mpr c6
       clear c6
       as_aux_lemma =>
        have H' := mkA H
        clear H
        have p257 : 0 ≤ (x6_1 : Int) := odt
        have q257 : x6_1 < (l0.length : Int) := odt
        obtain ⟨ad257, e257, hx257_0, hx257_1, hx257_2, hx257_3, hx257_4, hx257_5, hx257_6, hx257_7, hx257_8, hx257_9, hx257_10, hx257_11, hx257_12, hx257_13, hx257_14, hx257_15, hx257_16, hx257_17, hx257_18, hx257_19⟩ := at_T29 HR0.out x6_1 p257 q257
        cases e257
        replace p257 := eq_true p257
        replace q257 := eq_true q257
        have p258 : 0 ≤ (x6_1 : Int) := odt
        have q258 : x6_1 < (l0.length : Int) := odt
        obtain ⟨ad258, e258, hx258_0, hx258_1, hx258_2, hx258_3, hx258_4, hx258_5, hx258_6, hx258_7, hx258_8, hx258_9, hx258_10, hx258_11, hx258_12, hx258_13, hx258_14, hx258_15, hx258_16, hx258_17, hx258_18, hx258_19⟩ := at_T29 HR0.out x6_1 p258 q258
        obtain rfl : ad257 = ad258 := (by injection e258)
        replace p258 := eq_true p258
        replace q258 := eq_true q258
        go_wp2_with (first | ((with_reducible refine gate_load (t := 29) rfl ?_); refine load_at2 (t := 29) ?hg ?ho (c0 := _) (cs := [_, _, _, _, _, _, _, _, _, _, _, _, _, _, _, _, _, _, _]) Try.underlying29 rfl (by kernel_rfl) hx257_0 ⟨hx257_1, hx257_2, hx257_3, hx257_4, hx257_5, hx257_6, hx257_7, hx257_8, hx257_9, hx257_10, hx257_11, hx257_12, hx257_13, hx257_14, hx257_15, hx257_16, hx257_17, hx257_18, hx257_19, trivial⟩ ?_; (case hg => rfl); (case ho => refine ⟨_, rfl, ?_⟩; first | (with_reducible rfl) | (go_simp; done))) | ((with_reducible refine gate_load (t := 29) rfl ?_); refine load_at2 (t := 29) ?hg ?ho (c0 := _) (cs := [_, _, _, _, _, _, _, _, _, _, _, _, _, _, _, _, _, _, _]) Try.underlying29 rfl (by kernel_rfl) hx258_0 ⟨hx258_1, hx258_2, hx258_3, hx258_4, hx258_5, hx258_6, hx258_7, hx258_8, hx258_9, hx258_10, hx258_11, hx258_12, hx258_13, hx258_14, hx258_15, hx258_16, hx258_17, hx258_18, hx258_19, trivial⟩ ?_; (case hg => rfl); (case ho => refine ⟨_, rfl, ?_⟩; first | (with_reducible rfl) | (go_simp; done))))
        go_roundg k1
        case measure => have := HK1.out; omega
        case rel => exact ⟨(wrap64 (x5_1 + 1)), (wrap64 (x6_1 + 1)), (by first | rfl | (simp; done) | (simp [*]; done)), (by first | rfl | (simp; done) | (simp [*]; done)), H', ⟨by have := HK1.out; omega⟩, by repeat (first | exact Drawn0.refl _ | apply Drawn0.step)⟩
      ·rw [if_neg c6] at H
       have c6b0 : (((rd_T29 l0 x6_1).f7) == 3) = false := beq_eq_false_iff_ne.mpr c6
       have c6b1 : (((rd_T29 l0 x6_1).f7) != 3) = true := bne_iff_ne.mpr c6
       as_aux_lemma =>
        have H' := mkA H
        clear H
        have p257 : 0 ≤ (x6_1 : Int) := odt
        have q257 : x6_1 < (l0.length : Int) := odt
        obtain ⟨ad257, e257, hx257_0, hx257_1, hx257_2, hx257_3, hx257_4, hx257_5, hx257_6, hx257_7, hx257_8, hx257_9, hx257_10, hx257_11, hx257_12, hx257_13, hx257_14, hx257_15, hx257_16, hx257_17, hx257_18, hx257_19⟩ := at_T29 HR0.out x6_1 p257 q257
        cases e257
        replace p257 := eq_true p257
        replace q257 := eq_true q257
        have p258 : 0 ≤ (x6_1 : Int) := odt
        have q258 : x6_1 < (l0.length : Int) := odt
        obtain ⟨ad258, e258, hx258_0, hx258_1, hx258_2, hx258_3, hx258_4, hx258_5, hx258_6, hx258_7, hx258_8, hx258_9, hx258_10, hx258_11, hx258_12, hx258_13, hx258_14, hx258_15, hx258_16, hx258_17, hx258_18, hx258_19⟩ := at_T29 HR0.out x6_1 p258 q258
        obtain rfl : ad257 = ad258 := (by injection e258)
        replace p258 := eq_true p258
        replace q258 := eq_true q258
        go_wp2_with (first | ((with_reducible refine gate_load (t := 29) rfl ?_); refine load_at2 (t := 29) ?hg ?ho (c0 := _) (cs := [_, _, _, _, _, _, _, _, _, _, _, _, _, _, _, _, _, _, _]) Try.underlying29 rfl (by kernel_rfl) hx257_0 ⟨hx257_1, hx257_2, hx257_3, hx257_4, hx257_5, hx257_6, hx257_7, hx257_8, hx257_9, hx257_10, hx257_11, hx257_12, hx257_13, hx257_14, hx257_15, hx257_16, hx257_17, hx257_18, hx257_19, trivial⟩ ?_; (case hg => rfl); (case ho => refine ⟨_, rfl, ?_⟩; first | (with_reducible rfl) | (go_simp; done))) | ((with_reducible refine gate_load (t := 29) rfl ?_); refine load_at2 (t := 29) ?hg ?ho (c0 := _) (cs := [_, _, _, _, _, _, _, _, _, _, _, _, _, _, _, _, _, _, _]) Try.underlying29 rfl (by kernel_rfl) hx258_0 ⟨hx258_1, hx258_2, hx258_3, hx258_4, hx258_5, hx258_6, hx258_7, hx258_8, hx258_9, hx258_10, hx258_11, hx258_12, hx258_13, hx258_14, hx258_15, hx258_16, hx258_17, hx258_18, hx258_19, trivial⟩ ?_; (case hg => rfl); (case ho => refine ⟨_, rfl, ?_⟩; first | (with_reducible rfl) | (go_simp; done))))
        go_roundg k1
        case measure => have := HK1.out; omega
        case rel => exact ⟨(x5_1), (wrap64 (x6_1 + 1)), (by first | rfl | (simp; done) | (simp [*]; done)), (by first | rfl | (simp; done) | (simp [*]; done)), H', ⟨by have := HK1.out; omega⟩, by repeat (first | exact Drawn0.refl _ | apply Drawn0.step)⟩
     ·rw [if_neg c5] at H
      have c5b0 : (((rd_T29 l0 x6_1).f1) == a1) = false := beq_eq_false_iff_ne.mpr c5
      have c5b1 : (((rd_T29 l0 x6_1).f1) != a1) = true := bne_iff_ne.mpr c5
      as_aux_lemma =>
       have H' := mkA H
       clear H
       have p257 : 0 ≤ (x6_1 : Int) := odt
       have q257 : x6_1 < (l0.length : Int) := odt
       obtain ⟨ad257, e257, hx257_0, hx257_1, hx257_2, hx257_3, hx257_4, hx257_5, hx257_6, hx257_7, hx257_8, hx257_9, hx257_10, hx257_11, hx257_12, hx257_13, hx257_14, hx257_15, hx257_16, hx257_17, hx257_18, hx257_19⟩ := at_T29 HR0.out x6_1 p257 q257
       cases e257
       replace p257 := eq_true p257
       replace q257 := eq_true q257
       go_wp2_with (first | ((with_reducible refine gate_load (t := 29) rfl ?_); refine load_at2 (t := 29) ?hg ?ho (c0 := _) (cs := [_, _, _, _, _, _, _, _, _, _, _, _, _, _, _, _, _, _, _]) Try.underlying29 rfl (by kernel_rfl) hx257_0 ⟨hx257_1, hx257_2, hx257_3, hx257_4, hx257_5, hx257_6, hx257_7, hx257_8, hx257_9, hx257_10, hx257_11, hx257_12, hx257_13, hx257_14, hx257_15, hx257_16, hx257_17, hx257_18, hx257_19, trivial⟩ ?_; (case hg => rfl); (case ho => refine ⟨_, rfl, ?_⟩; first | (with_reducible rfl) | (go_simp; done))))
       go_roundg k1
       case measure => have := HK1.out; omega
       case rel => exact ⟨(x5_1), (wrap64 (x6_1 + 1)), (by first | rfl | (simp; done) | (simp [*]; done)), (by first | rfl | (simp; done) | (simp [*]; done)), H', ⟨by have := HK1.out; omega⟩, by repeat (first | exact Drawn0.refl _ | apply Drawn0.step)⟩
    ·rw [if_neg c4] at H
     exact absurd H (by simp)
   ·rw [if_neg c3] at H
    have c3b0 : decide (x6_1 < (l0.length : Int)) = false := decide_eq_false c3
    clear c3
    as_aux_lemma =>
     obtain rfl := Option.some.inj H
     go_wp2
     go_ret
     exact ⟨by first | rfl | (simp; done) | (simp [*]; done), by repeat (first | exact Drawn0.refl _ | apply Drawn0.step)⟩

end Go.Proofs.Ytcpojadlnpnbaaa.XRet
