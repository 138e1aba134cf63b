-- By a program of this work (xprint.py) over the translation; Lean checks it.
import Derived.Test.YtcpojadlnpnbaaaXRetx0
import Derived.Test.YtcpojadlnpnbaaaXRetx2
namespace Go.Proofs.Ytcpojadlnpnbaaa.XRet
open Go.RowKit Go.Proofs.YtcpojadlnpnbaaaW.PrintWords Go.Proofs.YtcpojadlnpnbaaaW.PrintLast Go.Proofs.YtcpojadlnpnbaaaW.PrintMore
attribute [local go_sem] max2_int min2_int max_two min_two max_three min_three max_four min_four   -- for this text's walks alone
set_option linter.unusedVariables false
set_option linter.unusedSimpArgs false

def eqS46 (x y : S46) : Bool := (x.f0 == y.f0 && ((x.f1.f0 == y.f1.f0 && (x.f1.f1.toList == y.f1.f1.toList && (x.f1.f2.toList == y.f1.f2.toList && (x.f1.f3 == y.f1.f3 && (x.f1.f4 == y.f1.f4))))) && ((x.f2.f0 == y.f2.f0 && (x.f2.f1 == y.f2.f1 && (x.f2.f2.toList == y.f2.f2.toList && (x.f2.f3.toList == y.f2.f3.toList && (x.f2.f4.toList == y.f2.f4.toList && (x.f2.f5 == y.f2.f5 && (x.f2.f6 == y.f2.f6 && (x.f2.f7 == y.f2.f7 && (x.f2.f8 == y.f2.f8 && (x.f2.f9 == y.f2.f9 && (x.f2.f10 == y.f2.f10 && (x.f2.f11 == y.f2.f11 && (x.f2.f12 == y.f2.f12 && (x.f2.f13.toList == y.f2.f13.toList && (x.f2.f14 == y.f2.f14 && (x.f2.f15 == y.f2.f15 && (x.f2.f16.toList == y.f2.f16.toList && (x.f2.f17 == y.f2.f17 && (x.f2.f18 == y.f2.f18 && (x.f2.f19.toList == y.f2.f19.toList)))))))))))))))))))) && (x.f3 == y.f3 && (x.f4 == y.f4)))))
def agS46 (x : S46) : Value := (.agg #[.int .i64 x.f0, .int .i64 x.f1.f0, .string x.f1.f1, .string x.f1.f2, .int .i64 x.f1.f3, .int .i64 x.f1.f4, .int .i64 x.f2.f0, .int .i64 x.f2.f1, .string x.f2.f2, .string x.f2.f3, .string x.f2.f4, .int .i64 x.f2.f5, .int .i64 x.f2.f6, .int .i64 x.f2.f7, .int .i64 x.f2.f8, .bool x.f2.f9, .int .i64 x.f2.f10, .int .i64 x.f2.f11, .int .i64 x.f2.f12, .string x.f2.f13, .int .i64 x.f2.f14, .int .i64 x.f2.f15, .string x.f2.f16, .int .i64 x.f2.f17, .int .i64 x.f2.f18, .string x.f2.f19, .int .i64 x.f3, .int .i64 x.f4])
theorem q_val {P : Program} {ops : Array Oper} {C : World → Prop} {Q : Act → Prop} {a : Act} {o : Oper} {rest : List Oper} (v : Value) (hw : Region.wanted o (yielded ops a.tmps) = true) (hy : ∀ w', C w' → (execOp a.eval o).run P w' = .ok (.value v) w') (h : wpQuiet P ops C Q rest (a.put o.dst v)) : wpQuiet P ops C Q (o :: rest) a := by
  refine wpQuiet_step (fun K hK => ?_)
  rw [if_pos hw]
  refine ⟨v, fun w' hC => ?_, hK _ h⟩
  show Oper.quietUpon P C w' v ((execOp a.eval o).run P w')
  rw [hy w' hC]
  exact ⟨rfl, rfl⟩
section
attribute [local go_sem high] eqA46
theorem guF46 (p q : Operand) (w : World) (x y : S46) : (eqGuard .neq 46 p q (agS46 x) (agS46 y)).run Try.prog w = .ok () w := by
  unfold agS46
  have hu46 := Try.underlying46
  go_simp
theorem neF46 (w : World) (x y : S46) : (binOp .neq 46 (agS46 x) (agS46 y)).run Try.prog w = .ok (.bool (!eqS46 x y)) w := by
  unfold agS46 eqS46
  go_simp
end
attribute [local go_sem high] guF46 neF46
/-! ### newsreelref15_Changes: function 13 -/
def newsreelref15_Changes.l0 : Nat → List (S46) → List (S46) → Int → Option (Bool)
 | 0, _, _, _ => none
 | k + 1, x0, x1, x5 => if x5 < (x0.length : Int) then (if 0 ≤ x5 then (if x5 < (x1.length : Int) then (if (!(eqS46 (rd_T46 x0 x5) (rd_T46 x1 x5))) = true then (some false) else (newsreelref15_Changes.l0 k x0 x1 (wrap64 (x5 + 1)))) else (none)) else (none)) else (some true)
def newsreelref15_Changes.f (k : Nat) (l0 : List (S46)) (l1 : List (S46)) : Option (Bool) := if (l0.length : Int) = (l1.length : Int) then (newsreelref15_Changes.l0 k l0 l1 0) else (some false)
theorem newsreelref15_Changes.mono_l : ∀ k, (∀ y0 y1 y2, LeO (newsreelref15_Changes.l0 k y0 y1 y2) (newsreelref15_Changes.l0 (k + 1) y0 y1 y2))
 | 0 => fun _ _ _ r h => by simp [newsreelref15_Changes.l0] at h
 | k + 1 => by
  have ih0 := newsreelref15_Changes.mono_l k
  ·intro y0 y1 y2
   unfold newsreelref15_Changes.l0
   repeat' first
   | (with_reducible exact ih0 _ _ _)
   | (with_reducible exact LeO.refl _)
   | (with_reducible exact LeO.none _)
   | (with_reducible refine LeO.ite ?_ ?_)
   | (with_reducible refine LeO.bind ?_ (fun _ => ?_))
   | exact ih0 _ _ _
   | exact LeO.none _
   | refine LeO.ite ?_ ?_
   | refine LeO.bind ?_ (fun _ => ?_)
theorem newsreelref15_Changes.mono : ∀ a0 a1 k, LeO (newsreelref15_Changes.f k a0 a1) (newsreelref15_Changes.f (k + 1) a0 a1) := by
 intro a0 a1 k
 have ih0 := newsreelref15_Changes.mono_l k
 unfold newsreelref15_Changes.f
 repeat' first
   | (with_reducible exact ih0 _ _ _)
   | (with_reducible exact LeO.refl _)
   | (with_reducible exact LeO.none _)
   | (with_reducible refine LeO.ite ?_ ?_)
   | (with_reducible refine LeO.bind ?_ (fun _ => ?_))
   | exact ih0 _ _ _
   | exact LeO.none _
   | refine LeO.ite ?_ ?_
   | refine LeO.bind ?_ (fun _ => ?_)
set_option maxHeartbeats 2000000 in
set_option maxRecDepth 100000 in
theorem newsreelref15_Changes.calls (k : Nat) (A0 : Option Addr) (c0 : Nat) (l0 : List (S46)) (A1 : Option Addr) (c1 : Nat) (l1 : List (S46)) (r : Bool) (w : World) (hr0 : Kd.C k46 w A0 l0.length l0) (hc0 : l0.length ≤ c0) (hr1 : Kd.C k46 w A1 l1.length l1) (hc1 : l1.length ≤ c1) (h : newsreelref15_Changes.f k l0 l1 = some r) :
  Calls Try.prog 13 #[.slice A0 l0.length c0, .slice A1 l1.length c1] w fun e w' => e = .returned (.bool r) ∧ Drawn0 w w' := by
 have hu46 := Try.underlying46
 have HR0 := mkA hr0
 have HC0 := mkA hc0
 clear hr0 hc0
 have HR1 := mkA hr1
 have HC1 := mkA hc1
 clear hr1 hc1
 have H : (if (l0.length : Int) = (l1.length : Int) then (newsreelref15_Changes.l0 k l0 l1 0) else (some false)) = some r := h
 clear h
 by_cases c3 : (l0.length : Int) = (l1.length : Int)
 ·rw [if_pos c3] at H
  have c3b0 : ((l0.length : Int) == (l1.length : Int)) = true := beq_iff_eq.mpr c3
  have c3b1 : ((l0.length : Int) != (l1.length : Int)) = false := bne_eq_false_iff_eq.mpr c3
  have c3b2 : (l0.length == l1.length) = true := by first | simpa using c3 | (simp at c3 ⊢; omega)
  clear c3
  have H' := mkA H
  clear H
  go_enter Try.func13, Try.ntmps13
  go_wp2
  repeat (go_quiet (fail); try go_wp2)
  go_loopg [5] k (fun kq v5 w' => ∃ (x5_1 : Int), v5 = .int .i64 x5_1 ∧ Aside0 (newsreelref15_Changes.l0 kq l0 l1 x5_1 = some r) ∧ Aside0 (kq ≤ k) ∧ Drawn0 w w')
  case atStart => exact ⟨(0), (by first | rfl | (simp; done) | (simp [*]; done)), H', ⟨Nat.le_refl _⟩, by repeat (first | exact Drawn0.refl _ | apply Drawn0.step)⟩
  case round =>
   clear H'
   try clear c1
   try clear p2
   try clear c3
   try clear c3b0
   try clear c3b1
   try clear c3b2
   obtain ⟨x5_1, rfl, HA, HK1, ⟨m1, rfl⟩⟩ := hrel
   cases gk with
   | zero => exact absurd HA.out (by simp [newsreelref15_Changes.l0])
   | succ k1 =>
    have H := HA.out
    clear HA
    simp only [newsreelref15_Changes.l0] at H
    by_cases c4 : x5_1 < (l0.length : Int)
    ·rw [if_pos c4] at H
     have c4b0 : decide (x5_1 < (l0.length : Int)) = true := decide_eq_true c4
     clear c4
     by_cases c5 : 0 ≤ x5_1
     ·rw [if_pos c5] at H
      have c5b0 : decide (0 ≤ x5_1) = true := decide_eq_true c5
      clear c5
      by_cases c6 : x5_1 < (l1.length : Int)
      ·rw [if_pos c6] at H
       have c6b0 : decide (x5_1 < (l1.length : Int)) = true := decide_eq_true c6
       clear c6
       by_cases c7 : (!(eqS46 (rd_T46 l0 x5_1) (rd_T46 l1 x5_1))) = true
       ·rw [if_pos c7] at H
        have c7b0 : (!(eqS46 (rd_T46 l0 x5_1) (rd_T46 l1 x5_1))) = true := c7
        clear c7
        obtain rfl := Option.some.inj H
        have p282 : 0 ≤ (x5_1 : Int) := odt
        have q282 : x5_1 < (l0.length : Int) := odt
        obtain ⟨ad282, e282, hx282_0, hx282_1, hx282_2, hx282_3, hx282_4, hx282_5, hx282_6, hx282_7, hx282_8, hx282_9, hx282_10, hx282_11, hx282_12, hx282_13, hx282_14, hx282_15, hx282_16, hx282_17, hx282_18, hx282_19, hx282_20, hx282_21, hx282_22, hx282_23, hx282_24, hx282_25, hx282_26, hx282_27⟩ := at_T46 HR0.out x5_1 p282 q282
        cases e282
        replace p282 := eq_true p282
        replace q282 := eq_true q282
        have p283 : 0 ≤ (x5_1 : Int) := odt
        have q283 : x5_1 < (l1.length : Int) := odt
        obtain ⟨ad283, e283, hx283_0, hx283_1, hx283_2, hx283_3, hx283_4, hx283_5, hx283_6, hx283_7, hx283_8, hx283_9, hx283_10, hx283_11, hx283_12, hx283_13, hx283_14, hx283_15, hx283_16, hx283_17, hx283_18, hx283_19, hx283_20, hx283_21, hx283_22, hx283_23, hx283_24, hx283_25, hx283_26, hx283_27⟩ := at_T46 HR1.out x5_1 p283 q283
        cases e283
        replace p283 := eq_true p283
        replace q283 := eq_true q283
        go_wp2
        refine wp_region_quiet_lit (by kernel_rfl) (by kernel_rfl) ?_
        quiet_step (fail)
        quiet_step (fail)
        quiet_step (fail)
        refine q_val (agS46 (rd_T46 l0 x5_1)) rfl (fun w' hw' => ?_) ?_
        ·obtain ⟨n_, rfl⟩ := hw'
         exact exec_load_at (t := 46) (x := .tmp 19) rfl (by first | (with_reducible rfl) | (go_simp; done)) Try.underlying46 rfl (by kernel_rfl) hx282_0 ⟨hx282_1, hx282_2, hx282_3, hx282_4, hx282_5, hx282_6, hx282_7, hx282_8, hx282_9, hx282_10, hx282_11, hx282_12, hx282_13, hx282_14, hx282_15, hx282_16, hx282_17, hx282_18, hx282_19, hx282_20, hx282_21, hx282_22, hx282_23, hx282_24, hx282_25, hx282_26, hx282_27, trivial⟩
        quiet_step (fail)
        quiet_step (fail)
        quiet_step (fail)
        refine q_val (agS46 (rd_T46 l1 x5_1)) rfl (fun w' hw' => ?_) ?_
        ·obtain ⟨n_, rfl⟩ := hw'
         exact exec_load_at (t := 46) (x := .tmp 23) rfl (by first | (with_reducible rfl) | (go_simp; done)) Try.underlying46 rfl (by kernel_rfl) hx283_0 ⟨hx283_1, hx283_2, hx283_3, hx283_4, hx283_5, hx283_6, hx283_7, hx283_8, hx283_9, hx283_10, hx283_11, hx283_12, hx283_13, hx283_14, hx283_15, hx283_16, hx283_17, hx283_18, hx283_19, hx283_20, hx283_21, hx283_22, hx283_23, hx283_24, hx283_25, hx283_26, hx283_27, trivial⟩
        quiet_step (fail)
        refine wpQuiet_nil ?_
        intro _ hw'
        obtain ⟨nq, hw''⟩ := hw'
        subst hw''
        go_wp2
        go_ret
        exact ⟨by first | rfl | (simp; done) | (simp [*]; done), by repeat (first | exact Drawn0.refl _ | apply Drawn0.step)⟩
       ·rw [if_neg c7] at H
        have c7b0 : (!(eqS46 (rd_T46 l0 x5_1) (rd_T46 l1 x5_1))) = false := by simpa using c7
        clear c7
        have H' := mkA H
        clear H
        have p282 : 0 ≤ (x5_1 : Int) := odt
        have q282 : x5_1 < (l0.length : Int) := odt
        obtain ⟨ad282, e282, hx282_0, hx282_1, hx282_2, hx282_3, hx282_4, hx282_5, hx282_6, hx282_7, hx282_8, hx282_9, hx282_10, hx282_11, hx282_12, hx282_13, hx282_14, hx282_15, hx282_16, hx282_17, hx282_18, hx282_19, hx282_20, hx282_21, hx282_22, hx282_23, hx282_24, hx282_25, hx282_26, hx282_27⟩ := at_T46 HR0.out x5_1 p282 q282
        cases e282
        replace p282 := eq_true p282
        replace q282 := eq_true q282
        have p283 : 0 ≤ (x5_1 : Int) := odt
        have q283 : x5_1 < (l1.length : Int) := odt
        obtain ⟨ad283, e283, hx283_0, hx283_1, hx283_2, hx283_3, hx283_4, hx283_5, hx283_6, hx283_7, hx283_8, hx283_9, hx283_10, hx283_11, hx283_12, hx283_13, hx283_14, hx283_15, hx283_16, hx283_17, hx283_18, hx283_19, hx283_20, hx283_21, hx283_22, hx283_23, hx283_24, hx283_25, hx283_26, hx283_27⟩ := at_T46 HR1.out x5_1 p283 q283
        cases e283
        replace p283 := eq_true p283
        replace q283 := eq_true q283
        go_wp2
        refine wp_region_quiet_lit (by kernel_rfl) (by kernel_rfl) ?_
        quiet_step (fail)
        quiet_step (fail)
        quiet_step (fail)
        refine q_val (agS46 (rd_T46 l0 x5_1)) rfl (fun w' hw' => ?_) ?_
        ·obtain ⟨n_, rfl⟩ := hw'
         exact exec_load_at (t := 46) (x := .tmp 19) rfl (by first | (with_reducible rfl) | (go_simp; done)) Try.underlying46 rfl (by kernel_rfl) hx282_0 ⟨hx282_1, hx282_2, hx282_3, hx282_4, hx282_5, hx282_6, hx282_7, hx282_8, hx282_9, hx282_10, hx282_11, hx282_12, hx282_13, hx282_14, hx282_15, hx282_16, hx282_17, hx282_18, hx282_19, hx282_20, hx282_21, hx282_22, hx282_23, hx282_24, hx282_25, hx282_26, hx282_27, trivial⟩
        quiet_step (fail)
        quiet_step (fail)
        quiet_step (fail)
        refine q_val (agS46 (rd_T46 l1 x5_1)) rfl (fun w' hw' => ?_) ?_
        ·obtain ⟨n_, rfl⟩ := hw'
         exact exec_load_at (t := 46) (x := .tmp 23) rfl (by first | (with_reducible rfl) | (go_simp; done)) Try.underlying46 rfl (by kernel_rfl) hx283_0 ⟨hx283_1, hx283_2, hx283_3, hx283_4, hx283_5, hx283_6, hx283_7, hx283_8, hx283_9, hx283_10, hx283_11, hx283_12, hx283_13, hx283_14, hx283_15, hx283_16, hx283_17, hx283_18, hx283_19, hx283_20, hx283_21, hx283_22, hx283_23, hx283_24, hx283_25, hx283_26, hx283_27, trivial⟩
        quiet_step (fail)
        refine wpQuiet_nil ?_
        intro _ hw'
        obtain ⟨nq, hw''⟩ := hw'
        subst hw''
        go_wp2
        go_roundg k1
        case measure => have := HK1.out; omega
        case rel => exact ⟨(wrap64 (x5_1 + 1)), (by first | rfl | (simp; done) | (simp [*]; done)), H', ⟨by have := HK1.out; omega⟩, by repeat (first | exact Drawn0.refl _ | apply Drawn0.step)⟩
      ·rw [if_neg c6] at H
       exact absurd H (by simp)
     ·rw [if_neg c5] at H
      exact absurd H (by simp)
    ·rw [if_neg c4] at H
     have c4b0 : decide (x5_1 < (l0.length : Int)) = false := decide_eq_false c4
     clear c4
     obtain rfl := Option.some.inj H
     go_wp2
     repeat (go_quiet (fail); try go_wp2)
     go_ret
     exact ⟨by first | rfl | (simp; done) | (simp [*]; done), by repeat (first | exact Drawn0.refl _ | apply Drawn0.step)⟩
 ·rw [if_neg c3] at H
  have c3b0 : ((l0.length : Int) == (l1.length : Int)) = false := beq_eq_false_iff_ne.mpr c3
  have c3b1 : ((l0.length : Int) != (l1.length : Int)) = true := bne_iff_ne.mpr c3
  have c3b2 : (l0.length == l1.length) = false := by first | simpa using c3 | (simp at c3 ⊢; omega)
  obtain rfl := Option.some.inj H
  go_enter Try.func13, Try.ntmps13
  go_wp2
  repeat (go_quiet (fail); try go_wp2)
  go_ret
  exact ⟨by first | rfl | (simp; done) | (simp [*]; done), by repeat (first | exact Drawn0.refl _ | apply Drawn0.step)⟩

end Go.Proofs.Ytcpojadlnpnbaaa.XRet
