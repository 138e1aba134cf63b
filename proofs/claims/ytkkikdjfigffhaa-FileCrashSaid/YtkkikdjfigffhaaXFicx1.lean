-- By a program of this work (xprint.py) over the translation; Lean checks it.
import Derived.Test.YtkkikdjfigffhaaXFicx0
namespace Go.Proofs.Ytkkikdjfigffhaa.XFic
open Go.RowKit Go.Proofs.YtkkikdjfigffhaaW.PrintWords Go.Proofs.YtkkikdjfigffhaaW.PrintLast Go.Proofs.YtkkikdjfigffhaaW.PrintMore
attribute [local go_sem] max2_int min2_int max_two min_two max_three min_three max_four min_four   -- for this text's walks alone
set_option linter.unusedVariables false
set_option linter.unusedSimpArgs false

/-! ### newsreelref01_Bytes: function 23 -/
def newsreelref01_Bytes.f (l0 : List Int) (l1 : List Int) : Option (Bool) := some ((strOfNums l0).toList == (strOfNums l1).toList)
set_option maxHeartbeats 8000000 in
set_option maxRecDepth 100000 in
theorem newsreelref01_Bytes.calls (A0 : Option Addr) (c0 : Nat) (l0 : List Int) (A1 : Option Addr) (c1 : Nat) (l1 : List Int) (r : Bool) (w : World) (hr0 : Kd.C (Kd.int .u8) w A0 l0.length l0) (hc0 : l0.length ≤ c0) (hr1 : Kd.C (Kd.int .u8) w A1 l1.length l1) (hc1 : l1.length ≤ c1) (h : newsreelref01_Bytes.f l0 l1 = some r) :
    Calls Try.prog 23 #[.slice A0 l0.length c0, .slice A1 l1.length c1] w fun e w' => e = .returned (.bool r) ∧ Drawn0 w w' := by
  have HR0 := Aside0.mk hr0
  have HC0 := Aside0.mk hc0
  clear hr0 hc0
  have HR1 := Aside0.mk hr1
  have HC1 := Aside0.mk hc1
  clear hr1 hc1
  have H : (some ((strOfNums l0).toList == (strOfNums l1).toList)) = some r := h
  clear h
  obtain rfl := Option.some.inj H
  have hcv3 := Kd.C_string (P := Try.prog) (A := A0) (c := c0) Try.underlying27 Try.underlying5 Try.underlying9 HR0.out
  have hcw3 := fun (m_ n_ : Nat) => Kd.C_string (P := Try.prog) (A := A0) (c := c0) Try.underlying27 Try.underlying5 Try.underlying9 (Kd.C_drewN (Kd.C_drewN HR0.out m_) n_)
  have hcx3 := fun (m_ : Nat) => Kd.C_string (P := Try.prog) (A := A0) (c := c0) Try.underlying27 Try.underlying5 Try.underlying9 (Kd.C_drewN HR0.out m_)
  have hcv4 := Kd.C_string (P := Try.prog) (A := A1) (c := c1) Try.underlying27 Try.underlying5 Try.underlying9 HR1.out
  have hcw4 := fun (m_ n_ : Nat) => Kd.C_string (P := Try.prog) (A := A1) (c := c1) Try.underlying27 Try.underlying5 Try.underlying9 (Kd.C_drewN (Kd.C_drewN HR1.out m_) n_)
  have hcx4 := fun (m_ : Nat) => Kd.C_string (P := Try.prog) (A := A1) (c := c1) Try.underlying27 Try.underlying5 Try.underlying9 (Kd.C_drewN HR1.out m_)
  go_enter Try.func23, Try.ntmps23
  go_wp2
  go_ret
  exact ⟨by first | rfl | (simp; done) | (simp [*]; done), by repeat (first | exact Drawn0.refl _ | apply Drawn0.step)⟩

/-! ### newsreelref09_Light: function 50 -/
def newsreelref09_Light.l0 : Nat → List (S78) → Int → Option (Bool)
  | 0, _, _ => none
  | k + 1, x0, x3 => if x3 < (x0.length : Int) then (if 0 ≤ x3 then (if (((rd_T78 x0 x3).f2).length : Int) > 100 then (some false) else (if ((rd_T78 x0 x3).f1) > 2000 then (if ((rd_T78 x0 x3).f1) ≤ 65536 then (some false) else (newsreelref09_Light.l0 k x0 (wrap64 (x3 + 1)))) else (newsreelref09_Light.l0 k x0 (wrap64 (x3 + 1))))) else (none)) else (some true)
def newsreelref09_Light.f (k : Nat) (l0 : List (S78)) : Option (Bool) := if (l0.length : Int) > 20 then (some false) else (newsreelref09_Light.l0 k l0 0)
theorem newsreelref09_Light.mono_l : ∀ k, (∀ y0 y1, LeO (newsreelref09_Light.l0 k y0 y1) (newsreelref09_Light.l0 (k + 1) y0 y1))
  | 0 => fun _ _ r h => by simp [newsreelref09_Light.l0] at h
  | k + 1 => by
    have ih0 := newsreelref09_Light.mono_l k
    · intro y0 y1
      unfold newsreelref09_Light.l0
      repeat' first
      | (with_reducible exact ih0 _ _)
      | (with_reducible exact LeO.refl _)
      | (with_reducible exact LeO.none _)
      | (with_reducible refine LeO.ite ?_ ?_)
      | (with_reducible refine LeO.bind ?_ (fun _ => ?_))
      | exact ih0 _ _
      | exact LeO.none _
      | refine LeO.ite ?_ ?_
      | refine LeO.bind ?_ (fun _ => ?_)
theorem newsreelref09_Light.mono : ∀ a0 k, LeO (newsreelref09_Light.f k a0) (newsreelref09_Light.f (k + 1) a0) := by
  intro a0 k
  have ih0 := newsreelref09_Light.mono_l k
  unfold newsreelref09_Light.f
  repeat' first
      | (with_reducible exact ih0 _ _)
      | (with_reducible exact LeO.refl _)
      | (with_reducible exact LeO.none _)
      | (with_reducible refine LeO.ite ?_ ?_)
      | (with_reducible refine LeO.bind ?_ (fun _ => ?_))
      | exact ih0 _ _
      | exact LeO.none _
      | refine LeO.ite ?_ ?_
      | refine LeO.bind ?_ (fun _ => ?_)
set_option maxHeartbeats 8000000 in
set_option maxRecDepth 100000 in
theorem newsreelref09_Light.calls (k : Nat) (A0 : Option Addr) (c0 : Nat) (l0 : List (S78)) (r : Bool) (w : World) (hr0 : Kd.C k78 w A0 l0.length l0) (hc0 : l0.length ≤ c0) (h : newsreelref09_Light.f k l0 = some r) :
    Calls Try.prog 50 #[.slice A0 l0.length c0] w fun e w' => e = .returned (.bool r) ∧ Drawn0 w w' := by
  have HR0 := Aside0.mk hr0
  have HC0 := Aside0.mk hc0
  clear hr0 hc0
  have H : (if (l0.length : Int) > 20 then (some false) else (newsreelref09_Light.l0 k l0 0)) = some r := h
  clear h
  by_cases c2 : (l0.length : Int) > 20
  · rw [if_pos c2] at H
    have c2b0 : decide (20 < (l0.length : Int)) = true := decide_eq_true c2
    have c2b1 : decide (20 < l0.length) = true := decide_eq_true (by omega)
    clear c2
    obtain rfl := Option.some.inj H
    go_enter Try.func50, Try.ntmps50
    go_wp2
    go_ret
    exact ⟨by first | rfl | (simp; done) | (simp [*]; done), by repeat (first | exact Drawn0.refl _ | apply Drawn0.step)⟩
  · rw [if_neg c2] at H
    have c2b0 : decide (20 < (l0.length : Int)) = false := decide_eq_false c2
    have c2b1 : decide (20 < l0.length) = false := decide_eq_false (by omega)
    clear c2
    have H' := Aside0.mk H
    clear H
    go_enter Try.func50, Try.ntmps50
    go_wp2
    go_loopg [3] k (fun kq v3 w' => ∃ (x3_1 : Int), v3 = .int .i64 x3_1 ∧ Aside0 (newsreelref09_Light.l0 kq l0 x3_1 = some r) ∧ Aside0 (kq ≤ k) ∧ Drawn0 w w')
    case atStart => exact ⟨(0), (by first | rfl | (simp; done) | (simp [*]; done)), H', ⟨Nat.le_refl _⟩, by repeat (first | exact Drawn0.refl _ | apply Drawn0.step)⟩
    case round =>
      clear H'
      try clear c2
      try clear c2b0
      try clear c2b1
      try clear p2
      obtain ⟨x3_1, rfl, HA, HK1, ⟨m1, rfl⟩⟩ := hrel
      cases gk with
      | zero => exact absurd HA.out (by simp [newsreelref09_Light.l0])
      | succ k1 =>
        have H := HA.out
        clear HA
        simp only [newsreelref09_Light.l0] at H
        by_cases c3 : x3_1 < (l0.length : Int)
        · rw [if_pos c3] at H
          have c3b0 : decide (x3_1 < (l0.length : Int)) = true := decide_eq_true c3
          clear c3
          by_cases c4 : 0 ≤ x3_1
          · rw [if_pos c4] at H
            have c4b0 : decide (0 ≤ x3_1) = true := decide_eq_true c4
            clear c4
            by_cases c5 : (((rd_T78 l0 x3_1).f2).length : Int) > 100
            · rw [if_pos c5] at H
              have c5b0 : decide (100 < (((rd_T78 l0 x3_1).f2).length : Int)) = true := decide_eq_true c5
              have c5b1 : decide (100 < ((rd_T78 l0 x3_1).f2).length) = true := decide_eq_true (by omega)
              clear c5
              obtain rfl := Option.some.inj H
              have p101 : 0 ≤ (x3_1 : Int) := of_decide_eq_true (by first | (with_reducible assumption) | assumption)
              have q101 : x3_1 < (l0.length : Int) := of_decide_eq_true (by first | (with_reducible assumption) | assumption)
              obtain ⟨ad101, A101_2, c101_2, e101, hx101_0, hx101_1, hx101_2, hl101_2, hi101_2⟩ := at_T78 HR0.out x3_1 p101 q101
              cases e101
              have HR101_2 := Aside0.mk hi101_2
              have HC101_2 := Aside0.mk hl101_2
              clear hi101_2 hl101_2
              replace p101 := eq_true p101
              replace q101 := eq_true q101
              go_wp2
              go_ret
              exact ⟨by first | rfl | (simp; done) | (simp [*]; done), by repeat (first | exact Drawn0.refl _ | apply Drawn0.step)⟩
            · rw [if_neg c5] at H
              have c5b0 : decide (100 < (((rd_T78 l0 x3_1).f2).length : Int)) = false := decide_eq_false c5
              have c5b1 : decide (100 < ((rd_T78 l0 x3_1).f2).length) = false := decide_eq_false (by omega)
              clear c5
              by_cases c6 : ((rd_T78 l0 x3_1).f1) > 2000
              · rw [if_pos c6] at H
                have c6b0 : decide (2000 < ((rd_T78 l0 x3_1).f1)) = true := decide_eq_true c6
                clear c6
                by_cases c7 : ((rd_T78 l0 x3_1).f1) ≤ 65536
                · rw [if_pos c7] at H
                  have c7b0 : decide (((rd_T78 l0 x3_1).f1) ≤ 65536) = true := decide_eq_true c7
                  clear c7
                  obtain rfl := Option.some.inj H
                  have p101 : 0 ≤ (x3_1 : Int) := of_decide_eq_true (by first | (with_reducible assumption) | assumption)
                  have q101 : x3_1 < (l0.length : Int) := of_decide_eq_true (by first | (with_reducible assumption) | assumption)
                  obtain ⟨ad101, A101_2, c101_2, e101, hx101_0, hx101_1, hx101_2, hl101_2, hi101_2⟩ := at_T78 HR0.out x3_1 p101 q101
                  cases e101
                  have HR101_2 := Aside0.mk hi101_2
                  have HC101_2 := Aside0.mk hl101_2
                  clear hi101_2 hl101_2
                  replace p101 := eq_true p101
                  replace q101 := eq_true q101
                  have p102 : 0 ≤ (x3_1 : Int) := of_decide_eq_true (by first | (with_reducible assumption) | assumption)
                  have q102 : x3_1 < (l0.length : Int) := of_decide_eq_true (by first | (with_reducible assumption) | assumption)
                  obtain ⟨ad102, A102_2, c102_2, e102, hx102_0, hx102_1, hx102_2, hl102_2, hi102_2⟩ := at_T78 HR0.out x3_1 p102 q102
                  obtain rfl : ad101 = ad102 := (by injection e102)
                  have HR102_2 := Aside0.mk hi102_2
                  have HC102_2 := Aside0.mk hl102_2
                  clear hi102_2 hl102_2
                  replace p102 := eq_true p102
                  replace q102 := eq_true q102
                  have ea_ := Option.some.inj (hx101_2.symm.trans hx102_2)
                  injection ea_ with ea_ en_ ec_
                  subst ea_
                  subst ec_
                  clear en_
                  have p103 : 0 ≤ (x3_1 : Int) := of_decide_eq_true (by first | (with_reducible assumption) | assumption)
                  have q103 : x3_1 < (l0.length : Int) := of_decide_eq_true (by first | (with_reducible assumption) | assumption)
                  obtain ⟨ad103, A103_2, c103_2, e103, hx103_0, hx103_1, hx103_2, hl103_2, hi103_2⟩ := at_T78 HR0.out x3_1 p103 q103
                  obtain rfl : ad101 = ad103 := (by injection e103)
                  have HR103_2 := Aside0.mk hi103_2
                  have HC103_2 := Aside0.mk hl103_2
                  clear hi103_2 hl103_2
                  replace p103 := eq_true p103
                  replace q103 := eq_true q103
                  have ea_ := Option.some.inj (hx101_2.symm.trans hx103_2)
                  injection ea_ with ea_ en_ ec_
                  subst ea_
                  subst ec_
                  clear en_
                  go_wp2
                  go_ret
                  exact ⟨by first | rfl | (simp; done) | (simp [*]; done), by repeat (first | exact Drawn0.refl _ | apply Drawn0.step)⟩
                · rw [if_neg c7] at H
                  have c7b0 : decide (((rd_T78 l0 x3_1).f1) ≤ 65536) = false := decide_eq_false c7
                  clear c7
                  have H' := Aside0.mk H
                  clear H
                  have p101 : 0 ≤ (x3_1 : Int) := of_decide_eq_true (by first | (with_reducible assumption) | assumption)
                  have q101 : x3_1 < (l0.length : Int) := of_decide_eq_true (by first | (with_reducible assumption) | assumption)
                  obtain ⟨ad101, A101_2, c101_2, e101, hx101_0, hx101_1, hx101_2, hl101_2, hi101_2⟩ := at_T78 HR0.out x3_1 p101 q101
                  cases e101
                  have HR101_2 := Aside0.mk hi101_2
                  have HC101_2 := Aside0.mk hl101_2
                  clear hi101_2 hl101_2
                  replace p101 := eq_true p101
                  replace q101 := eq_true q101
                  have p102 : 0 ≤ (x3_1 : Int) := of_decide_eq_true (by first | (with_reducible assumption) | assumption)
                  have q102 : x3_1 < (l0.length : Int) := of_decide_eq_true (by first | (with_reducible assumption) | assumption)
                  obtain ⟨ad102, A102_2, c102_2, e102, hx102_0, hx102_1, hx102_2, hl102_2, hi102_2⟩ := at_T78 HR0.out x3_1 p102 q102
                  obtain rfl : ad101 = ad102 := (by injection e102)
                  have HR102_2 := Aside0.mk hi102_2
                  have HC102_2 := Aside0.mk hl102_2
                  clear hi102_2 hl102_2
                  replace p102 := eq_true p102
                  replace q102 := eq_true q102
                  have ea_ := Option.some.inj (hx101_2.symm.trans hx102_2)
                  injection ea_ with ea_ en_ ec_
                  subst ea_
                  subst ec_
                  clear en_
                  have p103 : 0 ≤ (x3_1 : Int) := of_decide_eq_true (by first | (with_reducible assumption) | assumption)
                  have q103 : x3_1 < (l0.length : Int) := of_decide_eq_true (by first | (with_reducible assumption) | assumption)
                  obtain ⟨ad103, A103_2, c103_2, e103, hx103_0, hx103_1, hx103_2, hl103_2, hi103_2⟩ := at_T78 HR0.out x3_1 p103 q103
                  obtain rfl : ad101 = ad103 := (by injection e103)
                  have HR103_2 := Aside0.mk hi103_2
                  have HC103_2 := Aside0.mk hl103_2
                  clear hi103_2 hl103_2
                  replace p103 := eq_true p103
                  replace q103 := eq_true q103
                  have ea_ := Option.some.inj (hx101_2.symm.trans hx103_2)
                  injection ea_ with ea_ en_ ec_
                  subst ea_
                  subst ec_
                  clear en_
                  go_wp2
                  go_roundg k1
                  case measure => have := HK1.out; omega
                  case rel => exact ⟨(wrap64 (x3_1 + 1)), (by first | rfl | (simp; done) | (simp [*]; done)), H', ⟨by have := HK1.out; omega⟩, by repeat (first | exact Drawn0.refl _ | apply Drawn0.step)⟩
              · rw [if_neg c6] at H
                have c6b0 : decide (2000 < ((rd_T78 l0 x3_1).f1)) = false := decide_eq_false c6
                clear c6
                have H' := Aside0.mk H
                clear H
                have p101 : 0 ≤ (x3_1 : Int) := of_decide_eq_true (by first | (with_reducible assumption) | assumption)
                have q101 : x3_1 < (l0.length : Int) := of_decide_eq_true (by first | (with_reducible assumption) | assumption)
                obtain ⟨ad101, A101_2, c101_2, e101, hx101_0, hx101_1, hx101_2, hl101_2, hi101_2⟩ := at_T78 HR0.out x3_1 p101 q101
                cases e101
                have HR101_2 := Aside0.mk hi101_2
                have HC101_2 := Aside0.mk hl101_2
                clear hi101_2 hl101_2
                replace p101 := eq_true p101
                replace q101 := eq_true q101
                have p102 : 0 ≤ (x3_1 : Int) := of_decide_eq_true (by first | (with_reducible assumption) | assumption)
                have q102 : x3_1 < (l0.length : Int) := of_decide_eq_true (by first | (with_reducible assumption) | assumption)
                obtain ⟨ad102, A102_2, c102_2, e102, hx102_0, hx102_1, hx102_2, hl102_2, hi102_2⟩ := at_T78 HR0.out x3_1 p102 q102
                obtain rfl : ad101 = ad102 := (by injection e102)
                have HR102_2 := Aside0.mk hi102_2
                have HC102_2 := Aside0.mk hl102_2
                clear hi102_2 hl102_2
                replace p102 := eq_true p102
                replace q102 := eq_true q102
                have ea_ := Option.some.inj (hx101_2.symm.trans hx102_2)
                injection ea_ with ea_ en_ ec_
                subst ea_
                subst ec_
                clear en_
                go_wp2
                go_roundg k1
                case measure => have := HK1.out; omega
                case rel => exact ⟨(wrap64 (x3_1 + 1)), (by first | rfl | (simp; done) | (simp [*]; done)), H', ⟨by have := HK1.out; omega⟩, by repeat (first | exact Drawn0.refl _ | apply Drawn0.step)⟩
          · rw [if_neg c4] at H
            exact absurd H (by simp)
        · rw [if_neg c3] at H
          have c3b0 : decide (x3_1 < (l0.length : Int)) = false := decide_eq_false c3
          clear c3
          obtain rfl := Option.some.inj H
          go_wp2
          go_ret
          exact ⟨by first | rfl | (simp; done) | (simp [*]; done), by repeat (first | exact Drawn0.refl _ | apply Drawn0.step)⟩

/-! ### bytes_Clone: function 68 -/
def bytes_Clone.f (l0 : List Int) : Option (List Int) := if l0.length < 140737488355328 then some l0 else none
set_option maxHeartbeats 1000000 in
theorem bytes_Clone.calls (A0 : Option Addr) (c0 : Nat) (l0 : List Int) (r : List Int) (w : World) (hr0 : Kd.C (Kd.int .u8) w A0 l0.length l0) (hc0 : l0.length ≤ c0) (h : bytes_Clone.f l0 = some r) :
    Calls Try.prog 68 #[.slice A0 l0.length c0] w fun e w' => ∃ v0_ : Value, e = .returned (v0_) ∧ Kd.R (Kd.int .u8) 5 w' w.heap.size (fun _ => True) v0_ r ∧ Below w.heap.size w w' := by
  unfold bytes_Clone.f at h
  by_cases hl : l0.length < 140737488355328
  · rw [if_pos hl] at h
    obtain rfl := Option.some.inj h
    rcases A0 with _ | ad
    · have h0 : l0 = [] := by
        rcases Nat.eq_zero_or_pos l0.length with h0 | h0
        · exact List.length_eq_zero_iff.1 h0
        · obtain ⟨ad, e, _⟩ := hr0.2.2 h0
          cases e
      subst h0
      clear h hr0 hc0 hl
      have hq := fun (W : World) => Lib.run_eql_slice_nil (P := Try.prog) W 27 5 none ([] : List Int).length c0 0 0 Try.underlying27
      have hq' : ∀ W : World, (binOp .eql 27 (.slice none 0 c0) (.slice none 0 0)).run Try.prog W = .ok (.bool true) W := hq
      clear hq
      show Calls Try.prog 68 #[.slice none 0 c0] w _
      go_enter Try.func68, Try.ntmps68
      go_wp2
      go_ret
      exact ⟨_, rfl, Kd.R_nil _ _ _ _ _, Below.refl _ _⟩
    · have hq : ∀ W : World, (binOp .eql 27 (.slice (some ad) l0.length c0) (.slice none 0 0)).run Try.prog W = .ok (.bool false) W := fun (W : World) => Lib.run_eql_slice_nil (P := Try.prog) W 27 5 (some ad) l0.length c0 0 0 Try.underlying27
      have HR := Aside0.mk hr0
      have HL := Aside0.mk hl
      clear h hr0 hc0 hl
      go_enter Try.func68, Try.ntmps68
      go_wp2_with (first | ((with_reducible refine gate_dst (N := 5) rfl ?_); refine Kd.R_lit (Kd.int .u8) _ 5 ?hg (N := 5) ?hd (xs := ([] : List Int)) (inner := []) (ok := fun _ => True) (okp := fun _ => True) ?hr ?hp (fun _ hk => hk) trivial (Below.refl _ _) (Nat.le_refl _) (by simp) ?_; (case hd => rfl); (case hg => rfl); (case hr => first | (go_simp; done) | (go_simp; rfl)); (case hp => exact (Reps.none _ _)); intro v1 w1 ho hb hg_ hnew_; clear hg_ hnew_; have HO := Aside0.mk ho; have HB := Aside0.mk hb; clear ho hb) | ((with_reducible refine gate_builtin (b := .append) (xs := #[.tmp 5, .tmp 6]) rfl ?_); at_builtin; refine Kd.R_append_rows (Kd.int .u8) (w0 := w) w.heap.size rfl (.tmp 5) (.tmp 6) 27 5 (.int .u8 0) 1 rfl Try.underlying27 info5 rfl (by decide) (by omega) v1 [] l0 _ _ _ (fun _ => True) (fun _ => False) rfl rfl ?aO ?aR (fun _ _ h => h) (fun _ h => h.elim) ?aF ?aB ?aS ?aL ?_; (case aR => exact (Kd.C_below HR.out HB.out)); (case aB => exact HB.out); (case aF => exact (fun _ _ => trivial)); (case aO => exact HO.out); (case aS => exact HB.out.size); (case aL => have := HL.out; simp; omega); intro v2 w2 ho2 hb2 hg hat; have HO2 := Aside0.mk ho2; have HB2 := Aside0.mk hb2; clear ho2 hb2 hg hat))
      go_ret
      exact ⟨_, rfl, HO2.out, HB2.out⟩
  · rw [if_neg hl] at h
    cases h


/-! ### block_Pieces: function 30 -/
mutual
def block_Pieces.j0 : Nat → Int → List Int → Bool → Option ((List (S46)) × Int)
  | 0, _, _, _ => none
  | k + 1, x0, x1, x18 => if x18 = true then (some (([] : List (S46)), 4)) else (block_Pieces.l0 k x0 x1 ([] : List (S46)))
def block_Pieces.l0 : Nat → Int → List Int → List (S46) → Option ((List (S46)) × Int)
  | 0, _, _, _ => none
  | k + 1, x0, x1, x6 => if (x1.length : Int) > 0 then (if 0 ≤ (mn (wrap64 (16 - (Int.tmod x0 16))) (x1.length : Int)) then (if (mn (wrap64 (16 - (Int.tmod x0 16))) (x1.length : Int)) ≤ (x1.length : Int) then ((bytes_Clone.f (x1.take ((mn (wrap64 (16 - (Int.tmod x0 16))) (x1.length : Int)) : Int).toNat)).bind fun t109 => (if x6.length < 4398046511104 then (block_Pieces.l0 k (wrap64 (x0 + (mn (wrap64 (16 - (Int.tmod x0 16))) (x1.length : Int)))) (x1.drop ((mn (wrap64 (16 - (Int.tmod x0 16))) (x1.length : Int)) : Int).toNat) (x6 ++ [(⟨x0, t109⟩ : S46)])) else (none))) else (none)) else (none)) else (some (x6, 0))
end
def block_Pieces.f (k : Nat) (a0 : Int) (l1 : List Int) : Option ((List (S46)) × Int) := if a0 < 0 then (some (([] : List (S46)), 1)) else (if a0 > 65536 then (block_Pieces.j0 k a0 l1 true) else (block_Pieces.j0 k a0 l1 (decide ((l1.length : Int) > (wrap64 (65536 - a0))))))
theorem block_Pieces.mono_l : ∀ k, (∀ y0 y1 y2, LeO (block_Pieces.j0 k y0 y1 y2) (block_Pieces.j0 (k + 1) y0 y1 y2)) ∧ (∀ y0 y1 y2, LeO (block_Pieces.l0 k y0 y1 y2) (block_Pieces.l0 (k + 1) y0 y1 y2))
  | 0 => ⟨fun _ _ _ r h => by simp [block_Pieces.j0] at h, fun _ _ _ r h => by simp [block_Pieces.l0] at h⟩
  | k + 1 => by
    obtain ⟨ih0, ih1⟩ := block_Pieces.mono_l k
    refine ⟨?_, ?_⟩
    · intro y0 y1 y2
      unfold block_Pieces.j0
      repeat' first
      | (with_reducible exact ih0 _ _ _)
      | (with_reducible exact ih1 _ _ _)
      | (with_reducible exact LeO.refl _)
      | (with_reducible exact LeO.none _)
      | (with_reducible refine LeO.ite ?_ ?_)
      | (with_reducible refine LeO.bind ?_ (fun _ => ?_))
      | exact ih0 _ _ _
      | exact ih1 _ _ _
      | exact LeO.none _
      | refine LeO.ite ?_ ?_
      | refine LeO.bind ?_ (fun _ => ?_)
    · intro y0 y1 y2
      unfold block_Pieces.l0
      repeat' first
      | (with_reducible exact ih0 _ _ _)
      | (with_reducible exact ih1 _ _ _)
      | (with_reducible exact LeO.refl _)
      | (with_reducible exact LeO.none _)
      | (with_reducible refine LeO.ite ?_ ?_)
      | (with_reducible refine LeO.bind ?_ (fun _ => ?_))
      | exact ih0 _ _ _
      | exact ih1 _ _ _
      | exact LeO.none _
      | refine LeO.ite ?_ ?_
      | refine LeO.bind ?_ (fun _ => ?_)
theorem block_Pieces.mono : ∀ a0 a1 k, LeO (block_Pieces.f k a0 a1) (block_Pieces.f (k + 1) a0 a1) := by
  intro a0 a1 k
  obtain ⟨ih0, ih1⟩ := block_Pieces.mono_l k
  unfold block_Pieces.f
  repeat' first
      | (with_reducible exact ih0 _ _ _)
      | (with_reducible exact ih1 _ _ _)
      | (with_reducible exact LeO.refl _)
      | (with_reducible exact LeO.none _)
      | (with_reducible refine LeO.ite ?_ ?_)
      | (with_reducible refine LeO.bind ?_ (fun _ => ?_))
      | exact ih0 _ _ _
      | exact ih1 _ _ _
      | exact LeO.none _
      | refine LeO.ite ?_ ?_
      | refine LeO.bind ?_ (fun _ => ?_)
set_option maxHeartbeats 8000000 in
set_option maxRecDepth 100000 in
theorem block_Pieces.calls (k : Nat) (a0 : Int) (P1_ : Nat → Prop) (A1 : Option Addr) (c1 : Nat) (l1 : List Int) (r1 : List (S46)) (r2 : Int) (w : World) (hs1 : Kd.V (Kd.int .u8) 5 w w.heap.size (fun k_ => P1_ k_) (.slice A1 l1.length c1) l1) (h : block_Pieces.f k a0 l1 = some (r1, r2)) :
    Calls Try.prog 30 #[.int .i64 a0, .slice A1 l1.length c1] w fun e w' => ∃ v0_ : Value, e = .returned (.tuple #[v0_, .int .i64 r2]) ∧ Kd.S k46 46 w' w.heap.size (fun k_ => (w.heap.size ≤ k_)) v0_ r1 ∧ Below w.heap.size w w' := by
  have hu46 := Try.underlying46
  have HO1 := Aside0.mk (show Kd.V (Kd.int .u8) 5 w w.heap.size (fun k_ => (P1_ k_ ∨ w.heap.size ≤ k_)) (.slice A1 l1.length c1) l1 from Kd.V_mono hs1 (fun k_ hk => .inl hk))
  have HB := Aside0.mk (Below.refl w.heap.size w)
  have H : (if a0 < 0 then (some (([] : List (S46)), 1)) else (if a0 > 65536 then (block_Pieces.j0 k a0 l1 true) else (block_Pieces.j0 k a0 l1 (decide ((l1.length : Int) > (wrap64 (65536 - a0))))))) = some (r1, r2) := h
  clear h
  by_cases c3 : a0 < 0
  · rw [if_pos c3] at H
    have c3b0 : decide (a0 < 0) = true := decide_eq_true c3
    clear c3
    simp only [Option.some.injEq, Prod.mk.injEq] at H
    obtain ⟨rfl, rfl⟩ := H
    go_enter Try.func30, Try.ntmps30
    go_wp2
    go_ret2
    exact ⟨_, by first | rfl | (simp [errW_none, errW_some] <;> rfl) | (simp [*, errW_none, errW_some] <;> rfl), by first | exact Kd.S_nil _ _ _ _ _ | exact Kd.N_nil _ _ _ _ _ | exact Kd.V_nil _ _ _ _ _ | exact Kd.Q_nil _ _ _ _ _ | exact Kd.R_nil _ _ _ _ _, by repeat (first | (with_reducible first | exact HB.out | apply below_alloc | apply pw_below_drewN | apply below_drew1) | exact HB.out)⟩
  · rw [if_neg c3] at H
    have c3b0 : decide (a0 < 0) = false := decide_eq_false c3
    clear c3
    have HC4 := Aside0.mk H
    clear H
    go_enter Try.func30, Try.ntmps30
    go_upto_region 3 with (fail)
    go_cut [18] (fun v18 wc => ∃ (kq : Nat) (x18_3 : Bool), v18 = .bool x18_3 ∧ Aside0 (block_Pieces.j0 kq a0 l1 x18_3 = some (r1, r2)) ∧ Aside0 (kq ≤ k) ∧ Aside0 (Kd.V (Kd.int .u8) 5 wc w.heap.size (fun k_ => (P1_ k_ ∨ w.heap.size ≤ k_)) (.slice A1 l1.length c1) l1) ∧ Aside0 (Below w.heap.size w wc))
    case first =>
      have H := HC4.out
      clear HC4
      by_cases c5 : a0 > 65536
      · rw [if_pos c5] at H
        have c5b0 : decide (65536 < a0) = true := decide_eq_true c5
        clear c5
        (first | rw [c5b0] | (simp only [i64_w, i32_w]; rw [c5b0]) | skip)
        have H' := Aside0.mk H
        clear H
        go_wp2
        go_meet
        case rel => exact ⟨_, (true), (by first | rfl | (simp; done) | (simp [*]; done)), H', ⟨by first | omega | exact Nat.le_refl _⟩, ⟨by (with_reducible repeat (first | apply Kd.V_alloc | apply Kd.V_drewN | apply Kd.V_drew)); exact HO1.out⟩, ⟨by repeat (first | (with_reducible first | exact HB.out | apply below_alloc | apply pw_below_drewN | apply below_drew1) | exact HB.out)⟩⟩
      · rw [if_neg c5] at H
        have c5b0 : decide (65536 < a0) = false := decide_eq_false c5
        clear c5
        (first | rw [c5b0] | (simp only [i64_w, i32_w]; rw [c5b0]) | skip)
        have H' := Aside0.mk H
        clear H
        go_wp2
        go_meet
        case rel => exact ⟨_, (decide ((l1.length : Int) > (wrap64 (65536 - a0)))), (by first | rfl | (simp; done) | (simp [*]; done)), H', ⟨by first | omega | exact Nat.le_refl _⟩, ⟨by (with_reducible repeat (first | apply Kd.V_alloc | apply Kd.V_drewN | apply Kd.V_drew)); exact HO1.out⟩, ⟨by repeat (first | (with_reducible first | exact HB.out | apply below_alloc | apply pw_below_drewN | apply below_drew1) | exact HB.out)⟩⟩
    case rest =>
      clear HC4
      try clear c1
      try clear p2
      try clear c3
      try clear c3b0
      try clear c5
      try clear c5b0
      obtain ⟨kq, x18_3, rfl, HA, HJ3, HO_1, HB⟩ := hcut
      cases kq with
      | zero => exact absurd HA.out (by simp [block_Pieces.j0])
      | succ kj3 =>
        have H := HA.out
        clear HA
        simp only [block_Pieces.j0] at H
        by_cases c6 : x18_3 = true
        · subst c6
          have H1 : (some (([] : List (S46)), 4)) = some (r1, r2) := by rw [if_pos rfl] at H; exact H
          clear H
          have H := H1
          clear H1
          simp only [Option.some.injEq, Prod.mk.injEq] at H
          obtain ⟨rfl, rfl⟩ := H
          go_wp2
          go_ret2
          exact ⟨_, by first | rfl | (simp [errW_none, errW_some] <;> rfl) | (simp [*, errW_none, errW_some] <;> rfl), by first | exact Kd.S_nil _ _ _ _ _ | exact Kd.N_nil _ _ _ _ _ | exact Kd.V_nil _ _ _ _ _ | exact Kd.Q_nil _ _ _ _ _ | exact Kd.R_nil _ _ _ _ _, by repeat (first | (with_reducible first | exact HB.out | apply below_alloc | apply pw_below_drewN | apply below_drew1) | exact HB.out)⟩
        · replace c6 := Bool.eq_false_iff.mpr c6
          subst c6
          have H1 : (block_Pieces.l0 kj3 a0 l1 ([] : List (S46))) = some (r1, r2) := by rw [if_neg (show ¬ (false = true) by decide)] at H; exact H
          clear H
          have H := H1
          clear H1
          have H' := Aside0.mk H
          clear H
          go_wp2
          go_loopg [0, 1, 6] kj3 (fun kq v0 v1 v6 w' => ∃ (x0_2 : Int) (x1_2 : List Int) (x6_2 : List (S46)), v0 = .int .i64 x0_2 ∧ Aside0 (block_Pieces.l0 kq x0_2 x1_2 x6_2 = some (r1, r2)) ∧ Aside0 (kq ≤ kj3) ∧ Aside0 (Kd.V (Kd.int .u8) 5 w' w.heap.size (fun k_ => (P1_ k_ ∨ w.heap.size ≤ k_) ∧ some k_ ≠ (v6 : Value).ownBlock) v1 x1_2) ∧ Aside0 (Kd.S k46 46 w' w.heap.size (fun k_ => (w.heap.size ≤ k_)) v6 x6_2) ∧ Aside0 (Below w.heap.size w w'))
          case atStart => exact ⟨(a0), (l1), (([] : List (S46))), (by first | rfl | (simp; done) | (simp [*]; done)), H', ⟨Nat.le_refl _⟩, ⟨by (with_reducible repeat (first | apply Kd.V_alloc | apply Kd.V_drewN | apply Kd.V_drew)); exact Kd.V_mono HO_1.out (fun _ hk => ⟨hk, (by simp [Value.ownBlock])⟩)⟩, ⟨by first | exact Kd.S_nil _ _ _ _ _ | exact Kd.N_nil _ _ _ _ _ | exact Kd.V_nil _ _ _ _ _ | exact Kd.Q_nil _ _ _ _ _ | exact Kd.R_nil _ _ _ _ _⟩, ⟨by repeat (first | (with_reducible first | exact HB.out | apply below_alloc | apply pw_below_drewN | apply below_drew1) | exact HB.out)⟩⟩
          case round =>
            clear H'
            try clear c1
            try clear p2
            try clear c3
            try clear c3b0
            try clear c5
            try clear c5b0
            try clear c6
            try clear p6
            try clear p2
            obtain ⟨x0_2, x1_2, x6_2, rfl, HA, HK2, HO_1, HO_6, HB⟩ := hrel
            cases gk with
            | zero => exact absurd HA.out (by simp [block_Pieces.l0])
            | succ k2 =>
              have H := HA.out
              clear HA
              simp only [block_Pieces.l0] at H
              by_cases c7 : (x1_2.length : Int) > 0
              · rw [if_pos c7] at H
                have c7b0 : decide (0 < (x1_2.length : Int)) = true := decide_eq_true c7
                have c7b1 : decide (0 < x1_2.length) = true := decide_eq_true (by omega)
                clear c7
                obtain ⟨ji8, hji8⟩ : ∃ j_ : Int, (mn (wrap64 (16 - (Int.tmod x0_2 16))) (x1_2.length : Int)) = j_ := ⟨_, rfl⟩
                replace H : (if 0 ≤ (ji8) then (if (ji8) ≤ (x1_2.length : Int) then ((bytes_Clone.f (x1_2.take ((ji8) : Int).toNat)).bind fun t109 => (if x6_2.length < 4398046511104 then (block_Pieces.l0 k2 (wrap64 (x0_2 + (ji8))) (x1_2.drop ((ji8) : Int).toNat) (x6_2 ++ [(⟨x0_2, t109⟩ : S46)])) else (none))) else (none)) else (none)) = some (r1, r2) := by first | (rw [hji8] at H; exact H) | (simp only [hji8] at H ⊢; exact H)
                have hji8_ : (if (x1_2.length : Int) < (wrap64 (16 - (Int.tmod x0_2 16))) then (x1_2.length : Int) else (wrap64 (16 - (Int.tmod x0_2 16)))) = ji8 := hji8
                by_cases c9 : 0 ≤ (ji8)
                · rw [if_pos c9] at H
                  have c9b0 := eq_true c9
                  have c9b1 : decide (0 ≤ (ji8)) = true := decide_eq_true c9
                  clear c9
                  by_cases c10 : (ji8) ≤ (x1_2.length : Int)
                  · rw [if_pos c10] at H
                    have c10b0 := eq_true c10
                    have c10b1 : decide ((ji8) ≤ (x1_2.length : Int)) = true := decide_eq_true c10
                    clear c10
                    obtain ⟨y104, hy104⟩ : ∃ y_ : List Int, y_ = (x1_2.take ((ji8) : Int).toNat) := ⟨_, rfl⟩
                    replace H : ((bytes_Clone.f y104).bind fun t109 => (if x6_2.length < 4398046511104 then (block_Pieces.l0 k2 (wrap64 (x0_2 + (ji8))) (x1_2.drop ((ji8) : Int).toNat) (x6_2 ++ [(⟨x0_2, t109⟩ : S46)])) else (none))) = some (r1, r2) := by first | (rw [hy104]; with_reducible exact H) | (have H2_ := (Option.bind_some _ _).symm.trans H; rw [hy104]; with_reducible exact H2_) | (have H2_ := (Option.bind_some _ _).symm.trans H; with_reducible exact H2_) | with_reducible exact H | (rw [hy104]; exact H) | exact H
                    have Ny104 := Aside0.mk hy104
                    clear hy104
                    replace H := Option.bind_eq_some_iff.mp H
                    obtain ⟨t109, A110, H⟩ := H
                    replace H : (if x6_2.length < 4398046511104 then (block_Pieces.l0 k2 (wrap64 (x0_2 + (ji8))) (x1_2.drop ((ji8) : Int).toNat) (x6_2 ++ [(⟨x0_2, t109⟩ : S46)])) else (none)) = some (r1, r2) := H
                    have A11 := Aside0.mk A110
                    clear A110
                    by_cases c12 : x6_2.length < 4398046511104
                    · rw [if_pos c12] at H
                      have LMc12 := Aside0.mk c12
                      clear c12
                      obtain ⟨y112, hy112⟩ : ∃ y_ : List (S46), y_ = (x6_2 ++ [(⟨x0_2, t109⟩ : S46)]) := ⟨_, rfl⟩
                      replace H : (block_Pieces.l0 k2 (wrap64 (x0_2 + (ji8))) (x1_2.drop ((ji8) : Int).toNat) y112) = some (r1, r2) := by first | (rw [hy112]; with_reducible exact H) | (have H2_ := (Option.bind_some _ _).symm.trans H; rw [hy112]; with_reducible exact H2_) | (have H2_ := (Option.bind_some _ _).symm.trans H; with_reducible exact H2_) | with_reducible exact H | (rw [hy112]; exact H) | exact H
                      have Ny112 := Aside0.mk hy112
                      clear hy112
                      have c13b0 := eq_true (of_decide_eq_true (by first | (with_reducible assumption) | assumption) : 0 ≤ (ji8))
                      have c14b0 := eq_true (of_decide_eq_true (by first | (with_reducible assumption) | assumption) : (ji8) ≤ (x1_2.length : Int))
                      obtain ⟨y115, hy115⟩ : ∃ y_ : List Int, y_ = (x1_2.drop ((ji8) : Int).toNat) := ⟨_, rfl⟩
                      replace H : (block_Pieces.l0 k2 (wrap64 (x0_2 + (ji8))) y115 y112) = some (r1, r2) := by first | (rw [hy115]; with_reducible exact H) | (have H2_ := (Option.bind_some _ _).symm.trans H; rw [hy115]; with_reducible exact H2_) | (have H2_ := (Option.bind_some _ _).symm.trans H; with_reducible exact H2_) | with_reducible exact H | (rw [hy115]; exact H) | exact H
                      have Ny115 := Aside0.mk hy115
                      clear hy115
                      have H' := Aside0.mk H
                      clear H
                      obtain ⟨Ao15, co15, eo15⟩ := Kd.V_slice HO_1.out
                      subst eo15
                      have q16 : ((ji8) : Int) ≤ ((x1_2.length : Int) : Int) := of_decide_eq_true (by first | (with_reducible assumption) | assumption)
                      obtain ⟨i016, hi016, _, hsz16, _⟩ := info_parts info5
                      have hroom16 : x1_2.length ≤ co15 := (Kd.V_reads' HO_1.out).2.1
                      have hC16 : Kd.F (Kd.int .u8) _ _ Ao15 x1_2.length x1_2 := (Kd.V_at (base := w.heap.size) HO_1.out).2.2
                      have hcut16 := cut_to (P := Try.prog) 27 5 .i64 Try.underlying27 hi016 Ao15 x1_2.length co15 (ji8) (of_decide_eq_true (by first | (with_reducible assumption) | assumption)) q16 hroom16
                      have hr16 := Kd.F_take (m := ((ji8) : Int).toNat) hC16 (by omega)
                      have hy16 : y104.length = ((ji8) : Int).toNat := (by rw [Ny104.out, List.length_take]; omega)
                      rw [← Ny104.out] at hr16
                      rw [← hy16] at hcut16
                      have HO108 := Aside0.mk (show Kd.V (Kd.int .u8) 5 _ w.heap.size _ (.slice Ao15 y104.length co15) y104 from Kd.V_mk (by omega) hr16)
                      have HC108 := Aside0.mk (show y104.length ≤ co15 from by omega)
                      clear hr16 hC16 hroom16 hi016 hsz16
                      have KY16 := Aside0.mk hy16
                      clear hy16
                      replace q16 := eq_true q16
                      go_wp2_with (first | ((with_reducible refine gate_callee (f := 68) rfl ?_); refine goesL_ (some 33) rfl rfl Try.func68 (by kernel_rfl) rfl #[.slice Ao15 y104.length co15] rfl (by (try simp only [List.map_toArray, List.map_cons, List.map_nil]); first | done | rfl | (simp only [List.length_drop, List.length_take]; rfl)) ?_; (with_reducible refine (bytes_Clone.calls _ _ y104 t109 _ ?side1 ?side2 A11.out).mono ?_); (case side1 => exact Kd.C_y (Kd.V_reads' HO108.out).2.2); (case side2 => exact (Kd.V_reads' HO108.out).2.1); rintro e w17 ⟨v110, rfl, ho0, hb⟩; refine ⟨_, rfl, ?_⟩; have n0_ := Aside0.mk (Kd.V_elder' (Kd.V_y HO_1.out) (Kd.R_base ho0) hb); have n1_ := Aside0.mk (Kd.S_elder' (Kd.S_y HO_6.out) (Kd.R_base ho0) hb); have n2_ := Aside0.mk (Kd.V_elder' (Kd.V_y HO108.out) (Kd.R_base ho0) hb); have n3_ := Aside0.mk (Kd.R_lower (Kd.R_newM (M := fun k_ => (w.heap.size ≤ k_)) ho0 (below_size (below_y HB.out)) (fun k_ h_ => h_)) (below_size (below_y HB.out))); have n4_ := Aside0.mk (below_step (below_y HB.out) hb); clear HO_1; clear HO_6; clear HO108; clear HB; have HO_1 := n0_; have HO_6 := n1_; have HO108 := n2_; have HO111 := n3_; have HB := n4_; clear n0_ n1_ n2_ n3_ n4_; (try clear hb); (try clear hb2); (try clear hk); (try clear hi); (try clear ho0); obtain ⟨Ao18, co18, eo18⟩ := Kd.R_slice HO111.out; subst eo18) | ((with_reducible refine gate_builtin (b := .append) (xs := #[.tmp 28, .tmp 35]) rfl ?_); (try (refine gate_guard (by rfl) ?_; dsimp only)); at_builtin; refine Kd.S_append k46 (w0 := w) w.heap.size rfl (.tmp 28) (.tmp 35) 39 46 (.agg #[(.int .i64 0), (.slice none 0 0)]) 32 rfl Try.underlying39 info46 rfl (by decide) (by omega) u6 x6_2 (⟨x0_2, t109⟩ : S46) [.int .i64 x0_2, .slice Ao18 t109.length co18] (fun k_ => (w.heap.size ≤ k_)) (fun k_ => some k_ = (.slice Ao18 t109.length co18 : Value).ownBlock) rfl rfl ?aP (fun k_ hk_ => ((Kd.R_mono (ok' := fun k_ => ((fun k_ => (w.heap.size ≤ k_))) k_ ∧ some k_ ≠ (u6 : Value).ownBlock) (Kd.R_apart' (HO111.out) (Kd.S_typed HO_6.out) (by decide)) (fun k_ hk => ⟨hk.1.1, hk.2⟩))).1 k_ hk_.symm) ?aF ?aO ?aB ?aS ?aL ?_; (case aP => exact k46_mkM _ _ _ (⟨x0_2, t109⟩ : S46) (Kd.R_mono (Kd.R_tight rfl (Kd.R_mono (ok' := fun k_ => ((fun k_ => (w.heap.size ≤ k_))) k_ ∧ some k_ ≠ (u6 : Value).ownBlock) (Kd.R_apart' (HO111.out) (Kd.S_typed HO_6.out) (by decide)) (fun k_ hk => ⟨hk.1.1, hk.2⟩))) (fun _ h_ => h_))); (case aB => exact (below_y HB.out)); (case aF => exact (fun k_ hk => (Nat.le_trans (below_size (below_y HB.out)) hk))); (case aO => exact (by (with_reducible repeat (first | apply Kd.S_alloc | apply Kd.S_drewN | apply Kd.S_drew)); exact Kd.S_mono HO_6.out (fun k_ hk => ⟨hk.1, fun e_ => hk.2 e_⟩))); (case aS => exact (below_size (below_y HB.out))); (case aL => have := LMc12.out; omega); intro v113 w19 ho hb hg hat; rw [← Ny112.out] at ho; (first | have n0_ := Aside0.mk (Kd.V_afterv (ok := (fun k_ => (P1_ k_ ∨ w.heap.size ≤ k_) ∧ some k_ ≠ (.slice Ao18 t109.length co18 : Value).ownBlock)) (by (with_reducible repeat (first | apply Kd.V_alloc | apply Kd.V_drewN | apply Kd.V_drew)); exact Kd.V_mono HO_1.out (fun _ hk => ⟨⟨hk.1.1, hk.2⟩, hk.1.2⟩)) hg hat) | have n0_ := Aside0.mk True.intro); (first | have n1_ := Aside0.mk (Kd.V_afterv (ok := (fun k_ => (P1_ k_ ∨ w.heap.size ≤ k_) ∧ some k_ ≠ (.slice Ao18 t109.length co18 : Value).ownBlock)) (by (with_reducible repeat (first | apply Kd.V_alloc | apply Kd.V_drewN | apply Kd.V_drew)); exact Kd.V_mono HO108.out (fun _ hk => ⟨⟨hk.1.1, hk.2⟩, hk.1.2⟩)) hg hat) | have n1_ := Aside0.mk True.intro); have n2_ := Aside0.mk (hb); have n3_ := Aside0.mk (ho); clear HO_1; clear HO108; clear HB; clear HO_6; clear HO111; have HO_1 := n0_; have HO108 := n1_; have HB := n2_; have HO114 := n3_; clear n0_ n1_ n2_ n3_; clear ho hb hg hat; have q20 : ((ji8) : Int) ≤ ((x1_2.length : Int) : Int) := of_decide_eq_true (by first | (with_reducible assumption) | assumption); obtain ⟨i020, hi020, _, hsz20, _⟩ := info_parts info5; have hroom20 : x1_2.length ≤ co15 := (Kd.V_reads' HO_1.out).2.1; have hC20 : Kd.F (Kd.int .u8) _ _ Ao15 x1_2.length x1_2 := (Kd.V_at (base := w.heap.size) HO_1.out).2.2; have q020 : (0 : Int) ≤ ((ji8) : Int) := of_decide_eq_true (by first | (with_reducible assumption) | assumption); have hcut20 := cut_from (P := Try.prog) 27 5 .i64 Try.underlying27 hi020 1 hsz20 Ao15 x1_2.length co15 (ji8) q020 q20; have hr20 := Kd.F_cut (m := ((ji8) : Int).toNat) (c := co15) hC20 (by omega) hroom20; obtain ⟨A20, hA20⟩ : ∃ Az_, Az_ = (if co15 = ((ji8) : Int).toNat then Ao15 else (Ao15 : Option Addr).map (·.add (((ji8) : Int).toNat * 1))) := ⟨_, rfl⟩; obtain ⟨c20, hc20⟩ : ∃ cz_, cz_ = co15 - ((ji8) : Int).toNat := ⟨_, rfl⟩; have hy20 : y115.length = x1_2.length - ((ji8) : Int).toNat := (by rw [Ny115.out, List.length_drop] <;> omega); rw [show (x1_2).drop ((ji8) : Int).toNat = y115 from Ny115.out.symm] at hr20; replace hr20 : Kd.F (Kd.int .u8) _ _ A20 y115.length y115 := (by rw [hA20]; exact hr20); rw [← hy20, ← hA20, ← hc20] at hcut20; have HO119 := Aside0.mk (show Kd.V (Kd.int .u8) 5 _ w.heap.size _ (.slice A20 y115.length c20) y115 from Kd.V_mk (by rw [hy20, hc20]; exact Nat.sub_le_sub_right hroom20 _) hr20); have HC119 := Aside0.mk (show y115.length ≤ c20 from by rw [hy20, hc20]; exact Nat.sub_le_sub_right hroom20 _); clear hr20 hC20 hroom20 hi020 hsz20 hc20; have KY20 := Aside0.mk hy20; have KA20 := Aside0.mk hA20; clear hy20 hA20; replace q20 := eq_true q20))
                      go_roundg k2
                      case measure => have := HJ3.out; have := HK2.out; omega
                      case rel => exact ⟨(wrap64 (x0_2 + (ji8))), (y115), (y112), (by first | rfl | (simp; done) | (simp only [← hji8] <;> (first | rfl | simp)) | (simp [*]; done)), H', ⟨by have := HJ3.out; have := HK2.out; omega⟩, ⟨by (with_reducible repeat (first | apply Kd.V_alloc | apply Kd.V_drewN | apply Kd.V_drew)); exact Kd.V_mono HO119.out (fun _ hk => ⟨hk.1.1, hk.2⟩)⟩, ⟨by (with_reducible repeat (first | apply Kd.S_alloc | apply Kd.S_drewN | apply Kd.S_drew)); exact HO114.out⟩, ⟨by repeat (first | (with_reducible first | exact HB.out | apply below_alloc | apply pw_below_drewN | apply below_drew1) | exact HB.out)⟩⟩
                    · rw [if_neg c12] at H
                      exact absurd H (by simp)
                  · rw [if_neg c10] at H
                    exact absurd H (by simp)
                · rw [if_neg c9] at H
                  exact absurd H (by simp)
              · rw [if_neg c7] at H
                have c7b0 : decide (0 < (x1_2.length : Int)) = false := decide_eq_false c7
                have c7b1 : decide (0 < x1_2.length) = false := decide_eq_false (by omega)
                clear c7
                simp only [Option.some.injEq, Prod.mk.injEq] at H
                obtain ⟨rfl, rfl⟩ := H
                obtain ⟨Ao21, co21, eo21⟩ := Kd.V_slice HO_1.out
                subst eo21
                go_wp2
                go_ret2
                exact ⟨_, by first | rfl | (simp [errW_none, errW_some] <;> rfl) | (simp [*, errW_none, errW_some] <;> rfl), by (with_reducible repeat (first | apply Kd.S_alloc | apply Kd.S_drewN | apply Kd.S_drew)); exact HO_6.out, by repeat (first | (with_reducible first | exact HB.out | apply below_alloc | apply pw_below_drewN | apply below_drew1) | exact HB.out)⟩

/-! ### block_Right: function 32 -/
def block_Right.f (a0_0 : Int) (l0_1 : List Int) : Option (Bool) := if a0_0 < 0 then (some false) else (if a0_0 ≥ 65536 then (some false) else (if (l0_1.length : Int) = 0 then (some false) else (some (decide ((l0_1.length : Int) ≤ (wrap64 (16 - (Int.tmod a0_0 16))))))))
set_option maxHeartbeats 8000000 in
set_option maxRecDepth 100000 in
theorem block_Right.calls (a0_0 : Int) (A0_1 : Option Addr) (c0_1 : Nat) (l0_1 : List Int) (r : Bool) (w : World) (hr0_1 : Kd.C (Kd.int .u8) w A0_1 l0_1.length l0_1) (hc0_1 : l0_1.length ≤ c0_1) (h : block_Right.f a0_0 l0_1 = some r) :
    Calls Try.prog 32 #[.agg #[.int .i64 a0_0, .slice A0_1 l0_1.length c0_1]] w fun e w' => e = .returned (.bool r) ∧ Below w.heap.size w w' := by
  have hu46 := Try.underlying46
  have HR0_1 := Aside0.mk hr0_1
  have HC0_1 := Aside0.mk hc0_1
  clear hr0_1 hc0_1
  have HB := Aside0.mk (Below.refl w.heap.size w)
  have H : (if a0_0 < 0 then (some false) else (if a0_0 ≥ 65536 then (some false) else (if (l0_1.length : Int) = 0 then (some false) else (some (decide ((l0_1.length : Int) ≤ (wrap64 (16 - (Int.tmod a0_0 16))))))))) = some r := h
  clear h
  by_cases c2 : a0_0 < 0
  · rw [if_pos c2] at H
    have c2b0 : decide (a0_0 < 0) = true := decide_eq_true c2
    clear c2
    obtain rfl := Option.some.inj H
    go_enter Try.func32, Try.ntmps32
    go_wp2_with (first | ((with_reducible refine gate_dst (N := 1) rfl ?_); (try (refine gate_guard (by rfl) ?_; dsimp only)); refine box_event ?hg (N := 1) ?hd (cs := #[.int .i64 a0_0, .slice A0_1 l0_1.length c0_1]) (t := 46) ?hr ?_; (case hd => rfl); (case hg => rfl); (case hr => first | (go_simp; done) | (go_simp; rfl)); intro gb120 hg w3 hbox hb; have n0_ := Aside0.mk (below_step (below_y HB.out) hb); have n1_ := Aside0.mk (hbox); have n2_ := Aside0.mk ((by rw [hg]; exact (below_size (below_y HB.out)) : w.heap.size ≤ gb120)); have n3_ := Aside0.mk ((by rw [hg]; exact (below_size (below_y HB.out)) : w.heap.size ≤ gb120)); clear HB; have HB := n0_; have BK120 := n1_; have GW120 := n2_; have GE120 := n3_; clear n0_ n1_ n2_ n3_; clear hb hbox hg; have hcz4_0 : w3.cell? ⟨gb120, 0, none⟩ = some (.int .i64 a0_0) := (blk_cell BK120.out 0).trans rfl; have hcz4_1 : w3.cell? ⟨gb120, 1, none⟩ = some (.slice A0_1 l0_1.length c0_1) := (blk_cell BK120.out 1).trans rfl; have hfz4_0 := blk_frozen BK120.out 0; have hfz4_1 := blk_frozen BK120.out 1))
    go_ret
    exact ⟨by first | rfl | (simp [errW_none, errW_some] <;> rfl) | (simp [*, errW_none, errW_some] <;> rfl), by repeat (first | (with_reducible first | exact HB.out | apply below_alloc | apply pw_below_drewN | apply below_drew1 | refine below_set ?_ GE120.out) | exact HB.out)⟩
  · rw [if_neg c2] at H
    have c2b0 : decide (a0_0 < 0) = false := decide_eq_false c2
    clear c2
    by_cases c5 : a0_0 ≥ 65536
    · rw [if_pos c5] at H
      have c5b0 : decide (65536 ≤ a0_0) = true := decide_eq_true c5
      clear c5
      obtain rfl := Option.some.inj H
      go_enter Try.func32, Try.ntmps32
      go_wp2_with (first | ((with_reducible refine gate_dst (N := 1) rfl ?_); (try (refine gate_guard (by rfl) ?_; dsimp only)); refine box_event ?hg (N := 1) ?hd (cs := #[.int .i64 a0_0, .slice A0_1 l0_1.length c0_1]) (t := 46) ?hr ?_; (case hd => rfl); (case hg => rfl); (case hr => first | (go_simp; done) | (go_simp; rfl)); intro gb120 hg w6 hbox hb; have n0_ := Aside0.mk (below_step (below_y HB.out) hb); have n1_ := Aside0.mk (hbox); have n2_ := Aside0.mk ((by rw [hg]; exact (below_size (below_y HB.out)) : w.heap.size ≤ gb120)); have n3_ := Aside0.mk ((by rw [hg]; exact (below_size (below_y HB.out)) : w.heap.size ≤ gb120)); clear HB; have HB := n0_; have BK120 := n1_; have GW120 := n2_; have GE120 := n3_; clear n0_ n1_ n2_ n3_; clear hb hbox hg; have hcz7_0 : w6.cell? ⟨gb120, 0, none⟩ = some (.int .i64 a0_0) := (blk_cell BK120.out 0).trans rfl; have hcz7_1 : w6.cell? ⟨gb120, 1, none⟩ = some (.slice A0_1 l0_1.length c0_1) := (blk_cell BK120.out 1).trans rfl; have hfz7_0 := blk_frozen BK120.out 0; have hfz7_1 := blk_frozen BK120.out 1))
      go_ret
      exact ⟨by first | rfl | (simp [errW_none, errW_some] <;> rfl) | (simp [*, errW_none, errW_some] <;> rfl), by repeat (first | (with_reducible first | exact HB.out | apply below_alloc | apply pw_below_drewN | apply below_drew1 | refine below_set ?_ GE120.out) | exact HB.out)⟩
    · rw [if_neg c5] at H
      have c5b0 : decide (65536 ≤ a0_0) = false := decide_eq_false c5
      clear c5
      by_cases c8 : (l0_1.length : Int) = 0
      · rw [if_pos c8] at H
        have c8b0 : ((l0_1.length : Int) == 0) = true := beq_iff_eq.mpr c8
        have c8b1 : ((l0_1.length : Int) != 0) = false := bne_eq_false_iff_eq.mpr c8
        clear c8
        obtain rfl := Option.some.inj H
        go_enter Try.func32, Try.ntmps32
        go_wp2_with (first | ((with_reducible refine gate_dst (N := 1) rfl ?_); (try (refine gate_guard (by rfl) ?_; dsimp only)); refine box_event ?hg (N := 1) ?hd (cs := #[.int .i64 a0_0, .slice A0_1 l0_1.length c0_1]) (t := 46) ?hr ?_; (case hd => rfl); (case hg => rfl); (case hr => first | (go_simp; done) | (go_simp; rfl)); intro gb120 hg w9 hbox hb; have n0_ := Aside0.mk (below_step (below_y HB.out) hb); have n1_ := Aside0.mk (hbox); have n2_ := Aside0.mk ((by rw [hg]; exact (below_size (below_y HB.out)) : w.heap.size ≤ gb120)); have n3_ := Aside0.mk ((by rw [hg]; exact (below_size (below_y HB.out)) : w.heap.size ≤ gb120)); clear HB; have HB := n0_; have BK120 := n1_; have GW120 := n2_; have GE120 := n3_; clear n0_ n1_ n2_ n3_; clear hb hbox hg; have hcz10_0 : w9.cell? ⟨gb120, 0, none⟩ = some (.int .i64 a0_0) := (blk_cell BK120.out 0).trans rfl; have hcz10_1 : w9.cell? ⟨gb120, 1, none⟩ = some (.slice A0_1 l0_1.length c0_1) := (blk_cell BK120.out 1).trans rfl; have hfz10_0 := blk_frozen BK120.out 0; have hfz10_1 := blk_frozen BK120.out 1))
        go_ret
        exact ⟨by first | rfl | (simp [errW_none, errW_some] <;> rfl) | (simp [*, errW_none, errW_some] <;> rfl), by repeat (first | (with_reducible first | exact HB.out | apply below_alloc | apply pw_below_drewN | apply below_drew1 | refine below_set ?_ GE120.out) | exact HB.out)⟩
      · rw [if_neg c8] at H
        have c8b0 : ((l0_1.length : Int) == 0) = false := beq_eq_false_iff_ne.mpr c8
        have c8b1 : ((l0_1.length : Int) != 0) = true := bne_iff_ne.mpr c8
        have c8b2 : ¬ (l0_1 = []) := fun h_ => c8 (by rw [h_]; rfl)
        obtain rfl := Option.some.inj H
        go_enter Try.func32, Try.ntmps32
        go_wp2_with (first | ((with_reducible refine gate_dst (N := 1) rfl ?_); (try (refine gate_guard (by rfl) ?_; dsimp only)); refine box_event ?hg (N := 1) ?hd (cs := #[.int .i64 a0_0, .slice A0_1 l0_1.length c0_1]) (t := 46) ?hr ?_; (case hd => rfl); (case hg => rfl); (case hr => first | (go_simp; done) | (go_simp; rfl)); intro gb120 hg w11 hbox hb; have n0_ := Aside0.mk (below_step (below_y HB.out) hb); have n1_ := Aside0.mk (hbox); have n2_ := Aside0.mk ((by rw [hg]; exact (below_size (below_y HB.out)) : w.heap.size ≤ gb120)); have n3_ := Aside0.mk ((by rw [hg]; exact (below_size (below_y HB.out)) : w.heap.size ≤ gb120)); clear HB; have HB := n0_; have BK120 := n1_; have GW120 := n2_; have GE120 := n3_; clear n0_ n1_ n2_ n3_; clear hb hbox hg; have hcz12_0 : w11.cell? ⟨gb120, 0, none⟩ = some (.int .i64 a0_0) := (blk_cell BK120.out 0).trans rfl; have hcz12_1 : w11.cell? ⟨gb120, 1, none⟩ = some (.slice A0_1 l0_1.length c0_1) := (blk_cell BK120.out 1).trans rfl; have hfz12_0 := blk_frozen BK120.out 0; have hfz12_1 := blk_frozen BK120.out 1))
        go_ret
        exact ⟨by first | rfl | (simp [errW_none, errW_some] <;> rfl) | (simp [*, errW_none, errW_some] <;> rfl), by repeat (first | (with_reducible first | exact HB.out | apply below_alloc | apply pw_below_drewN | apply below_drew1 | refine below_set ?_ GE120.out) | exact HB.out)⟩

/-! ### block_Lay: function 35 -/
def block_Lay.rightB (p : S46) : Bool := decide (0 ≤ p.f0) && decide (p.f0 < 65536) && decide (0 < p.f1.length) && decide ((p.f1.length : Int) ≤ 16 - p.f0 % 16)
def block_Lay.one (out : List Int) (p : S46) : List Int :=
  if block_Lay.rightB p = true then (out ++ List.replicate (p.f0.toNat + p.f1.length - out.length) 0).take p.f0.toNat ++ p.f1 ++ (out ++ List.replicate (p.f0.toNat + p.f1.length - out.length) 0).drop (p.f0.toNat + p.f1.length) else out
def block_Lay.f (l0 : List Int) (l1 : List S46) : Option (List Int) := if l0.length < 1000000000000 then some (l1.foldl block_Lay.one l0) else none
theorem block_Lay.right_f (p : S46) : block_Right.f p.f0 p.f1 = some (block_Lay.rightB p) := by
  unfold block_Right.f block_Lay.rightB
  by_cases h1 : p.f0 < 0
  · rw [if_pos h1, decide_eq_false (by omega : ¬ 0 ≤ p.f0)]; rfl
  · rw [if_neg h1, decide_eq_true (by omega : 0 ≤ p.f0)]
    by_cases h2 : p.f0 ≥ 65536
    · rw [if_pos h2, decide_eq_false (by omega : ¬ p.f0 < 65536)]; rfl
    · rw [if_neg h2, decide_eq_true (by omega : p.f0 < 65536)]
      by_cases h3 : (p.f1.length : Int) = 0
      · rw [if_pos h3, decide_eq_false (by omega : ¬ 0 < p.f1.length)]; rfl
      · rw [if_neg h3, decide_eq_true (by omega : 0 < p.f1.length), Int.tmod_eq_emod_of_nonneg (by omega)]
        have e : wrap64 (16 - p.f0 % 16) = 16 - p.f0 % 16 := by unfold wrap64; omega
        rw [e]
        rfl
theorem block_Lay.right_b {p : S46} (h : block_Lay.rightB p = true) : 0 ≤ p.f0 ∧ p.f0 < 65536 ∧ 0 < p.f1.length ∧ (p.f1.length : Int) ≤ 16 - p.f0 % 16 := by
  unfold block_Lay.rightB at h
  simp only [Bool.and_eq_true, decide_eq_true_eq] at h
  obtain ⟨⟨⟨h1, h2⟩, h3⟩, h4⟩ := h
  exact ⟨h1, h2, h3, h4⟩
theorem block_Lay.one_len (out : List Int) (p : S46) : (block_Lay.one out p).length ≤ max out.length 65552 := by
  unfold block_Lay.one
  split
  · rename_i h
    obtain ⟨h1, h2, h3, h4⟩ := block_Lay.right_b h
    simp only [List.length_append, List.length_take, List.length_drop, List.length_replicate]
    omega
  · omega
theorem block_Lay.fold_len (l : List S46) (out : List Int) (h : out.length < 1000000000000) : (l.foldl block_Lay.one out).length < 1000000000000 := by
  induction l generalizing out with
  | nil => exact h
  | cons p l ih => exact ih _ (by have := block_Lay.one_len out p; omega)
set_option maxHeartbeats 4000000 in
set_option maxRecDepth 100000 in
theorem block_Lay.calls (A0 : Option Addr) (c0 : Nat) (l0 : List Int) (A1 : Option Addr) (c1 : Nat) (l1 : List S46) (r : List Int) (w : World) (hr0 : Kd.C (Kd.int .u8) w A0 l0.length l0) (hc0 : l0.length ≤ c0) (hr1 : Kd.C k46 w A1 l1.length l1) (hc1 : l1.length ≤ c1) (h : block_Lay.f l0 l1 = some r) :
    Calls Try.prog 35 #[.slice A0 l0.length c0, .slice A1 l1.length c1] w fun e w' => ∃ v0_ : Value, e = .returned (v0_) ∧ Kd.R (Kd.int .u8) 5 w' w.heap.size (fun _ => True) v0_ r ∧ Below w.heap.size w w' := by
  unfold block_Lay.f at h
  by_cases hl : l0.length < 1000000000000
  · rw [if_pos hl] at h
    obtain rfl := Option.some.inj h
    have HCl := Aside0.mk (bytes_Clone.calls A0 c0 l0 l0 w hr0 hc0 (by unfold bytes_Clone.f; rw [if_pos (by omega)]))
    have HR := Aside0.mk hr1
    have HN := Aside0.mk hr1.2.1
    have HL := Aside0.mk hl
    clear hr0 hc0 hr1 hc1 hl h
    have hu := Try.underlying46
    go_enter Try.func35, Try.ntmps35
    go_wp2_with (go_at_call 68; refine HCl.out.mono ?_; rintro e w1 ⟨v0, rfl, ho, hb⟩; have HO := Aside0.mk ho; have HB := Aside0.mk hb; clear ho hb)
    go_loopw [5, 13] (fun v5 v13 wr => ∃ (x13 : Int) (xs : List Int), v13 = .int .i64 x13 ∧ Aside0 (0 ≤ x13 ∧ x13 ≤ (l1.length : Int) ∧ xs.length < 1000000000000 ∧ (l1.drop x13.toNat).foldl block_Lay.one xs = l1.foldl block_Lay.one l0) ∧ Aside0 (Kd.R (Kd.int .u8) 5 wr w.heap.size (fun _ => True) v5 xs) ∧ Aside0 (Below w.heap.size w wr)) (fun _ v13 _ => l1.length - (intOf v13).toNat)
    case atStart => exact ⟨0, l0, rfl, ⟨Int.le_refl _, by omega, HL.out, rfl⟩, HO, HB⟩
    case round =>
      clear HO HB HCl
      obtain ⟨x13, xs, rfl, HP, HO, HB⟩ := hrel
      obtain ⟨h0, h1, hxl, hfold⟩ := HP.out
      have HF := Aside0.mk hfold
      have HXL := Aside0.mk hxl
      clear HP hfold hxl
      by_cases hlt : x13 < (l1.length : Int)
      · obtain ⟨ad, A2, c2, e, hx0, hx1, hl2, hi2⟩ := at_T46 HR.out x13 h0 hlt
        cases e
        replace hx0 := (HB.out.cell (World.block_lt_of_cell? w _ hx0)).trans hx0
        replace hx1 := (HB.out.cell (World.block_lt_of_cell? w _ hx1)).trans hx1
        have hget : l1.drop x13.toNat = rd_T46 l1 x13 :: l1.drop (x13.toNat + 1) := by
          unfold rd_T46
          rw [List.drop_eq_getElem_cons (by omega), List.getD_eq_getElem?_getD, List.getElem?_eq_getElem (by omega)]
          rfl
        have HG := Aside0.mk hget
        clear hget
        have hlt0 : decide (x13 < (l1.length : Int)) = true := decide_eq_true hlt
        have HLT := Aside0.mk hlt
        have HNN := HN.out
        generalize rd_T46 l1 x13 = p at *
        have hrt := block_Lay.right_f p
        cases hrb : block_Lay.rightB p with
        | false =>
          rw [hrb] at hrt
          have HRT := Aside0.mk hrt
          have HRB := Aside0.mk hrb
          have HI := Aside0.mk hi2
          have HI2 := Aside0.mk hl2
          clear hrt hrb hi2 hl2
          go_wp2_with (go_at_call 32; refine (block_Right.calls _ _ _ _ false _ ?s1 HI2.out HRT.out).mono ?_; (case s1 => exact Kd.C_below HI.out (below_y HB.out)); rintro e w2 ⟨rfl, hb⟩; have HB2 := Aside0.mk (below_step (below_y HB.out) hb); have HO2 := Aside0.mk (Kd.R_below (Kd.R_y HO.out) hb); clear hb)
          go_roundw
          case rel => exact ⟨x13 + 1, xs, by first | rfl | (simp; done), ⟨by omega, by have := HLT.out; omega, HXL.out, by
              have e := HF.out
              rw [HG.out, List.foldl_cons] at e
              have e2 : block_Lay.one xs p = xs := by unfold block_Lay.one; rw [HRB.out]; rfl
              rw [e2] at e
              rw [show (x13 + 1).toNat = x13.toNat + 1 by omega]
              exact e⟩, HO2, HB2⟩
          case measure => have := HLT.out; simp [intOf]; omega
        | true =>
          rw [hrb] at hrt
          obtain ⟨q1, q2, q3, q4⟩ := block_Lay.right_b hrb
          have q5 : p.f1.length ≤ 16 := by omega
          have HRT := Aside0.mk hrt
          have HRB := Aside0.mk hrb
          have HI := Aside0.mk hi2
          have HI2 := Aside0.mk hl2
          clear hrt hrb hi2 hl2 q4
          obtain ⟨Ao, co, eo⟩ := Kd.R_slice HO.out
          subst eo
          have HXX := HXL.out
          by_cases hgr : (xs.length : Int) < p.f0 + (p.f1.length : Int)
          · have hgr0 : decide ((xs.length : Int) < p.f0 + (p.f1.length : Int)) = true := decide_eq_true hgr
            go_wp2_with (first | (go_at_call 32; refine (block_Right.calls _ _ _ _ true _ ?s1 HI2.out HRT.out).mono ?_; (case s1 => exact Kd.C_below HI.out (below_y HB.out)); rintro e w2 ⟨rfl, hb⟩; have HB2 := Aside0.mk (below_step (below_y HB.out) hb); have HO2 := Aside0.mk (Kd.R_below (Kd.R_y HO.out) hb); have bk := (hb.block wr.heap.size (by simp)).trans (heap_alloc_new _ _); have BK := Aside0.mk bk; have hc0 := (blk_cell bk 0).trans rfl; have hc1 := (blk_cell bk 1).trans rfl; clear hb bk) | ((with_reducible refine gate_builtin (b := .append) (xs := #[.tmp 30, .tmp 34]) rfl ?_); at_builtin; refine Kd.R_append_zeros (Kd.int .u8) (w0 := w) w.heap.size rfl (.tmp 30) (.tmp 34) 27 3 5 (.int .u8 0) 1 rfl Try.underlying27 Try.underlying3 info5 rfl (by decide) (by omega) _ xs (0 : Int) (p.f0 + (p.f1.length : Int) - (xs.length : Int)) (fun _ => True) rfl rfl rfl (fun _ _ => trivial) HO2.out ?g0 HB2.out HB2.out.size ?g1 ?_; (case g0 => omega); (case g1 => omega); intro v3 w3 ho3 hb3 hg3 hat3; have HO3 := Aside0.mk ho3; have HB3 := Aside0.mk hb3; have BK3 := Aside0.mk (blk_grown BK.out hg3 (Kd.R_ne HO2.out BK.out (by decide))); clear ho3 hb3 hg3 hat3))
            obtain ⟨xs3, hx3⟩ : ∃ l : List Int, l = xs ++ List.replicate (p.f0.toNat + p.f1.length - xs.length) 0 := ⟨_, rfl⟩
            have HO3' := HO3.out
            rw [show (p.f0 + (p.f1.length : Int) - (xs.length : Int)).toNat = p.f0.toNat + p.f1.length - xs.length by omega, ← hx3] at HO3'
            clear HO3
            have HO3 := Aside0.mk HO3'
            clear HO3'
            have hl3 : xs3.length = p.f0.toNat + p.f1.length := by rw [hx3, List.length_append, List.length_replicate]; omega
            have HX3 := Aside0.mk hx3
            have HL3 := Aside0.mk hl3
            have hl3a : xs3.length < 1000000 := by omega
            have hl3b : p.f0 + (p.f1.length : Int) ≤ (xs3.length : Int) := by omega
            clear hx3 hl3
            obtain ⟨Ao3, co3, eo3⟩ := Kd.R_slice HO3.out
            subst eo3
            clear hc0 hc1
            have hc0 := (blk_cell BK3.out 0).trans rfl
            have hc1 := (blk_cell BK3.out 1).trans rfl
            obtain ⟨g, rfl, hgc⟩ := R_addr HO3.out (by omega)
            obtain ⟨i0, hi0, hiz, hsz, _⟩ := info_parts info5
            have hcut : ∀ W : World, (Instr.slice 27 (.slice (some ⟨g, 0, none⟩) xs3.length co3) (some (.int .i64 p.f0)) none none).run Try.prog W = .ok (.slice (some ⟨g, p.f0.toNat, none⟩) (xs3.length - p.f0.toNat) (co3 - p.f0.toNat)) W := fun W => by
              rw [cut_from (P := Try.prog) 27 5 .i64 Try.underlying27 hi0 1 hsz (some ⟨g, 0, none⟩) xs3.length co3 p.f0 q1 (by omega) W, if_neg (by omega)]
              simp only [Option.map_some, add_plain, Nat.mul_one]
            obtain ⟨cur, hcur, hcl, hbg, hspl⟩ := R_spliced (lo := p.f0.toNat) (ys := p.f1) HO3.out (by omega)
            have HCUR := Aside0.mk hcur
            have HSP := Aside0.mk hspl
            have HBG := Aside0.mk hbg
            have HCL := Aside0.mk hcl
            clear hcur hspl hbg hi0 hiz hsz hcl
            have hmin : (p.f1.map (Value.int .u8)).length = Nat.min p.f1.length (xs3.length - p.f0.toNat) := by
              rw [List.length_map]; exact (Nat.min_eq_left (by omega)).symm
            have HMIN := Aside0.mk hmin
            clear hmin
            have hsrc : ∃ adx, A2 = some adx ∧ ∀ j v, (p.f1.map (Value.int .u8))[j]? = some v → w3.cell? (adx.add j) = some v := by
              obtain ⟨adx, e, hcx⟩ := (Kd.reads_of_C (enc := Value.int .u8) (d := (0 : Int)) (h1 := fun _ => rfl) (Kd.C_below HI.out HB3.out)).2.2 q3
              refine ⟨adx, e, fun j v hv => ?_⟩
              rw [List.getElem?_map] at hv
              obtain ⟨y, hy, rfl⟩ := Option.map_eq_some_iff.1 hv
              have hj := (List.getElem?_eq_some_iff.1 hy).1
              rw [hcx j hj, List.getD_eq_getElem?_getD, hy]
              rfl
            have HSRC := Aside0.mk hsrc
            clear hsrc
            have hsub : p.f0.toNat + p.f1.length ≤ xs3.length := by omega
            have HSUB := Aside0.mk hsub
            clear hsub
            go_region_law (refine step_copy_splice rfl (.tmp 39) (.tmp 41) 27 27 rfl 5 Try.underlying27 (by kernel_rfl) (some ⟨g, p.f0.toNat, none⟩) A2 (xs3.length - p.f0.toNat) (co3 - p.f0.toNat) p.f1.length c2 rfl rfl g p.f0.toNat cur 5 HCUR.out (p.f1.map (Value.int .u8)) HMIN.out (fun _ => ⟨rfl, HSRC.out⟩) (by rw [List.length_map]; have := HSUB.out; have := HCL.out; omega) (by intro v hv; obtain ⟨y, _, rfl⟩ := List.mem_map.1 hv; rfl) w.heap.size w (below_drew HB3.out) HBG.out ?_; intro w4 hg4 hb4; have HR4 := Aside0.mk (HSP.out w4 hg4.out); have HB4 := Aside0.mk hb4; clear hg4 hb4)
            all_goals
              go_wp2
              go_roundw
              case rel => exact ⟨x13 + 1, xs3.take p.f0.toNat ++ p.f1 ++ xs3.drop (p.f0.toNat + p.f1.length), by first | rfl | (simp; done), ⟨by omega, by have := HLT.out; omega, by simp only [List.length_append, List.length_take, List.length_drop]; have := HXL.out; have := HL3.out; have := HSUB.out; omega, by
                  have e := HF.out
                  rw [HG.out, List.foldl_cons] at e
                  rw [← e, show (x13 + 1).toNat = x13.toNat + 1 by omega]
                  congr 1
                  unfold block_Lay.one
                  rw [if_pos HRB.out, ← HX3.out]⟩, HR4, HB4⟩
              case measure => have := HLT.out; simp [intOf]; omega
          · have hgr0 : decide ((xs.length : Int) < p.f0 + (p.f1.length : Int)) = false := decide_eq_false hgr
            go_wp2_with (go_at_call 32; refine (block_Right.calls _ _ _ _ true _ ?s1 HI2.out HRT.out).mono ?_; (case s1 => exact Kd.C_below HI.out (below_y HB.out)); rintro e w2 ⟨rfl, hb⟩; have HB2 := Aside0.mk (below_step (below_y HB.out) hb); have HO2 := Aside0.mk (Kd.R_below (Kd.R_y HO.out) hb); have bk := (hb.block wr.heap.size (by simp)).trans (heap_alloc_new _ _); have BK := Aside0.mk bk; have hc0 := (blk_cell bk 0).trans rfl; have hc1 := (blk_cell bk 1).trans rfl; clear hb bk)
            obtain ⟨g, rfl, hgc⟩ := R_addr HO2.out (by omega)
            obtain ⟨i0, hi0, hiz, hsz, _⟩ := info_parts info5
            have hcut : ∀ W : World, (Instr.slice 27 (.slice (some ⟨g, 0, none⟩) xs.length co) (some (.int .i64 p.f0)) none none).run Try.prog W = .ok (.slice (some ⟨g, p.f0.toNat, none⟩) (xs.length - p.f0.toNat) (co - p.f0.toNat)) W := fun W => by
              rw [cut_from (P := Try.prog) 27 5 .i64 Try.underlying27 hi0 1 hsz (some ⟨g, 0, none⟩) xs.length co p.f0 q1 (by omega) W, if_neg (by omega)]
              simp only [Option.map_some, add_plain, Nat.mul_one]
            obtain ⟨cur, hcur, hcl, hbg, hspl⟩ := R_spliced (lo := p.f0.toNat) (ys := p.f1) HO2.out (by omega)
            have HCUR := Aside0.mk hcur
            have HSP := Aside0.mk hspl
            have HBG := Aside0.mk hbg
            have HCL := Aside0.mk hcl
            clear hcur hspl hbg hi0 hiz hsz hcl
            have hmin : (p.f1.map (Value.int .u8)).length = Nat.min p.f1.length (xs.length - p.f0.toNat) := by
              rw [List.length_map]; exact (Nat.min_eq_left (by omega)).symm
            have HMIN := Aside0.mk hmin
            clear hmin
            have hsrc : ∃ adx, A2 = some adx ∧ ∀ j v, (p.f1.map (Value.int .u8))[j]? = some v → w2.cell? (adx.add j) = some v := by
              obtain ⟨adx, e, hcx⟩ := (Kd.reads_of_C (enc := Value.int .u8) (d := (0 : Int)) (h1 := fun _ => rfl) (Kd.C_below HI.out HB2.out)).2.2 q3
              refine ⟨adx, e, fun j v hv => ?_⟩
              rw [List.getElem?_map] at hv
              obtain ⟨y, hy, rfl⟩ := Option.map_eq_some_iff.1 hv
              have hj := (List.getElem?_eq_some_iff.1 hy).1
              rw [hcx j hj, List.getD_eq_getElem?_getD, hy]
              rfl
            have HSRC := Aside0.mk hsrc
            clear hsrc
            have hsub : p.f0.toNat + p.f1.length ≤ xs.length := by omega
            have HSUB := Aside0.mk hsub
            clear hsub
            go_region_law (refine step_copy_splice rfl (.tmp 39) (.tmp 41) 27 27 rfl 5 Try.underlying27 (by kernel_rfl) (some ⟨g, p.f0.toNat, none⟩) A2 (xs.length - p.f0.toNat) (co - p.f0.toNat) p.f1.length c2 rfl rfl g p.f0.toNat cur 5 HCUR.out (p.f1.map (Value.int .u8)) HMIN.out (fun _ => ⟨rfl, HSRC.out⟩) (by rw [List.length_map]; have := HSUB.out; have := HCL.out; omega) (by intro v hv; obtain ⟨y, _, rfl⟩ := List.mem_map.1 hv; rfl) w.heap.size w (below_drew HB2.out) HBG.out ?_; intro w4 hg4 hb4; have HR4 := Aside0.mk (HSP.out w4 hg4.out); have HB4 := Aside0.mk hb4; clear hg4 hb4)
            all_goals
              go_wp2
              go_roundw
              case rel => exact ⟨x13 + 1, xs.take p.f0.toNat ++ p.f1 ++ xs.drop (p.f0.toNat + p.f1.length), by first | rfl | (simp; done), ⟨by omega, by have := HLT.out; omega, by simp only [List.length_append, List.length_take, List.length_drop]; have := HXL.out; have := HSUB.out; omega, by
                  have e := HF.out
                  rw [HG.out, List.foldl_cons] at e
                  rw [← e, show (x13 + 1).toNat = x13.toNat + 1 by omega]
                  congr 1
                  unfold block_Lay.one
                  rw [if_pos HRB.out, show p.f0.toNat + p.f1.length - xs.length = 0 by omega, List.replicate_zero, List.append_nil]⟩, HR4, HB4⟩
              case measure => have := HLT.out; simp [intOf]; omega
      · have hlt0 : decide (x13 < (l1.length : Int)) = false := decide_eq_false hlt
        have HLT := Aside0.mk hlt
        clear hlt
        go_wp2
        go_ret
        exact ⟨_, rfl, by
          have e := HF.out
          rw [List.drop_of_length_le (by have := HLT.out; omega)] at e
          rw [← e]
          exact HO.out, HB.out⟩
  · rw [if_neg hl] at h
    cases h

/-! ### api_Piece_88: function 88 -/
set_option maxHeartbeats 8000000 in
set_option maxRecDepth 100000 in
theorem api_Piece_88.calls {f : FuncId} {fn : Func} (caps : Array Value) (hf : Try.prog.funcs[f]? = some fn) (hname : (fn.name == "runtime.NumGoroutine") = false) (hb : fn.body.isSome = true) (p : S46 → Bool)
    (A0 : Option Addr) (c0 : Nat) (l0 : List S46) (w : World) (hr0 : Kd.C k46 w A0 l0.length l0) (hc0 : l0.length ≤ c0)
    (hcall : ∀ (W : World) (x : S46) (cs : List Value), x ∈ l0 → Below w.heap.size w W → k46.K W x cs → Calls Try.prog f (#[.agg cs.toArray] ++ caps) W fun e w' => e = .returned (.bool (p x)) ∧ Below W.heap.size W w') :
    Calls Try.prog 88 #[.slice A0 l0.length c0, .func (.func f) #[] caps] w fun e w' => e = .returned (.int .i64 (findI p l0)) ∧ Below w.heap.size w w' := by
  have HR := Aside0.mk hr0
  have HL := hr0.2.1
  have HF := Aside0.mk hcall
  have HX := Aside0.mk hf
  have HY := Aside0.mk hname
  have HZ := Aside0.mk hb
  have HB0 := Aside0.mk (Below.refl w.heap.size w)
  clear hr0 hcall hf hname hb
  go_enter Try.func88, Try.ntmps88
  go_wp2
  go_loopw [8] (fun v8 wr => ∃ x8 : Int, v8 = .int .i64 x8 ∧ Aside0 (0 ≤ x8 ∧ x8 ≤ (l0.length : Int) ∧ ∀ j (hj : j < l0.length), (j : Int) < x8 → p l0[j] = false) ∧ Aside0 (Below w.heap.size w wr)) (fun v8 _ => l0.length - (intOf v8).toNat)
  case atStart => exact ⟨0, rfl, ⟨Int.le_refl _, by omega, fun j _ h => by omega⟩, HB0⟩
  case round =>
    obtain ⟨x8, rfl, HP, HB⟩ := hrel
    obtain ⟨h0, h1, hp⟩ := HP.out
    have HPP := Aside0.mk hp
    clear HP hp
    by_cases hlt : x8 < (l0.length : Int)
    · obtain ⟨ad, A1, c1, e, hx0, hx1, hl1, hi1⟩ := at_T46 HR.out x8 h0 hlt
      cases e
      have HK := Aside0.mk (k46_mk w (rd_T46 l0 x8) hl1 hi1)
      clear hl1 hi1
      replace hx0 := (HB.out.cell (World.block_lt_of_cell? w _ hx0)).trans hx0
      replace hx1 := (HB.out.cell (World.block_lt_of_cell? w _ hx1)).trans hx1
      have hget : (rd_T46 l0 x8) = l0[x8.toNat]'(by omega) := by
        unfold rd_T46
        rw [List.getD_eq_getElem?_getD, List.getElem?_eq_getElem (by omega)]
        rfl
      have HG := Aside0.mk hget
      have HM := Aside0.mk (show (rd_T46 l0 x8) ∈ l0 by rw [hget]; exact List.getElem_mem _)
      clear hget
      have hlt0 : decide (x8 < (l0.length : Int)) = true := decide_eq_true hlt
      have HLT := Aside0.mk hlt
      by_cases hq : p (rd_T46 l0 x8) = true
      · have HQ := Aside0.mk hq
        clear hq
        go_wp2_with ((with_reducible refine gate_dst (N := 16) rfl ?_); (refine goesV_ (some 16) rfl rfl (.tmp 11) caps #[.agg #[.int .i64 (rd_T46 l0 x8).f0, .slice A1 (rd_T46 l0 x8).f1.length c1]] rfl rfl ?ha HX.out HY.out HZ.out ?_); (case ha => (try simp only [List.map_toArray, List.map_cons, List.map_nil]); rfl); refine (HF.out _ _ _ HM.out HB.out (Kd.K_below _ HB.out HK.out)).mono ?_; rintro e w' ⟨rfl, hb'⟩; refine ⟨_, rfl, ?_⟩; rw [HQ.out]; have HB' := Aside0.mk (below_step HB.out hb'); clear hb')
        go_ret
        exact ⟨by rw [findI_at (i := x8.toNat) (by have := HLT.out; omega) (fun j hj hlt2 => HPP.out j hj (by omega)) (by rw [← HG.out]; exact HQ.out), Int.toNat_of_nonneg h0]; rfl, HB'.out⟩
      · have hq' : p (rd_T46 l0 x8) = false := by simpa using hq
        have HQ := Aside0.mk hq'
        clear hq hq'
        go_wp2_with ((with_reducible refine gate_dst (N := 16) rfl ?_); (refine goesV_ (some 16) rfl rfl (.tmp 11) caps #[.agg #[.int .i64 (rd_T46 l0 x8).f0, .slice A1 (rd_T46 l0 x8).f1.length c1]] rfl rfl ?ha HX.out HY.out HZ.out ?_); (case ha => (try simp only [List.map_toArray, List.map_cons, List.map_nil]); rfl); refine (HF.out _ _ _ HM.out HB.out (Kd.K_below _ HB.out HK.out)).mono ?_; rintro e w' ⟨rfl, hb'⟩; refine ⟨_, rfl, ?_⟩; rw [HQ.out]; have HB' := Aside0.mk (below_step HB.out hb'); clear hb')
        go_roundw
        case rel => exact ⟨x8 + 1, by first | rfl | (simp; done), ⟨by omega, by have := HLT.out; omega, fun j hj hlt2 => by
            rcases Int.lt_or_eq_of_le (Int.lt_add_one_iff.1 hlt2) with h | h
            · exact HPP.out j hj h
            · have e : x8.toNat = j := by omega
              subst e
              rw [← HG.out]
              exact HQ.out⟩, HB'⟩
        case measure => have := HLT.out; simp [intOf]; omega
    · have hlt0 : decide (x8 < (l0.length : Int)) = false := decide_eq_false hlt
      have HLT := Aside0.mk hlt
      clear hlt
      go_wp2
      go_ret
      exact ⟨by rw [findI_none (fun j hj => HPP.out j hj (by have := HLT.out; omega))]; rfl, HB.out⟩

end Go.Proofs.Ytkkikdjfigffhaa.XFic
