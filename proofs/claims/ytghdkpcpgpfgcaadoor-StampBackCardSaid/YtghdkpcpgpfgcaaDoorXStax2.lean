-- By a program of this work (xprint.py) over the translation; Lean checks it.
import Derived.Test.YtghdkpcpgpfgcaaDoorXStax0
import Derived.Test.YtghdkpcpgpfgcaaDoorXStax1
namespace Go.Proofs.YtghdkpcpgpfgcaaDoor.XSta
open Go.RowKit Go.Proofs.YtghdkpcpgpfgcaaDoorW.PrintWords Go.Proofs.YtghdkpcpgpfgcaaDoorW.PrintLast Go.Proofs.YtghdkpcpgpfgcaaDoorW.PrintMore
attribute [local go_sem] max2_int min2_int max_two min_two max_three min_three max_four min_four   -- for this text's walks alone
set_option linter.unusedVariables false
set_option linter.unusedSimpArgs false

/-! ### stamp_Days: function 10 -/
def stamp_Days.leap (y : Int) : Bool := (y.tmod 4 == 0) && ((y.tmod 100 != 0) || (y.tmod 400 == 0))
def stamp_Days.tab : List Int := [31, 28, 31, 30, 31, 30, 31, 31, 30, 31, 30, 31]
def stamp_Days.days (a0 a1 : Int) : Int := if a0 < 1970 ∨ a0 > 2199 ∨ a1 < 1 ∨ a1 > 12 then 0 else if a1 = 2 ∧ stamp_Days.leap a0 = true then 29 else stamp_Days.tab.getD (a1 - 1).toNat 0
def stamp_Days.f (a0 : Int) (a1 : Int) : Option Int := some (stamp_Days.days a0 a1)
theorem stamp_Days.leap_f (a0 : Int) : stamp_leap.f a0 = some (stamp_Days.leap a0) := by
  unfold stamp_leap.f stamp_Days.leap
  by_cases h1 : Int.tmod a0 4 = 0
  · rw [if_pos h1, beq_iff_eq.mpr h1, Bool.true_and]
    by_cases h2 : Int.tmod a0 100 = 0
    · rw [if_pos h2, bne_eq_false_iff_eq.mpr h2, Bool.false_or]
    · rw [if_neg h2, bne_iff_ne.mpr h2, Bool.true_or]
  · rw [if_neg h1, beq_eq_false_iff_ne.mpr h1, Bool.false_and]
set_option maxHeartbeats 1000000 in
set_option maxRecDepth 100000 in
theorem stamp_Days.calls (a0 : Int) (a1 : Int) (r : Int) (w : World) (h : stamp_Days.f a0 a1 = some r) :
    Calls Tryd.prog 10 #[.int .i64 a0, .int .i64 a1] w fun e w' => e = .returned (.int .i64 r) ∧ Below w.heap.size w w' := by
  obtain rfl := Option.some.inj h
  clear h
  have HB := Aside0.mk (Below.refl w.heap.size w)
  have HL := Aside0.mk (stamp_Days.leap_f a0)
  by_cases c1 : a0 < 1970
  · rw [show stamp_Days.days a0 a1 = 0 from if_pos (Or.inl c1)]
    have c1b := decide_eq_true c1
    focus
      go_enter Tryd.func10, Tryd.ntmps10
      go_wp2
      go_ret
      exact ⟨by first | rfl | (simp; done) | (simp [*]; done), by repeat (first | (with_reducible first | exact HB.out | apply below_alloc | apply pw_below_drewN | apply below_drew1) | exact HB.out)⟩
  have c1b : decide (a0 < 1970) = false := decide_eq_false c1
  by_cases c2 : a0 > 2199
  · rw [show stamp_Days.days a0 a1 = 0 from if_pos (Or.inr (Or.inl c2))]
    have c2b : decide (2199 < a0) = true := decide_eq_true c2
    focus
      go_enter Tryd.func10, Tryd.ntmps10
      go_wp2
      go_ret
      exact ⟨by first | rfl | (simp; done) | (simp [*]; done), by repeat (first | (with_reducible first | exact HB.out | apply below_alloc | apply pw_below_drewN | apply below_drew1) | exact HB.out)⟩
  have c2b : decide (2199 < a0) = false := decide_eq_false c2
  by_cases c3 : a1 < 1
  · rw [show stamp_Days.days a0 a1 = 0 from if_pos (Or.inr (Or.inr (Or.inl c3)))]
    have c3b : decide (a1 < 1) = true := decide_eq_true c3
    focus
      go_enter Tryd.func10, Tryd.ntmps10
      go_wp2
      go_ret
      exact ⟨by first | rfl | (simp; done) | (simp [*]; done), by repeat (first | (with_reducible first | exact HB.out | apply below_alloc | apply pw_below_drewN | apply below_drew1) | exact HB.out)⟩
  by_cases c4 : a1 > 12
  · rw [show stamp_Days.days a0 a1 = 0 from if_pos (Or.inr (Or.inr (Or.inr c4)))]
    have c3b : decide (a1 < 1) = false := decide_eq_false c3
    have c4b : decide (12 < a1) = true := decide_eq_true c4
    focus
      go_enter Tryd.func10, Tryd.ntmps10
      go_wp2
      go_ret
      exact ⟨by first | rfl | (simp; done) | (simp [*]; done), by repeat (first | (with_reducible first | exact HB.out | apply below_alloc | apply pw_below_drewN | apply below_drew1) | exact HB.out)⟩
  by_cases e : a1 = 2
  · subst e
    by_cases hl : stamp_Days.leap a0 = true
    · have hv : stamp_Days.days a0 2 = 29 := by
        unfold stamp_Days.days
        rw [if_neg (by omega), if_pos (show (2 : Int) = 2 ∧ stamp_Days.leap a0 = true from ⟨rfl, hl⟩)]
      rw [hv]
      rw [hl] at HL
      clear hl hv
      focus
        go_enter Tryd.func10, Tryd.ntmps10
        go_wp2_with (first | ((with_reducible refine gate_dst (N := 5) rfl ?_); refine box_event ?hg (N := 5) ?hd (cs := #[.int .i64 0, .int .i64 0, .int .i64 0, .int .i64 0, .int .i64 0, .int .i64 0, .int .i64 0, .int .i64 0, .int .i64 0, .int .i64 0, .int .i64 0, .int .i64 0]) (t := 61) ?hr ?_; (case hd => rfl); (case hg => rfl); (case hr => first | (go_simp; done) | (go_simp; rfl)); intro gb hg w1 hbox hb; have n0_ := Aside0.mk (below_step (below_y HB.out) hb); have n1_ := Aside0.mk (hbox); have n2_ := Aside0.mk ((by rw [hg]; exact (below_size (below_y HB.out)) : w.heap.size ≤ gb)); clear HB; have HB := n0_; have BK := n1_; have GE := n2_; clear n0_ n1_ n2_; clear hb hbox hg) | ((with_reducible refine gate_store (t := 61) (p := 5) rfl ?_); refine store_whole2 (t := 61) (g := gb) ?hg ?hn (cells := #[.int .i64 31, .int .i64 28, .int .i64 31, .int .i64 30, .int .i64 31, .int .i64 30, .int .i64 31, .int .i64 31, .int .i64 30, .int .i64 31, .int .i64 30, .int .i64 31]) ?ho (blk_y BK.out) (by kernel_rfl) rfl ?h1 ?_; (case hg => rfl); (case hn => rfl); (case ho => refine ⟨_, _, rfl, ?_, ?_⟩; all_goals (first | (with_reducible rfl) | (go_simp; done) | rfl | (go_simp; rfl))); (case h1 => first | rfl | simp [Value.oneCell']); intro w2 hw; have n0_ := Aside0.mk ((by rw [hw]; exact setRow_heap _ _ _ _ _ _ (blk_y BK.out) : w2.heap[gb]? = some (.cells #[.int .i64 31, .int .i64 28, .int .i64 31, .int .i64 30, .int .i64 31, .int .i64 30, .int .i64 31, .int .i64 31, .int .i64 30, .int .i64 31, .int .i64 30, .int .i64 31] 61 (0, 0)))); have n1_ := Aside0.mk ((by rw [hw]; exact below_setRow (below_y HB.out) GE.out _ : Below w.heap.size w w2)); clear BK; clear HB; have BK := n0_; have HB := n1_; clear n0_ n1_; clear hw; have hcz_0 := bc BK.out 0 (.int .i64 31) rfl; have hcz_1 := bc BK.out 1 (.int .i64 28) rfl; have hcz_2 := bc BK.out 2 (.int .i64 31) rfl; have hcz_3 := bc BK.out 3 (.int .i64 30) rfl; have hcz_4 := bc BK.out 4 (.int .i64 31) rfl; have hcz_5 := bc BK.out 5 (.int .i64 30) rfl; have hcz_6 := bc BK.out 6 (.int .i64 31) rfl; have hcz_7 := bc BK.out 7 (.int .i64 31) rfl; have hcz_8 := bc BK.out 8 (.int .i64 30) rfl; have hcz_9 := bc BK.out 9 (.int .i64 31) rfl; have hcz_10 := bc BK.out 10 (.int .i64 30) rfl; have hcz_11 := bc BK.out 11 (.int .i64 31) rfl) | (go_at_call 28; (with_reducible refine (stamp_leap.calls a0 _ _ HL.out).mono ?_); rintro e w3 ⟨rfl, hd⟩; have hb := Drawn0.below hd; have n0_ := Aside0.mk (blk_below (blk_y BK.out) hb); have n1_ := Aside0.mk (below_step (below_y HB.out) hb); clear BK; clear HB; have BK := n0_; have HB := n1_; clear n0_ n1_; (try clear hb); (try clear hd); (try clear hcz_0); have hcz_0 := bc BK.out 0 (.int .i64 31) rfl; (try clear hcz_1); have hcz_1 := bc BK.out 1 (.int .i64 28) rfl; (try clear hcz_2); have hcz_2 := bc BK.out 2 (.int .i64 31) rfl; (try clear hcz_3); have hcz_3 := bc BK.out 3 (.int .i64 30) rfl; (try clear hcz_4); have hcz_4 := bc BK.out 4 (.int .i64 31) rfl; (try clear hcz_5); have hcz_5 := bc BK.out 5 (.int .i64 30) rfl; (try clear hcz_6); have hcz_6 := bc BK.out 6 (.int .i64 31) rfl; (try clear hcz_7); have hcz_7 := bc BK.out 7 (.int .i64 31) rfl; (try clear hcz_8); have hcz_8 := bc BK.out 8 (.int .i64 30) rfl; (try clear hcz_9); have hcz_9 := bc BK.out 9 (.int .i64 31) rfl; (try clear hcz_10); have hcz_10 := bc BK.out 10 (.int .i64 30) rfl; (try clear hcz_11); have hcz_11 := bc BK.out 11 (.int .i64 31) rfl))
        go_ret
        exact ⟨by first | rfl | (simp; done) | (simp [*]; done), by repeat (first | (with_reducible first | exact HB.out | apply below_alloc | apply pw_below_drewN | apply below_drew1) | exact HB.out)⟩
    · have hv : stamp_Days.days a0 2 = 28 := by
        unfold stamp_Days.days
        rw [if_neg (by omega), if_neg (show ¬((2 : Int) = 2 ∧ stamp_Days.leap a0 = true) from fun h => hl h.2)]
        rfl
      rw [hv]
      rw [Bool.eq_false_iff.mpr hl] at HL
      clear hl hv
      focus
        go_enter Tryd.func10, Tryd.ntmps10
        go_wp2_with (first | ((with_reducible refine gate_dst (N := 5) rfl ?_); refine box_event ?hg (N := 5) ?hd (cs := #[.int .i64 0, .int .i64 0, .int .i64 0, .int .i64 0, .int .i64 0, .int .i64 0, .int .i64 0, .int .i64 0, .int .i64 0, .int .i64 0, .int .i64 0, .int .i64 0]) (t := 61) ?hr ?_; (case hd => rfl); (case hg => rfl); (case hr => first | (go_simp; done) | (go_simp; rfl)); intro gb hg w1 hbox hb; have n0_ := Aside0.mk (below_step (below_y HB.out) hb); have n1_ := Aside0.mk (hbox); have n2_ := Aside0.mk ((by rw [hg]; exact (below_size (below_y HB.out)) : w.heap.size ≤ gb)); clear HB; have HB := n0_; have BK := n1_; have GE := n2_; clear n0_ n1_ n2_; clear hb hbox hg) | ((with_reducible refine gate_store (t := 61) (p := 5) rfl ?_); refine store_whole2 (t := 61) (g := gb) ?hg ?hn (cells := #[.int .i64 31, .int .i64 28, .int .i64 31, .int .i64 30, .int .i64 31, .int .i64 30, .int .i64 31, .int .i64 31, .int .i64 30, .int .i64 31, .int .i64 30, .int .i64 31]) ?ho (blk_y BK.out) (by kernel_rfl) rfl ?h1 ?_; (case hg => rfl); (case hn => rfl); (case ho => refine ⟨_, _, rfl, ?_, ?_⟩; all_goals (first | (with_reducible rfl) | (go_simp; done) | rfl | (go_simp; rfl))); (case h1 => first | rfl | simp [Value.oneCell']); intro w2 hw; have n0_ := Aside0.mk ((by rw [hw]; exact setRow_heap _ _ _ _ _ _ (blk_y BK.out) : w2.heap[gb]? = some (.cells #[.int .i64 31, .int .i64 28, .int .i64 31, .int .i64 30, .int .i64 31, .int .i64 30, .int .i64 31, .int .i64 31, .int .i64 30, .int .i64 31, .int .i64 30, .int .i64 31] 61 (0, 0)))); have n1_ := Aside0.mk ((by rw [hw]; exact below_setRow (below_y HB.out) GE.out _ : Below w.heap.size w w2)); clear BK; clear HB; have BK := n0_; have HB := n1_; clear n0_ n1_; clear hw; have hcz_0 := bc BK.out 0 (.int .i64 31) rfl; have hcz_1 := bc BK.out 1 (.int .i64 28) rfl; have hcz_2 := bc BK.out 2 (.int .i64 31) rfl; have hcz_3 := bc BK.out 3 (.int .i64 30) rfl; have hcz_4 := bc BK.out 4 (.int .i64 31) rfl; have hcz_5 := bc BK.out 5 (.int .i64 30) rfl; have hcz_6 := bc BK.out 6 (.int .i64 31) rfl; have hcz_7 := bc BK.out 7 (.int .i64 31) rfl; have hcz_8 := bc BK.out 8 (.int .i64 30) rfl; have hcz_9 := bc BK.out 9 (.int .i64 31) rfl; have hcz_10 := bc BK.out 10 (.int .i64 30) rfl; have hcz_11 := bc BK.out 11 (.int .i64 31) rfl) | (go_at_call 28; (with_reducible refine (stamp_leap.calls a0 _ _ HL.out).mono ?_); rintro e w3 ⟨rfl, hd⟩; have hb := Drawn0.below hd; have n0_ := Aside0.mk (blk_below (blk_y BK.out) hb); have n1_ := Aside0.mk (below_step (below_y HB.out) hb); clear BK; clear HB; have BK := n0_; have HB := n1_; clear n0_ n1_; (try clear hb); (try clear hd); (try clear hcz_0); have hcz_0 := bc BK.out 0 (.int .i64 31) rfl; (try clear hcz_1); have hcz_1 := bc BK.out 1 (.int .i64 28) rfl; (try clear hcz_2); have hcz_2 := bc BK.out 2 (.int .i64 31) rfl; (try clear hcz_3); have hcz_3 := bc BK.out 3 (.int .i64 30) rfl; (try clear hcz_4); have hcz_4 := bc BK.out 4 (.int .i64 31) rfl; (try clear hcz_5); have hcz_5 := bc BK.out 5 (.int .i64 30) rfl; (try clear hcz_6); have hcz_6 := bc BK.out 6 (.int .i64 31) rfl; (try clear hcz_7); have hcz_7 := bc BK.out 7 (.int .i64 31) rfl; (try clear hcz_8); have hcz_8 := bc BK.out 8 (.int .i64 30) rfl; (try clear hcz_9); have hcz_9 := bc BK.out 9 (.int .i64 31) rfl; (try clear hcz_10); have hcz_10 := bc BK.out 10 (.int .i64 30) rfl; (try clear hcz_11); have hcz_11 := bc BK.out 11 (.int .i64 31) rfl))
        go_ret
        exact ⟨by first | rfl | (simp; done) | (simp [*]; done), by repeat (first | (with_reducible first | exact HB.out | apply below_alloc | apply pw_below_drewN | apply below_drew1) | exact HB.out)⟩
  by_cases e : a1 = 1
  · subst e
    have hv : stamp_Days.days a0 1 = 31 := by
      unfold stamp_Days.days
      rw [if_neg (by omega), if_neg (show ¬((1 : Int) = 2 ∧ stamp_Days.leap a0 = true) from fun h => absurd h.1 (by decide))]
      rfl
    rw [hv]
    clear hv
    focus
      go_enter Tryd.func10, Tryd.ntmps10
      go_wp2_with (first | ((with_reducible refine gate_dst (N := 5) rfl ?_); refine box_event ?hg (N := 5) ?hd (cs := #[.int .i64 0, .int .i64 0, .int .i64 0, .int .i64 0, .int .i64 0, .int .i64 0, .int .i64 0, .int .i64 0, .int .i64 0, .int .i64 0, .int .i64 0, .int .i64 0]) (t := 61) ?hr ?_; (case hd => rfl); (case hg => rfl); (case hr => first | (go_simp; done) | (go_simp; rfl)); intro gb hg w1 hbox hb; have n0_ := Aside0.mk (below_step (below_y HB.out) hb); have n1_ := Aside0.mk (hbox); have n2_ := Aside0.mk ((by rw [hg]; exact (below_size (below_y HB.out)) : w.heap.size ≤ gb)); clear HB; have HB := n0_; have BK := n1_; have GE := n2_; clear n0_ n1_ n2_; clear hb hbox hg) | ((with_reducible refine gate_store (t := 61) (p := 5) rfl ?_); refine store_whole2 (t := 61) (g := gb) ?hg ?hn (cells := #[.int .i64 31, .int .i64 28, .int .i64 31, .int .i64 30, .int .i64 31, .int .i64 30, .int .i64 31, .int .i64 31, .int .i64 30, .int .i64 31, .int .i64 30, .int .i64 31]) ?ho (blk_y BK.out) (by kernel_rfl) rfl ?h1 ?_; (case hg => rfl); (case hn => rfl); (case ho => refine ⟨_, _, rfl, ?_, ?_⟩; all_goals (first | (with_reducible rfl) | (go_simp; done) | rfl | (go_simp; rfl))); (case h1 => first | rfl | simp [Value.oneCell']); intro w2 hw; have n0_ := Aside0.mk ((by rw [hw]; exact setRow_heap _ _ _ _ _ _ (blk_y BK.out) : w2.heap[gb]? = some (.cells #[.int .i64 31, .int .i64 28, .int .i64 31, .int .i64 30, .int .i64 31, .int .i64 30, .int .i64 31, .int .i64 31, .int .i64 30, .int .i64 31, .int .i64 30, .int .i64 31] 61 (0, 0)))); have n1_ := Aside0.mk ((by rw [hw]; exact below_setRow (below_y HB.out) GE.out _ : Below w.heap.size w w2)); clear BK; clear HB; have BK := n0_; have HB := n1_; clear n0_ n1_; clear hw; have hcz_0 := bc BK.out 0 (.int .i64 31) rfl; have hcz_1 := bc BK.out 1 (.int .i64 28) rfl; have hcz_2 := bc BK.out 2 (.int .i64 31) rfl; have hcz_3 := bc BK.out 3 (.int .i64 30) rfl; have hcz_4 := bc BK.out 4 (.int .i64 31) rfl; have hcz_5 := bc BK.out 5 (.int .i64 30) rfl; have hcz_6 := bc BK.out 6 (.int .i64 31) rfl; have hcz_7 := bc BK.out 7 (.int .i64 31) rfl; have hcz_8 := bc BK.out 8 (.int .i64 30) rfl; have hcz_9 := bc BK.out 9 (.int .i64 31) rfl; have hcz_10 := bc BK.out 10 (.int .i64 30) rfl; have hcz_11 := bc BK.out 11 (.int .i64 31) rfl))
      go_ret
      exact ⟨by first | rfl | (simp; done) | (simp [*]; done), by repeat (first | (with_reducible first | exact HB.out | apply below_alloc | apply pw_below_drewN | apply below_drew1) | exact HB.out)⟩
  by_cases e : a1 = 3
  · subst e
    have hv : stamp_Days.days a0 3 = 31 := by
      unfold stamp_Days.days
      rw [if_neg (by omega), if_neg (show ¬((3 : Int) = 2 ∧ stamp_Days.leap a0 = true) from fun h => absurd h.1 (by decide))]
      rfl
    rw [hv]
    clear hv
    focus
      go_enter Tryd.func10, Tryd.ntmps10
      go_wp2_with (first | ((with_reducible refine gate_dst (N := 5) rfl ?_); refine box_event ?hg (N := 5) ?hd (cs := #[.int .i64 0, .int .i64 0, .int .i64 0, .int .i64 0, .int .i64 0, .int .i64 0, .int .i64 0, .int .i64 0, .int .i64 0, .int .i64 0, .int .i64 0, .int .i64 0]) (t := 61) ?hr ?_; (case hd => rfl); (case hg => rfl); (case hr => first | (go_simp; done) | (go_simp; rfl)); intro gb hg w1 hbox hb; have n0_ := Aside0.mk (below_step (below_y HB.out) hb); have n1_ := Aside0.mk (hbox); have n2_ := Aside0.mk ((by rw [hg]; exact (below_size (below_y HB.out)) : w.heap.size ≤ gb)); clear HB; have HB := n0_; have BK := n1_; have GE := n2_; clear n0_ n1_ n2_; clear hb hbox hg) | ((with_reducible refine gate_store (t := 61) (p := 5) rfl ?_); refine store_whole2 (t := 61) (g := gb) ?hg ?hn (cells := #[.int .i64 31, .int .i64 28, .int .i64 31, .int .i64 30, .int .i64 31, .int .i64 30, .int .i64 31, .int .i64 31, .int .i64 30, .int .i64 31, .int .i64 30, .int .i64 31]) ?ho (blk_y BK.out) (by kernel_rfl) rfl ?h1 ?_; (case hg => rfl); (case hn => rfl); (case ho => refine ⟨_, _, rfl, ?_, ?_⟩; all_goals (first | (with_reducible rfl) | (go_simp; done) | rfl | (go_simp; rfl))); (case h1 => first | rfl | simp [Value.oneCell']); intro w2 hw; have n0_ := Aside0.mk ((by rw [hw]; exact setRow_heap _ _ _ _ _ _ (blk_y BK.out) : w2.heap[gb]? = some (.cells #[.int .i64 31, .int .i64 28, .int .i64 31, .int .i64 30, .int .i64 31, .int .i64 30, .int .i64 31, .int .i64 31, .int .i64 30, .int .i64 31, .int .i64 30, .int .i64 31] 61 (0, 0)))); have n1_ := Aside0.mk ((by rw [hw]; exact below_setRow (below_y HB.out) GE.out _ : Below w.heap.size w w2)); clear BK; clear HB; have BK := n0_; have HB := n1_; clear n0_ n1_; clear hw; have hcz_0 := bc BK.out 0 (.int .i64 31) rfl; have hcz_1 := bc BK.out 1 (.int .i64 28) rfl; have hcz_2 := bc BK.out 2 (.int .i64 31) rfl; have hcz_3 := bc BK.out 3 (.int .i64 30) rfl; have hcz_4 := bc BK.out 4 (.int .i64 31) rfl; have hcz_5 := bc BK.out 5 (.int .i64 30) rfl; have hcz_6 := bc BK.out 6 (.int .i64 31) rfl; have hcz_7 := bc BK.out 7 (.int .i64 31) rfl; have hcz_8 := bc BK.out 8 (.int .i64 30) rfl; have hcz_9 := bc BK.out 9 (.int .i64 31) rfl; have hcz_10 := bc BK.out 10 (.int .i64 30) rfl; have hcz_11 := bc BK.out 11 (.int .i64 31) rfl))
      go_ret
      exact ⟨by first | rfl | (simp; done) | (simp [*]; done), by repeat (first | (with_reducible first | exact HB.out | apply below_alloc | apply pw_below_drewN | apply below_drew1) | exact HB.out)⟩
  by_cases e : a1 = 4
  · subst e
    have hv : stamp_Days.days a0 4 = 30 := by
      unfold stamp_Days.days
      rw [if_neg (by omega), if_neg (show ¬((4 : Int) = 2 ∧ stamp_Days.leap a0 = true) from fun h => absurd h.1 (by decide))]
      rfl
    rw [hv]
    clear hv
    focus
      go_enter Tryd.func10, Tryd.ntmps10
      go_wp2_with (first | ((with_reducible refine gate_dst (N := 5) rfl ?_); refine box_event ?hg (N := 5) ?hd (cs := #[.int .i64 0, .int .i64 0, .int .i64 0, .int .i64 0, .int .i64 0, .int .i64 0, .int .i64 0, .int .i64 0, .int .i64 0, .int .i64 0, .int .i64 0, .int .i64 0]) (t := 61) ?hr ?_; (case hd => rfl); (case hg => rfl); (case hr => first | (go_simp; done) | (go_simp; rfl)); intro gb hg w1 hbox hb; have n0_ := Aside0.mk (below_step (below_y HB.out) hb); have n1_ := Aside0.mk (hbox); have n2_ := Aside0.mk ((by rw [hg]; exact (below_size (below_y HB.out)) : w.heap.size ≤ gb)); clear HB; have HB := n0_; have BK := n1_; have GE := n2_; clear n0_ n1_ n2_; clear hb hbox hg) | ((with_reducible refine gate_store (t := 61) (p := 5) rfl ?_); refine store_whole2 (t := 61) (g := gb) ?hg ?hn (cells := #[.int .i64 31, .int .i64 28, .int .i64 31, .int .i64 30, .int .i64 31, .int .i64 30, .int .i64 31, .int .i64 31, .int .i64 30, .int .i64 31, .int .i64 30, .int .i64 31]) ?ho (blk_y BK.out) (by kernel_rfl) rfl ?h1 ?_; (case hg => rfl); (case hn => rfl); (case ho => refine ⟨_, _, rfl, ?_, ?_⟩; all_goals (first | (with_reducible rfl) | (go_simp; done) | rfl | (go_simp; rfl))); (case h1 => first | rfl | simp [Value.oneCell']); intro w2 hw; have n0_ := Aside0.mk ((by rw [hw]; exact setRow_heap _ _ _ _ _ _ (blk_y BK.out) : w2.heap[gb]? = some (.cells #[.int .i64 31, .int .i64 28, .int .i64 31, .int .i64 30, .int .i64 31, .int .i64 30, .int .i64 31, .int .i64 31, .int .i64 30, .int .i64 31, .int .i64 30, .int .i64 31] 61 (0, 0)))); have n1_ := Aside0.mk ((by rw [hw]; exact below_setRow (below_y HB.out) GE.out _ : Below w.heap.size w w2)); clear BK; clear HB; have BK := n0_; have HB := n1_; clear n0_ n1_; clear hw; have hcz_0 := bc BK.out 0 (.int .i64 31) rfl; have hcz_1 := bc BK.out 1 (.int .i64 28) rfl; have hcz_2 := bc BK.out 2 (.int .i64 31) rfl; have hcz_3 := bc BK.out 3 (.int .i64 30) rfl; have hcz_4 := bc BK.out 4 (.int .i64 31) rfl; have hcz_5 := bc BK.out 5 (.int .i64 30) rfl; have hcz_6 := bc BK.out 6 (.int .i64 31) rfl; have hcz_7 := bc BK.out 7 (.int .i64 31) rfl; have hcz_8 := bc BK.out 8 (.int .i64 30) rfl; have hcz_9 := bc BK.out 9 (.int .i64 31) rfl; have hcz_10 := bc BK.out 10 (.int .i64 30) rfl; have hcz_11 := bc BK.out 11 (.int .i64 31) rfl))
      go_ret
      exact ⟨by first | rfl | (simp; done) | (simp [*]; done), by repeat (first | (with_reducible first | exact HB.out | apply below_alloc | apply pw_below_drewN | apply below_drew1) | exact HB.out)⟩
  by_cases e : a1 = 5
  · subst e
    have hv : stamp_Days.days a0 5 = 31 := by
      unfold stamp_Days.days
      rw [if_neg (by omega), if_neg (show ¬((5 : Int) = 2 ∧ stamp_Days.leap a0 = true) from fun h => absurd h.1 (by decide))]
      rfl
    rw [hv]
    clear hv
    focus
      go_enter Tryd.func10, Tryd.ntmps10
      go_wp2_with (first | ((with_reducible refine gate_dst (N := 5) rfl ?_); refine box_event ?hg (N := 5) ?hd (cs := #[.int .i64 0, .int .i64 0, .int .i64 0, .int .i64 0, .int .i64 0, .int .i64 0, .int .i64 0, .int .i64 0, .int .i64 0, .int .i64 0, .int .i64 0, .int .i64 0]) (t := 61) ?hr ?_; (case hd => rfl); (case hg => rfl); (case hr => first | (go_simp; done) | (go_simp; rfl)); intro gb hg w1 hbox hb; have n0_ := Aside0.mk (below_step (below_y HB.out) hb); have n1_ := Aside0.mk (hbox); have n2_ := Aside0.mk ((by rw [hg]; exact (below_size (below_y HB.out)) : w.heap.size ≤ gb)); clear HB; have HB := n0_; have BK := n1_; have GE := n2_; clear n0_ n1_ n2_; clear hb hbox hg) | ((with_reducible refine gate_store (t := 61) (p := 5) rfl ?_); refine store_whole2 (t := 61) (g := gb) ?hg ?hn (cells := #[.int .i64 31, .int .i64 28, .int .i64 31, .int .i64 30, .int .i64 31, .int .i64 30, .int .i64 31, .int .i64 31, .int .i64 30, .int .i64 31, .int .i64 30, .int .i64 31]) ?ho (blk_y BK.out) (by kernel_rfl) rfl ?h1 ?_; (case hg => rfl); (case hn => rfl); (case ho => refine ⟨_, _, rfl, ?_, ?_⟩; all_goals (first | (with_reducible rfl) | (go_simp; done) | rfl | (go_simp; rfl))); (case h1 => first | rfl | simp [Value.oneCell']); intro w2 hw; have n0_ := Aside0.mk ((by rw [hw]; exact setRow_heap _ _ _ _ _ _ (blk_y BK.out) : w2.heap[gb]? = some (.cells #[.int .i64 31, .int .i64 28, .int .i64 31, .int .i64 30, .int .i64 31, .int .i64 30, .int .i64 31, .int .i64 31, .int .i64 30, .int .i64 31, .int .i64 30, .int .i64 31] 61 (0, 0)))); have n1_ := Aside0.mk ((by rw [hw]; exact below_setRow (below_y HB.out) GE.out _ : Below w.heap.size w w2)); clear BK; clear HB; have BK := n0_; have HB := n1_; clear n0_ n1_; clear hw; have hcz_0 := bc BK.out 0 (.int .i64 31) rfl; have hcz_1 := bc BK.out 1 (.int .i64 28) rfl; have hcz_2 := bc BK.out 2 (.int .i64 31) rfl; have hcz_3 := bc BK.out 3 (.int .i64 30) rfl; have hcz_4 := bc BK.out 4 (.int .i64 31) rfl; have hcz_5 := bc BK.out 5 (.int .i64 30) rfl; have hcz_6 := bc BK.out 6 (.int .i64 31) rfl; have hcz_7 := bc BK.out 7 (.int .i64 31) rfl; have hcz_8 := bc BK.out 8 (.int .i64 30) rfl; have hcz_9 := bc BK.out 9 (.int .i64 31) rfl; have hcz_10 := bc BK.out 10 (.int .i64 30) rfl; have hcz_11 := bc BK.out 11 (.int .i64 31) rfl))
      go_ret
      exact ⟨by first | rfl | (simp; done) | (simp [*]; done), by repeat (first | (with_reducible first | exact HB.out | apply below_alloc | apply pw_below_drewN | apply below_drew1) | exact HB.out)⟩
  by_cases e : a1 = 6
  · subst e
    have hv : stamp_Days.days a0 6 = 30 := by
      unfold stamp_Days.days
      rw [if_neg (by omega), if_neg (show ¬((6 : Int) = 2 ∧ stamp_Days.leap a0 = true) from fun h => absurd h.1 (by decide))]
      rfl
    rw [hv]
    clear hv
    focus
      go_enter Tryd.func10, Tryd.ntmps10
      go_wp2_with (first | ((with_reducible refine gate_dst (N := 5) rfl ?_); refine box_event ?hg (N := 5) ?hd (cs := #[.int .i64 0, .int .i64 0, .int .i64 0, .int .i64 0, .int .i64 0, .int .i64 0, .int .i64 0, .int .i64 0, .int .i64 0, .int .i64 0, .int .i64 0, .int .i64 0]) (t := 61) ?hr ?_; (case hd => rfl); (case hg => rfl); (case hr => first | (go_simp; done) | (go_simp; rfl)); intro gb hg w1 hbox hb; have n0_ := Aside0.mk (below_step (below_y HB.out) hb); have n1_ := Aside0.mk (hbox); have n2_ := Aside0.mk ((by rw [hg]; exact (below_size (below_y HB.out)) : w.heap.size ≤ gb)); clear HB; have HB := n0_; have BK := n1_; have GE := n2_; clear n0_ n1_ n2_; clear hb hbox hg) | ((with_reducible refine gate_store (t := 61) (p := 5) rfl ?_); refine store_whole2 (t := 61) (g := gb) ?hg ?hn (cells := #[.int .i64 31, .int .i64 28, .int .i64 31, .int .i64 30, .int .i64 31, .int .i64 30, .int .i64 31, .int .i64 31, .int .i64 30, .int .i64 31, .int .i64 30, .int .i64 31]) ?ho (blk_y BK.out) (by kernel_rfl) rfl ?h1 ?_; (case hg => rfl); (case hn => rfl); (case ho => refine ⟨_, _, rfl, ?_, ?_⟩; all_goals (first | (with_reducible rfl) | (go_simp; done) | rfl | (go_simp; rfl))); (case h1 => first | rfl | simp [Value.oneCell']); intro w2 hw; have n0_ := Aside0.mk ((by rw [hw]; exact setRow_heap _ _ _ _ _ _ (blk_y BK.out) : w2.heap[gb]? = some (.cells #[.int .i64 31, .int .i64 28, .int .i64 31, .int .i64 30, .int .i64 31, .int .i64 30, .int .i64 31, .int .i64 31, .int .i64 30, .int .i64 31, .int .i64 30, .int .i64 31] 61 (0, 0)))); have n1_ := Aside0.mk ((by rw [hw]; exact below_setRow (below_y HB.out) GE.out _ : Below w.heap.size w w2)); clear BK; clear HB; have BK := n0_; have HB := n1_; clear n0_ n1_; clear hw; have hcz_0 := bc BK.out 0 (.int .i64 31) rfl; have hcz_1 := bc BK.out 1 (.int .i64 28) rfl; have hcz_2 := bc BK.out 2 (.int .i64 31) rfl; have hcz_3 := bc BK.out 3 (.int .i64 30) rfl; have hcz_4 := bc BK.out 4 (.int .i64 31) rfl; have hcz_5 := bc BK.out 5 (.int .i64 30) rfl; have hcz_6 := bc BK.out 6 (.int .i64 31) rfl; have hcz_7 := bc BK.out 7 (.int .i64 31) rfl; have hcz_8 := bc BK.out 8 (.int .i64 30) rfl; have hcz_9 := bc BK.out 9 (.int .i64 31) rfl; have hcz_10 := bc BK.out 10 (.int .i64 30) rfl; have hcz_11 := bc BK.out 11 (.int .i64 31) rfl))
      go_ret
      exact ⟨by first | rfl | (simp; done) | (simp [*]; done), by repeat (first | (with_reducible first | exact HB.out | apply below_alloc | apply pw_below_drewN | apply below_drew1) | exact HB.out)⟩
  by_cases e : a1 = 7
  · subst e
    have hv : stamp_Days.days a0 7 = 31 := by
      unfold stamp_Days.days
      rw [if_neg (by omega), if_neg (show ¬((7 : Int) = 2 ∧ stamp_Days.leap a0 = true) from fun h => absurd h.1 (by decide))]
      rfl
    rw [hv]
    clear hv
    focus
      go_enter Tryd.func10, Tryd.ntmps10
      go_wp2_with (first | ((with_reducible refine gate_dst (N := 5) rfl ?_); refine box_event ?hg (N := 5) ?hd (cs := #[.int .i64 0, .int .i64 0, .int .i64 0, .int .i64 0, .int .i64 0, .int .i64 0, .int .i64 0, .int .i64 0, .int .i64 0, .int .i64 0, .int .i64 0, .int .i64 0]) (t := 61) ?hr ?_; (case hd => rfl); (case hg => rfl); (case hr => first | (go_simp; done) | (go_simp; rfl)); intro gb hg w1 hbox hb; have n0_ := Aside0.mk (below_step (below_y HB.out) hb); have n1_ := Aside0.mk (hbox); have n2_ := Aside0.mk ((by rw [hg]; exact (below_size (below_y HB.out)) : w.heap.size ≤ gb)); clear HB; have HB := n0_; have BK := n1_; have GE := n2_; clear n0_ n1_ n2_; clear hb hbox hg) | ((with_reducible refine gate_store (t := 61) (p := 5) rfl ?_); refine store_whole2 (t := 61) (g := gb) ?hg ?hn (cells := #[.int .i64 31, .int .i64 28, .int .i64 31, .int .i64 30, .int .i64 31, .int .i64 30, .int .i64 31, .int .i64 31, .int .i64 30, .int .i64 31, .int .i64 30, .int .i64 31]) ?ho (blk_y BK.out) (by kernel_rfl) rfl ?h1 ?_; (case hg => rfl); (case hn => rfl); (case ho => refine ⟨_, _, rfl, ?_, ?_⟩; all_goals (first | (with_reducible rfl) | (go_simp; done) | rfl | (go_simp; rfl))); (case h1 => first | rfl | simp [Value.oneCell']); intro w2 hw; have n0_ := Aside0.mk ((by rw [hw]; exact setRow_heap _ _ _ _ _ _ (blk_y BK.out) : w2.heap[gb]? = some (.cells #[.int .i64 31, .int .i64 28, .int .i64 31, .int .i64 30, .int .i64 31, .int .i64 30, .int .i64 31, .int .i64 31, .int .i64 30, .int .i64 31, .int .i64 30, .int .i64 31] 61 (0, 0)))); have n1_ := Aside0.mk ((by rw [hw]; exact below_setRow (below_y HB.out) GE.out _ : Below w.heap.size w w2)); clear BK; clear HB; have BK := n0_; have HB := n1_; clear n0_ n1_; clear hw; have hcz_0 := bc BK.out 0 (.int .i64 31) rfl; have hcz_1 := bc BK.out 1 (.int .i64 28) rfl; have hcz_2 := bc BK.out 2 (.int .i64 31) rfl; have hcz_3 := bc BK.out 3 (.int .i64 30) rfl; have hcz_4 := bc BK.out 4 (.int .i64 31) rfl; have hcz_5 := bc BK.out 5 (.int .i64 30) rfl; have hcz_6 := bc BK.out 6 (.int .i64 31) rfl; have hcz_7 := bc BK.out 7 (.int .i64 31) rfl; have hcz_8 := bc BK.out 8 (.int .i64 30) rfl; have hcz_9 := bc BK.out 9 (.int .i64 31) rfl; have hcz_10 := bc BK.out 10 (.int .i64 30) rfl; have hcz_11 := bc BK.out 11 (.int .i64 31) rfl))
      go_ret
      exact ⟨by first | rfl | (simp; done) | (simp [*]; done), by repeat (first | (with_reducible first | exact HB.out | apply below_alloc | apply pw_below_drewN | apply below_drew1) | exact HB.out)⟩
  by_cases e : a1 = 8
  · subst e
    have hv : stamp_Days.days a0 8 = 31 := by
      unfold stamp_Days.days
      rw [if_neg (by omega), if_neg (show ¬((8 : Int) = 2 ∧ stamp_Days.leap a0 = true) from fun h => absurd h.1 (by decide))]
      rfl
    rw [hv]
    clear hv
    focus
      go_enter Tryd.func10, Tryd.ntmps10
      go_wp2_with (first | ((with_reducible refine gate_dst (N := 5) rfl ?_); refine box_event ?hg (N := 5) ?hd (cs := #[.int .i64 0, .int .i64 0, .int .i64 0, .int .i64 0, .int .i64 0, .int .i64 0, .int .i64 0, .int .i64 0, .int .i64 0, .int .i64 0, .int .i64 0, .int .i64 0]) (t := 61) ?hr ?_; (case hd => rfl); (case hg => rfl); (case hr => first | (go_simp; done) | (go_simp; rfl)); intro gb hg w1 hbox hb; have n0_ := Aside0.mk (below_step (below_y HB.out) hb); have n1_ := Aside0.mk (hbox); have n2_ := Aside0.mk ((by rw [hg]; exact (below_size (below_y HB.out)) : w.heap.size ≤ gb)); clear HB; have HB := n0_; have BK := n1_; have GE := n2_; clear n0_ n1_ n2_; clear hb hbox hg) | ((with_reducible refine gate_store (t := 61) (p := 5) rfl ?_); refine store_whole2 (t := 61) (g := gb) ?hg ?hn (cells := #[.int .i64 31, .int .i64 28, .int .i64 31, .int .i64 30, .int .i64 31, .int .i64 30, .int .i64 31, .int .i64 31, .int .i64 30, .int .i64 31, .int .i64 30, .int .i64 31]) ?ho (blk_y BK.out) (by kernel_rfl) rfl ?h1 ?_; (case hg => rfl); (case hn => rfl); (case ho => refine ⟨_, _, rfl, ?_, ?_⟩; all_goals (first | (with_reducible rfl) | (go_simp; done) | rfl | (go_simp; rfl))); (case h1 => first | rfl | simp [Value.oneCell']); intro w2 hw; have n0_ := Aside0.mk ((by rw [hw]; exact setRow_heap _ _ _ _ _ _ (blk_y BK.out) : w2.heap[gb]? = some (.cells #[.int .i64 31, .int .i64 28, .int .i64 31, .int .i64 30, .int .i64 31, .int .i64 30, .int .i64 31, .int .i64 31, .int .i64 30, .int .i64 31, .int .i64 30, .int .i64 31] 61 (0, 0)))); have n1_ := Aside0.mk ((by rw [hw]; exact below_setRow (below_y HB.out) GE.out _ : Below w.heap.size w w2)); clear BK; clear HB; have BK := n0_; have HB := n1_; clear n0_ n1_; clear hw; have hcz_0 := bc BK.out 0 (.int .i64 31) rfl; have hcz_1 := bc BK.out 1 (.int .i64 28) rfl; have hcz_2 := bc BK.out 2 (.int .i64 31) rfl; have hcz_3 := bc BK.out 3 (.int .i64 30) rfl; have hcz_4 := bc BK.out 4 (.int .i64 31) rfl; have hcz_5 := bc BK.out 5 (.int .i64 30) rfl; have hcz_6 := bc BK.out 6 (.int .i64 31) rfl; have hcz_7 := bc BK.out 7 (.int .i64 31) rfl; have hcz_8 := bc BK.out 8 (.int .i64 30) rfl; have hcz_9 := bc BK.out 9 (.int .i64 31) rfl; have hcz_10 := bc BK.out 10 (.int .i64 30) rfl; have hcz_11 := bc BK.out 11 (.int .i64 31) rfl))
      go_ret
      exact ⟨by first | rfl | (simp; done) | (simp [*]; done), by repeat (first | (with_reducible first | exact HB.out | apply below_alloc | apply pw_below_drewN | apply below_drew1) | exact HB.out)⟩
  by_cases e : a1 = 9
  · subst e
    have hv : stamp_Days.days a0 9 = 30 := by
      unfold stamp_Days.days
      rw [if_neg (by omega), if_neg (show ¬((9 : Int) = 2 ∧ stamp_Days.leap a0 = true) from fun h => absurd h.1 (by decide))]
      rfl
    rw [hv]
    clear hv
    focus
      go_enter Tryd.func10, Tryd.ntmps10
      go_wp2_with (first | ((with_reducible refine gate_dst (N := 5) rfl ?_); refine box_event ?hg (N := 5) ?hd (cs := #[.int .i64 0, .int .i64 0, .int .i64 0, .int .i64 0, .int .i64 0, .int .i64 0, .int .i64 0, .int .i64 0, .int .i64 0, .int .i64 0, .int .i64 0, .int .i64 0]) (t := 61) ?hr ?_; (case hd => rfl); (case hg => rfl); (case hr => first | (go_simp; done) | (go_simp; rfl)); intro gb hg w1 hbox hb; have n0_ := Aside0.mk (below_step (below_y HB.out) hb); have n1_ := Aside0.mk (hbox); have n2_ := Aside0.mk ((by rw [hg]; exact (below_size (below_y HB.out)) : w.heap.size ≤ gb)); clear HB; have HB := n0_; have BK := n1_; have GE := n2_; clear n0_ n1_ n2_; clear hb hbox hg) | ((with_reducible refine gate_store (t := 61) (p := 5) rfl ?_); refine store_whole2 (t := 61) (g := gb) ?hg ?hn (cells := #[.int .i64 31, .int .i64 28, .int .i64 31, .int .i64 30, .int .i64 31, .int .i64 30, .int .i64 31, .int .i64 31, .int .i64 30, .int .i64 31, .int .i64 30, .int .i64 31]) ?ho (blk_y BK.out) (by kernel_rfl) rfl ?h1 ?_; (case hg => rfl); (case hn => rfl); (case ho => refine ⟨_, _, rfl, ?_, ?_⟩; all_goals (first | (with_reducible rfl) | (go_simp; done) | rfl | (go_simp; rfl))); (case h1 => first | rfl | simp [Value.oneCell']); intro w2 hw; have n0_ := Aside0.mk ((by rw [hw]; exact setRow_heap _ _ _ _ _ _ (blk_y BK.out) : w2.heap[gb]? = some (.cells #[.int .i64 31, .int .i64 28, .int .i64 31, .int .i64 30, .int .i64 31, .int .i64 30, .int .i64 31, .int .i64 31, .int .i64 30, .int .i64 31, .int .i64 30, .int .i64 31] 61 (0, 0)))); have n1_ := Aside0.mk ((by rw [hw]; exact below_setRow (below_y HB.out) GE.out _ : Below w.heap.size w w2)); clear BK; clear HB; have BK := n0_; have HB := n1_; clear n0_ n1_; clear hw; have hcz_0 := bc BK.out 0 (.int .i64 31) rfl; have hcz_1 := bc BK.out 1 (.int .i64 28) rfl; have hcz_2 := bc BK.out 2 (.int .i64 31) rfl; have hcz_3 := bc BK.out 3 (.int .i64 30) rfl; have hcz_4 := bc BK.out 4 (.int .i64 31) rfl; have hcz_5 := bc BK.out 5 (.int .i64 30) rfl; have hcz_6 := bc BK.out 6 (.int .i64 31) rfl; have hcz_7 := bc BK.out 7 (.int .i64 31) rfl; have hcz_8 := bc BK.out 8 (.int .i64 30) rfl; have hcz_9 := bc BK.out 9 (.int .i64 31) rfl; have hcz_10 := bc BK.out 10 (.int .i64 30) rfl; have hcz_11 := bc BK.out 11 (.int .i64 31) rfl))
      go_ret
      exact ⟨by first | rfl | (simp; done) | (simp [*]; done), by repeat (first | (with_reducible first | exact HB.out | apply below_alloc | apply pw_below_drewN | apply below_drew1) | exact HB.out)⟩
  by_cases e : a1 = 10
  · subst e
    have hv : stamp_Days.days a0 10 = 31 := by
      unfold stamp_Days.days
      rw [if_neg (by omega), if_neg (show ¬((10 : Int) = 2 ∧ stamp_Days.leap a0 = true) from fun h => absurd h.1 (by decide))]
      rfl
    rw [hv]
    clear hv
    focus
      go_enter Tryd.func10, Tryd.ntmps10
      go_wp2_with (first | ((with_reducible refine gate_dst (N := 5) rfl ?_); refine box_event ?hg (N := 5) ?hd (cs := #[.int .i64 0, .int .i64 0, .int .i64 0, .int .i64 0, .int .i64 0, .int .i64 0, .int .i64 0, .int .i64 0, .int .i64 0, .int .i64 0, .int .i64 0, .int .i64 0]) (t := 61) ?hr ?_; (case hd => rfl); (case hg => rfl); (case hr => first | (go_simp; done) | (go_simp; rfl)); intro gb hg w1 hbox hb; have n0_ := Aside0.mk (below_step (below_y HB.out) hb); have n1_ := Aside0.mk (hbox); have n2_ := Aside0.mk ((by rw [hg]; exact (below_size (below_y HB.out)) : w.heap.size ≤ gb)); clear HB; have HB := n0_; have BK := n1_; have GE := n2_; clear n0_ n1_ n2_; clear hb hbox hg) | ((with_reducible refine gate_store (t := 61) (p := 5) rfl ?_); refine store_whole2 (t := 61) (g := gb) ?hg ?hn (cells := #[.int .i64 31, .int .i64 28, .int .i64 31, .int .i64 30, .int .i64 31, .int .i64 30, .int .i64 31, .int .i64 31, .int .i64 30, .int .i64 31, .int .i64 30, .int .i64 31]) ?ho (blk_y BK.out) (by kernel_rfl) rfl ?h1 ?_; (case hg => rfl); (case hn => rfl); (case ho => refine ⟨_, _, rfl, ?_, ?_⟩; all_goals (first | (with_reducible rfl) | (go_simp; done) | rfl | (go_simp; rfl))); (case h1 => first | rfl | simp [Value.oneCell']); intro w2 hw; have n0_ := Aside0.mk ((by rw [hw]; exact setRow_heap _ _ _ _ _ _ (blk_y BK.out) : w2.heap[gb]? = some (.cells #[.int .i64 31, .int .i64 28, .int .i64 31, .int .i64 30, .int .i64 31, .int .i64 30, .int .i64 31, .int .i64 31, .int .i64 30, .int .i64 31, .int .i64 30, .int .i64 31] 61 (0, 0)))); have n1_ := Aside0.mk ((by rw [hw]; exact below_setRow (below_y HB.out) GE.out _ : Below w.heap.size w w2)); clear BK; clear HB; have BK := n0_; have HB := n1_; clear n0_ n1_; clear hw; have hcz_0 := bc BK.out 0 (.int .i64 31) rfl; have hcz_1 := bc BK.out 1 (.int .i64 28) rfl; have hcz_2 := bc BK.out 2 (.int .i64 31) rfl; have hcz_3 := bc BK.out 3 (.int .i64 30) rfl; have hcz_4 := bc BK.out 4 (.int .i64 31) rfl; have hcz_5 := bc BK.out 5 (.int .i64 30) rfl; have hcz_6 := bc BK.out 6 (.int .i64 31) rfl; have hcz_7 := bc BK.out 7 (.int .i64 31) rfl; have hcz_8 := bc BK.out 8 (.int .i64 30) rfl; have hcz_9 := bc BK.out 9 (.int .i64 31) rfl; have hcz_10 := bc BK.out 10 (.int .i64 30) rfl; have hcz_11 := bc BK.out 11 (.int .i64 31) rfl))
      go_ret
      exact ⟨by first | rfl | (simp; done) | (simp [*]; done), by repeat (first | (with_reducible first | exact HB.out | apply below_alloc | apply pw_below_drewN | apply below_drew1) | exact HB.out)⟩
  by_cases e : a1 = 11
  · subst e
    have hv : stamp_Days.days a0 11 = 30 := by
      unfold stamp_Days.days
      rw [if_neg (by omega), if_neg (show ¬((11 : Int) = 2 ∧ stamp_Days.leap a0 = true) from fun h => absurd h.1 (by decide))]
      rfl
    rw [hv]
    clear hv
    focus
      go_enter Tryd.func10, Tryd.ntmps10
      go_wp2_with (first | ((with_reducible refine gate_dst (N := 5) rfl ?_); refine box_event ?hg (N := 5) ?hd (cs := #[.int .i64 0, .int .i64 0, .int .i64 0, .int .i64 0, .int .i64 0, .int .i64 0, .int .i64 0, .int .i64 0, .int .i64 0, .int .i64 0, .int .i64 0, .int .i64 0]) (t := 61) ?hr ?_; (case hd => rfl); (case hg => rfl); (case hr => first | (go_simp; done) | (go_simp; rfl)); intro gb hg w1 hbox hb; have n0_ := Aside0.mk (below_step (below_y HB.out) hb); have n1_ := Aside0.mk (hbox); have n2_ := Aside0.mk ((by rw [hg]; exact (below_size (below_y HB.out)) : w.heap.size ≤ gb)); clear HB; have HB := n0_; have BK := n1_; have GE := n2_; clear n0_ n1_ n2_; clear hb hbox hg) | ((with_reducible refine gate_store (t := 61) (p := 5) rfl ?_); refine store_whole2 (t := 61) (g := gb) ?hg ?hn (cells := #[.int .i64 31, .int .i64 28, .int .i64 31, .int .i64 30, .int .i64 31, .int .i64 30, .int .i64 31, .int .i64 31, .int .i64 30, .int .i64 31, .int .i64 30, .int .i64 31]) ?ho (blk_y BK.out) (by kernel_rfl) rfl ?h1 ?_; (case hg => rfl); (case hn => rfl); (case ho => refine ⟨_, _, rfl, ?_, ?_⟩; all_goals (first | (with_reducible rfl) | (go_simp; done) | rfl | (go_simp; rfl))); (case h1 => first | rfl | simp [Value.oneCell']); intro w2 hw; have n0_ := Aside0.mk ((by rw [hw]; exact setRow_heap _ _ _ _ _ _ (blk_y BK.out) : w2.heap[gb]? = some (.cells #[.int .i64 31, .int .i64 28, .int .i64 31, .int .i64 30, .int .i64 31, .int .i64 30, .int .i64 31, .int .i64 31, .int .i64 30, .int .i64 31, .int .i64 30, .int .i64 31] 61 (0, 0)))); have n1_ := Aside0.mk ((by rw [hw]; exact below_setRow (below_y HB.out) GE.out _ : Below w.heap.size w w2)); clear BK; clear HB; have BK := n0_; have HB := n1_; clear n0_ n1_; clear hw; have hcz_0 := bc BK.out 0 (.int .i64 31) rfl; have hcz_1 := bc BK.out 1 (.int .i64 28) rfl; have hcz_2 := bc BK.out 2 (.int .i64 31) rfl; have hcz_3 := bc BK.out 3 (.int .i64 30) rfl; have hcz_4 := bc BK.out 4 (.int .i64 31) rfl; have hcz_5 := bc BK.out 5 (.int .i64 30) rfl; have hcz_6 := bc BK.out 6 (.int .i64 31) rfl; have hcz_7 := bc BK.out 7 (.int .i64 31) rfl; have hcz_8 := bc BK.out 8 (.int .i64 30) rfl; have hcz_9 := bc BK.out 9 (.int .i64 31) rfl; have hcz_10 := bc BK.out 10 (.int .i64 30) rfl; have hcz_11 := bc BK.out 11 (.int .i64 31) rfl))
      go_ret
      exact ⟨by first | rfl | (simp; done) | (simp [*]; done), by repeat (first | (with_reducible first | exact HB.out | apply below_alloc | apply pw_below_drewN | apply below_drew1) | exact HB.out)⟩
  have e : a1 = 12 := by omega
  subst e
  have hv : stamp_Days.days a0 12 = 31 := by
    unfold stamp_Days.days
    rw [if_neg (by omega), if_neg (show ¬((12 : Int) = 2 ∧ stamp_Days.leap a0 = true) from fun h => absurd h.1 (by decide))]
    rfl
  rw [hv]
  clear hv
  focus
    go_enter Tryd.func10, Tryd.ntmps10
    go_wp2_with (first | ((with_reducible refine gate_dst (N := 5) rfl ?_); refine box_event ?hg (N := 5) ?hd (cs := #[.int .i64 0, .int .i64 0, .int .i64 0, .int .i64 0, .int .i64 0, .int .i64 0, .int .i64 0, .int .i64 0, .int .i64 0, .int .i64 0, .int .i64 0, .int .i64 0]) (t := 61) ?hr ?_; (case hd => rfl); (case hg => rfl); (case hr => first | (go_simp; done) | (go_simp; rfl)); intro gb hg w1 hbox hb; have n0_ := Aside0.mk (below_step (below_y HB.out) hb); have n1_ := Aside0.mk (hbox); have n2_ := Aside0.mk ((by rw [hg]; exact (below_size (below_y HB.out)) : w.heap.size ≤ gb)); clear HB; have HB := n0_; have BK := n1_; have GE := n2_; clear n0_ n1_ n2_; clear hb hbox hg) | ((with_reducible refine gate_store (t := 61) (p := 5) rfl ?_); refine store_whole2 (t := 61) (g := gb) ?hg ?hn (cells := #[.int .i64 31, .int .i64 28, .int .i64 31, .int .i64 30, .int .i64 31, .int .i64 30, .int .i64 31, .int .i64 31, .int .i64 30, .int .i64 31, .int .i64 30, .int .i64 31]) ?ho (blk_y BK.out) (by kernel_rfl) rfl ?h1 ?_; (case hg => rfl); (case hn => rfl); (case ho => refine ⟨_, _, rfl, ?_, ?_⟩; all_goals (first | (with_reducible rfl) | (go_simp; done) | rfl | (go_simp; rfl))); (case h1 => first | rfl | simp [Value.oneCell']); intro w2 hw; have n0_ := Aside0.mk ((by rw [hw]; exact setRow_heap _ _ _ _ _ _ (blk_y BK.out) : w2.heap[gb]? = some (.cells #[.int .i64 31, .int .i64 28, .int .i64 31, .int .i64 30, .int .i64 31, .int .i64 30, .int .i64 31, .int .i64 31, .int .i64 30, .int .i64 31, .int .i64 30, .int .i64 31] 61 (0, 0)))); have n1_ := Aside0.mk ((by rw [hw]; exact below_setRow (below_y HB.out) GE.out _ : Below w.heap.size w w2)); clear BK; clear HB; have BK := n0_; have HB := n1_; clear n0_ n1_; clear hw; have hcz_0 := bc BK.out 0 (.int .i64 31) rfl; have hcz_1 := bc BK.out 1 (.int .i64 28) rfl; have hcz_2 := bc BK.out 2 (.int .i64 31) rfl; have hcz_3 := bc BK.out 3 (.int .i64 30) rfl; have hcz_4 := bc BK.out 4 (.int .i64 31) rfl; have hcz_5 := bc BK.out 5 (.int .i64 30) rfl; have hcz_6 := bc BK.out 6 (.int .i64 31) rfl; have hcz_7 := bc BK.out 7 (.int .i64 31) rfl; have hcz_8 := bc BK.out 8 (.int .i64 30) rfl; have hcz_9 := bc BK.out 9 (.int .i64 31) rfl; have hcz_10 := bc BK.out 10 (.int .i64 30) rfl; have hcz_11 := bc BK.out 11 (.int .i64 31) rfl))
    go_ret
    exact ⟨by first | rfl | (simp; done) | (simp [*]; done), by repeat (first | (with_reducible first | exact HB.out | apply below_alloc | apply pw_below_drewN | apply below_drew1) | exact HB.out)⟩

end Go.Proofs.YtghdkpcpgpfgcaaDoor.XSta
