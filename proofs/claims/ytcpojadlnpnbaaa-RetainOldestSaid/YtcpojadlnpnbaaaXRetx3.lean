-- By a program of this work (xprint.py) over the translation; Lean checks it.
import Derived.Test.YtcpojadlnpnbaaaXRetx0
namespace Go.Proofs.Ytcpojadlnpnbaaa.XRet
open Go.RowKit Go.Proofs.YtcpojadlnpnbaaaW.PrintWords Go.Proofs.YtcpojadlnpnbaaaW.PrintLast Go.Proofs.YtcpojadlnpnbaaaW.PrintMore
attribute [local go_sem] max2_int min2_int max_two min_two max_three min_three max_four min_four   -- for this text's walks alone
set_option linter.unusedVariables false
set_option linter.unusedSimpArgs false

/-! ### newsreelref14_Short: function 18 -/
def newsreelref14_Short.f (a0_0 : Int) (a0_1 : ByteArray) (a0_2 : ByteArray) (a0_3 : Int) (a0_4 : Int) : Option (Bool) := if (a0_1.size : Int) ≤ 400 then (some (decide ((a0_2.size : Int) ≤ 400))) else (some false)
set_option maxHeartbeats 2000000 in
set_option maxRecDepth 100000 in
theorem newsreelref14_Short.calls (a0_0 : Int) (a0_1 : ByteArray) (a0_2 : ByteArray) (a0_3 : Int) (a0_4 : Int) (r : Bool) (w : World) (h : newsreelref14_Short.f a0_0 a0_1 a0_2 a0_3 a0_4 = some r) :
  Calls Try.prog 18 #[.agg #[.int .i64 a0_0, .string a0_1, .string a0_2, .int .i64 a0_3, .int .i64 a0_4]] w fun e w' => e = .returned (.bool r) ∧ Below w.heap.size w w' := by
 have hu43 := Try.underlying43
 have HB := mkA (Below.refl w.heap.size w)
 have H : (if (a0_1.size : Int) ≤ 400 then (some (decide ((a0_2.size : Int) ≤ 400))) else (some false)) = some r := h
 clear h
 by_cases c2 : (a0_1.size : Int) ≤ 400
 ·rw [if_pos c2] at H
  have c2b0 : decide ((a0_1.size : Int) ≤ 400) = true := decide_eq_true c2
  have c2b1 : decide (a0_1.size ≤ 400) = true := decide_eq_true (by omega)
  clear c2
  as_aux_lemma =>
   obtain rfl := Option.some.inj H
   go_enter Try.func18, Try.ntmps18
   go_wp2_with (first | ((with_reducible refine gate_load (t := 43) rfl ?_); refine load_row3 (t := 43) (g := gb101) ?hg BK101.out ?ho ?hb Try.underlying43 rfl ?hs ?_; (case hg => rfl); (case ho => refine ⟨_, rfl, ?_⟩; first | (with_reducible rfl) | (go_simp; done)); (case hb => (with_reducible repeat (first | refine blk_drewN ?_ _ | refine blk_drew ?_ | refine blk_alloc ?_ _)); with_reducible exact BK101.out); (case hs => kernel_rfl)) | ((with_reducible refine gate_dst (N := 1) rfl ?_); (try (refine gate_guard (by rfl) ?_; dsimp only)); refine box_event ?hg (N := 1) ?hd (cs := #[.int .i64 a0_0, .string a0_1, .string a0_2, .int .i64 a0_3, .int .i64 a0_4]) (t := 43) ?hr ?_; (case hd => rfl); (case hg => rfl); (case hr => first | (go_simp; done) | (go_simp; rfl)); intro gb101 hg w3 hbox hb; have n0_ := mkA (below_step (below_y HB.out) hb); have n1_ := mkA (hbox); have n2_ := mkA ((gz hg HB.out : w.heap.size ≤ gb101)); have n3_ := mkA ((gz hg HB.out : w.heap.size ≤ gb101)); clear HB; have HB := n0_; have BK101 := n1_; have GW101 := n2_; have GE101 := n3_; clear n0_ n1_ n2_ n3_; clear hb hbox hg; have hcz4_0 := bc BK101.out 0 _ rfl; have hcz4_1 := bc BK101.out 1 _ rfl; have hcz4_2 := bc BK101.out 2 _ rfl; have hcz4_3 := bc BK101.out 3 _ rfl; have hcz4_4 := bc BK101.out 4 _ rfl; have hfz4_0 := blk_frozen BK101.out 0; have hfz4_1 := blk_frozen BK101.out 1; have hfz4_2 := blk_frozen BK101.out 2; have hfz4_3 := blk_frozen BK101.out 3; have hfz4_4 := blk_frozen BK101.out 4))
   go_ret
   exact ⟨by first | rfl | (simp [errW_none, errW_some] <;> rfl) | (simp [*, errW_none, errW_some] <;> rfl), by repeat (first | (with_reducible first | exact HB.out | apply below_alloc | apply pw_below_drewN | apply below_drew1 | refine below_set ?_ GE101.out) | exact HB.out)⟩
 ·rw [if_neg c2] at H
  have c2b0 : decide ((a0_1.size : Int) ≤ 400) = false := decide_eq_false c2
  have c2b1 : decide (a0_1.size ≤ 400) = false := decide_eq_false (by omega)
  clear c2
  as_aux_lemma =>
   obtain rfl := Option.some.inj H
   go_enter Try.func18, Try.ntmps18
   go_wp2_with (first | ((with_reducible refine gate_load (t := 43) rfl ?_); refine load_row3 (t := 43) (g := gb101) ?hg BK101.out ?ho ?hb Try.underlying43 rfl ?hs ?_; (case hg => rfl); (case ho => refine ⟨_, rfl, ?_⟩; first | (with_reducible rfl) | (go_simp; done)); (case hb => (with_reducible repeat (first | refine blk_drewN ?_ _ | refine blk_drew ?_ | refine blk_alloc ?_ _)); with_reducible exact BK101.out); (case hs => kernel_rfl)) | ((with_reducible refine gate_dst (N := 1) rfl ?_); (try (refine gate_guard (by rfl) ?_; dsimp only)); refine box_event ?hg (N := 1) ?hd (cs := #[.int .i64 a0_0, .string a0_1, .string a0_2, .int .i64 a0_3, .int .i64 a0_4]) (t := 43) ?hr ?_; (case hd => rfl); (case hg => rfl); (case hr => first | (go_simp; done) | (go_simp; rfl)); intro gb101 hg w5 hbox hb; have n0_ := mkA (below_step (below_y HB.out) hb); have n1_ := mkA (hbox); have n2_ := mkA ((gz hg HB.out : w.heap.size ≤ gb101)); have n3_ := mkA ((gz hg HB.out : w.heap.size ≤ gb101)); clear HB; have HB := n0_; have BK101 := n1_; have GW101 := n2_; have GE101 := n3_; clear n0_ n1_ n2_ n3_; clear hb hbox hg; have hcz6_0 := bc BK101.out 0 _ rfl; have hcz6_1 := bc BK101.out 1 _ rfl; have hcz6_2 := bc BK101.out 2 _ rfl; have hcz6_3 := bc BK101.out 3 _ rfl; have hcz6_4 := bc BK101.out 4 _ rfl; have hfz6_0 := blk_frozen BK101.out 0; have hfz6_1 := blk_frozen BK101.out 1; have hfz6_2 := blk_frozen BK101.out 2; have hfz6_3 := blk_frozen BK101.out 3; have hfz6_4 := blk_frozen BK101.out 4))
   go_ret
   exact ⟨by first | rfl | (simp [errW_none, errW_some] <;> rfl) | (simp [*, errW_none, errW_some] <;> rfl), by repeat (first | (with_reducible first | exact HB.out | apply below_alloc | apply pw_below_drewN | apply below_drew1 | refine below_set ?_ GE101.out) | exact HB.out)⟩

end Go.Proofs.Ytcpojadlnpnbaaa.XRet
