-- By a program of this work (xprint.py) over the translation; Lean checks it.
import Derived.Test.YtcpojadlnpnbaaaXRetx0
import Derived.Test.YtcpojadlnpnbaaaXRetx14
namespace Go.Proofs.Ytcpojadlnpnbaaa.XRet
open Go.RowKit Go.Proofs.YtcpojadlnpnbaaaW.PrintWords Go.Proofs.YtcpojadlnpnbaaaW.PrintLast Go.Proofs.YtcpojadlnpnbaaaW.PrintMore
attribute [local go_sem] max2_int min2_int max_two min_two max_three min_three max_four min_four   -- for this text's walks alone
set_option linter.unusedVariables false
set_option linter.unusedSimpArgs false

/-! ### api_Ep_32: function 32 -/
mutual
def api_Ep_32.l0 : Nat → List (S29) → Int → Int → Int → Option ((List (S29)))
 | 0, _, _, _, _ => none
 | k + 1, x0, x1, x2, x8 => if x8 < x2 then (api_Ep_32.l1 k x0 x1 x2 x8 x8) else (some x0)
def api_Ep_32.l1 : Nat → List (S29) → Int → Int → Int → Int → Option ((List (S29)))
 | 0, _, _, _, _, _ => none
 | k + 1, x0, x1, x2, x8, x9 => if x9 > x1 then (if 0 ≤ x9 then (if x9 < (x0.length : Int) then (if 0 ≤ (wrap64 (x9 - 1)) then (if (wrap64 (x9 - 1)) < (x0.length : Int) then ((retain_older.f k ((rd_T29 x0 x9).f0) ((rd_T29 x0 x9).f1) ((rd_T29 x0 x9).f2) ((rd_T29 x0 x9).f3) ((rd_T29 x0 x9).f4) ((rd_T29 x0 x9).f5) ((rd_T29 x0 x9).f6) ((rd_T29 x0 x9).f7) ((rd_T29 x0 x9).f8) ((rd_T29 x0 x9).f9) ((rd_T29 x0 x9).f10) ((rd_T29 x0 x9).f11) ((rd_T29 x0 x9).f12) ((rd_T29 x0 x9).f13) ((rd_T29 x0 x9).f14) ((rd_T29 x0 x9).f15) ((rd_T29 x0 x9).f16) ((rd_T29 x0 x9).f17) ((rd_T29 x0 x9).f18) ((rd_T29 x0 x9).f19) ((rd_T29 x0 (wrap64 (x9 - 1))).f0) ((rd_T29 x0 (wrap64 (x9 - 1))).f1) ((rd_T29 x0 (wrap64 (x9 - 1))).f2) ((rd_T29 x0 (wrap64 (x9 - 1))).f3) ((rd_T29 x0 (wrap64 (x9 - 1))).f4) ((rd_T29 x0 (wrap64 (x9 - 1))).f5) ((rd_T29 x0 (wrap64 (x9 - 1))).f6) ((rd_T29 x0 (wrap64 (x9 - 1))).f7) ((rd_T29 x0 (wrap64 (x9 - 1))).f8) ((rd_T29 x0 (wrap64 (x9 - 1))).f9) ((rd_T29 x0 (wrap64 (x9 - 1))).f10) ((rd_T29 x0 (wrap64 (x9 - 1))).f11) ((rd_T29 x0 (wrap64 (x9 - 1))).f12) ((rd_T29 x0 (wrap64 (x9 - 1))).f13) ((rd_T29 x0 (wrap64 (x9 - 1))).f14) ((rd_T29 x0 (wrap64 (x9 - 1))).f15) ((rd_T29 x0 (wrap64 (x9 - 1))).f16) ((rd_T29 x0 (wrap64 (x9 - 1))).f17) ((rd_T29 x0 (wrap64 (x9 - 1))).f18) ((rd_T29 x0 (wrap64 (x9 - 1))).f19)).bind fun t129 => (if t129 < 0 then (api_Ep_32.l1 k ((x0.set (x9 : Int).toNat (⟨(rd_T29 x0 (wrap64 (x9 - 1))).f0, (rd_T29 x0 (wrap64 (x9 - 1))).f1, (rd_T29 x0 (wrap64 (x9 - 1))).f2, (rd_T29 x0 (wrap64 (x9 - 1))).f3, (rd_T29 x0 (wrap64 (x9 - 1))).f4, (rd_T29 x0 (wrap64 (x9 - 1))).f5, (rd_T29 x0 (wrap64 (x9 - 1))).f6, (rd_T29 x0 (wrap64 (x9 - 1))).f7, (rd_T29 x0 (wrap64 (x9 - 1))).f8, (rd_T29 x0 (wrap64 (x9 - 1))).f9, (rd_T29 x0 (wrap64 (x9 - 1))).f10, (rd_T29 x0 (wrap64 (x9 - 1))).f11, (rd_T29 x0 (wrap64 (x9 - 1))).f12, (rd_T29 x0 (wrap64 (x9 - 1))).f13, (rd_T29 x0 (wrap64 (x9 - 1))).f14, (rd_T29 x0 (wrap64 (x9 - 1))).f15, (rd_T29 x0 (wrap64 (x9 - 1))).f16, (rd_T29 x0 (wrap64 (x9 - 1))).f17, (rd_T29 x0 (wrap64 (x9 - 1))).f18, (rd_T29 x0 (wrap64 (x9 - 1))).f19⟩ : S29)).set ((wrap64 (x9 - 1)) : Int).toNat (⟨(rd_T29 x0 x9).f0, (rd_T29 x0 x9).f1, (rd_T29 x0 x9).f2, (rd_T29 x0 x9).f3, (rd_T29 x0 x9).f4, (rd_T29 x0 x9).f5, (rd_T29 x0 x9).f6, (rd_T29 x0 x9).f7, (rd_T29 x0 x9).f8, (rd_T29 x0 x9).f9, (rd_T29 x0 x9).f10, (rd_T29 x0 x9).f11, (rd_T29 x0 x9).f12, (rd_T29 x0 x9).f13, (rd_T29 x0 x9).f14, (rd_T29 x0 x9).f15, (rd_T29 x0 x9).f16, (rd_T29 x0 x9).f17, (rd_T29 x0 x9).f18, (rd_T29 x0 x9).f19⟩ : S29)) x1 x2 x8 (wrap64 (x9 - 1))) else (api_Ep_32.l0 k x0 x1 x2 (wrap64 (x8 + 1))))) else (none)) else (none)) else (none)) else (none)) else (api_Ep_32.l0 k x0 x1 x2 (wrap64 (x8 + 1)))
end
def api_Ep_32.f (k : Nat) (l0 : List (S29)) (a1 : Int) (a2 : Int) : Option ((List (S29))) := api_Ep_32.l0 k l0 a1 a2 (wrap64 (a1 + 1))
theorem api_Ep_32.mono_l : ∀ k, (∀ y0 y1 y2 y3, LeO (api_Ep_32.l0 k y0 y1 y2 y3) (api_Ep_32.l0 (k + 1) y0 y1 y2 y3)) ∧ (∀ y0 y1 y2 y3 y4, LeO (api_Ep_32.l1 k y0 y1 y2 y3 y4) (api_Ep_32.l1 (k + 1) y0 y1 y2 y3 y4))
 | 0 => ⟨fun _ _ _ _ r h => by simp [api_Ep_32.l0] at h, fun _ _ _ _ _ r h => by simp [api_Ep_32.l1] at h⟩
 | k + 1 => by
  obtain ⟨ih0, ih1⟩ := api_Ep_32.mono_l k
  refine ⟨?_, ?_⟩
  ·intro y0 y1 y2 y3
   unfold api_Ep_32.l0
   repeat' first
   | (with_reducible exact ih0 _ _ _ _)
   | (with_reducible exact ih1 _ _ _ _ _)
   | (with_reducible exact retain_older.mono _ _ _ _ _ _ _ _ _ _ _ _ _ _ _ _ _ _ _ _ _ _ _ _ _ _ _ _ _ _ _ _ _ _ _ _ _ _ _ _ _)
   | (with_reducible exact LeO.refl _)
   | (with_reducible exact LeO.none _)
   | (with_reducible refine LeO.ite ?_ ?_)
   | (with_reducible refine LeO.bind ?_ (fun _ => ?_))
   | exact ih0 _ _ _ _
   | exact ih1 _ _ _ _ _
   | exact retain_older.mono _ _ _ _ _ _ _ _ _ _ _ _ _ _ _ _ _ _ _ _ _ _ _ _ _ _ _ _ _ _ _ _ _ _ _ _ _ _ _ _ _
   | exact LeO.none _
   | refine LeO.ite ?_ ?_
   | refine LeO.bind ?_ (fun _ => ?_)
  ·intro y0 y1 y2 y3 y4
   unfold api_Ep_32.l1
   repeat' first
   | (with_reducible exact ih0 _ _ _ _)
   | (with_reducible exact ih1 _ _ _ _ _)
   | (with_reducible exact retain_older.mono _ _ _ _ _ _ _ _ _ _ _ _ _ _ _ _ _ _ _ _ _ _ _ _ _ _ _ _ _ _ _ _ _ _ _ _ _ _ _ _ _)
   | (with_reducible exact LeO.refl _)
   | (with_reducible exact LeO.none _)
   | (with_reducible refine LeO.ite ?_ ?_)
   | (with_reducible refine LeO.bind ?_ (fun _ => ?_))
   | exact ih0 _ _ _ _
   | exact ih1 _ _ _ _ _
   | exact retain_older.mono _ _ _ _ _ _ _ _ _ _ _ _ _ _ _ _ _ _ _ _ _ _ _ _ _ _ _ _ _ _ _ _ _ _ _ _ _ _ _ _ _
   | exact LeO.none _
   | refine LeO.ite ?_ ?_
   | refine LeO.bind ?_ (fun _ => ?_)
theorem api_Ep_32.mono : ∀ a0 a1 a2 k, LeO (api_Ep_32.f k a0 a1 a2) (api_Ep_32.f (k + 1) a0 a1 a2) := by
 intro a0 a1 a2 k
 obtain ⟨ih0, ih1⟩ := api_Ep_32.mono_l k
 unfold api_Ep_32.f
 repeat' first
   | (with_reducible exact ih0 _ _ _ _)
   | (with_reducible exact ih1 _ _ _ _ _)
   | (with_reducible exact retain_older.mono _ _ _ _ _ _ _ _ _ _ _ _ _ _ _ _ _ _ _ _ _ _ _ _ _ _ _ _ _ _ _ _ _ _ _ _ _ _ _ _ _)
   | (with_reducible exact LeO.refl _)
   | (with_reducible exact LeO.none _)
   | (with_reducible refine LeO.ite ?_ ?_)
   | (with_reducible refine LeO.bind ?_ (fun _ => ?_))
   | exact ih0 _ _ _ _
   | exact ih1 _ _ _ _ _
   | exact retain_older.mono _ _ _ _ _ _ _ _ _ _ _ _ _ _ _ _ _ _ _ _ _ _ _ _ _ _ _ _ _ _ _ _ _ _ _ _ _ _ _ _ _
   | exact LeO.none _
   | refine LeO.ite ?_ ?_
   | refine LeO.bind ?_ (fun _ => ?_)
def api_Ep_32.T4 : Bool × List (List Nat × List Nat) := (true, [([], []), ([], []), ([0, 1], [0, 1]), ([2], [2]), ([3], [3]), ([3], [3]), ([3], [3]), ([5, 6, 3], [3, 5, 6]), ([7, 3], [3, 7]), ([3], [3]), ([3], [3]), ([10, 3], [3, 10]), ([9, 11, 3], [3, 9, 11]), ([12, 3], [3, 12]), ([4, 8, 13, 3, 3], [3, 4, 8, 13]), ([14, 3], [3, 14]), ([3, 15], [3, 15])])
def api_Ep_32.B4 : List Nat := [0, 0, 3, 7, 15, 15, 15, 111, 239, 15, 15, 1039, 3599, 7695, 16383, 32767, 65535]
theorem api_Ep_32.tab4 : rtab .any (opsOf Try.f32 4) = api_Ep_32.T4 := by kernel_rfl
theorem api_Ep_32.bits4 : waitsOk api_Ep_32.T4.2 api_Ep_32.B4 = true := by kernel_rfl
def api_Ep_32.T6 : Bool × List (List Nat × List Nat) := (true, [([], []), ([], []), ([], []), ([], []), ([3], [3]), ([], []), ([], []), ([6], [6]), ([5, 7], [5, 7]), ([8], [8]), ([], []), ([], []), ([10, 11], [10, 11]), ([12], [12]), ([0, 1, 0, 1, 5, 6, 7, 8, 9, 13], [0, 1]), ([14, 9, 0, 1, 5, 6, 7, 8, 9, 13], [9, 14]), ([2, 4, 0, 1, 2, 3, 4, 5, 6, 7, 8, 9, 10, 11, 12, 13, 14, 15], [2, 4]), ([16, 13, 15, 0, 1, 2, 3, 4, 5, 6, 7, 8, 9, 10, 11, 12, 13, 14, 15], [13, 16])])
def api_Ep_32.B6 : List Nat := [0, 0, 0, 0, 8, 0, 0, 64, 224, 480, 0, 0, 3072, 7168, 16355, 32739, 65535, 131071]
theorem api_Ep_32.tab6 : rtab .any (opsOf Try.f32 6) = api_Ep_32.T6 := by kernel_rfl
theorem api_Ep_32.bits6 : waitsOk api_Ep_32.T6.2 api_Ep_32.B6 = true := by kernel_rfl
set_option maxHeartbeats 2000000 in
set_option maxRecDepth 100000 in
theorem api_Ep_32.calls (k : Nat) (P0_ : Nat → Prop) (u9000_ : Value) (l0 : List (S29)) (a1 : Int) (a2 : Int) (r : List (S29)) (w0 w : World) (hB : Below w0.heap.size w0 w) (ho0 : Kd.R k29 29 w w0.heap.size P0_ u9000_ l0) (h : api_Ep_32.f k l0 a1 a2 = some r) :
  Calls Try.prog 32 #[u9000_, .int .i64 a1, .int .i64 a2, .func (.func 22) #[] #[]] w fun e w' => e = .returned (.tuple #[]) ∧ Kd.R k29 29 w' w0.heap.size (fun k_ => (P0_ k_ ∨ w.heap.size ≤ k_)) u9000_ r ∧ Below w0.heap.size w0 w' ∧ Kept w w' (fun k_ => P0_ k_) := by
 have hu29 := Try.underlying29
 have HO0 := mkA (show Kd.R k29 29 w w0.heap.size (fun k_ => (P0_ k_ ∨ w.heap.size ≤ k_)) u9000_ l0 from Kd.R_mono ho0 (fun k_ hk => (.inl hk)))
 have HK := mkA (Kept.refl w (fun k_ => P0_ k_))
 have HW0 := mkA hB.size
 have HB := mkA hB
 clear hB
 have H : (api_Ep_32.l0 k l0 a1 a2 (wrap64 (a1 + 1))) = some r := h
 clear h
 have H' := mkA H
 clear H
 go_enter Try.func32, Try.ntmps32
 go_wp2
 try simp only [Act.put, sA, s0, sS]
 go_loopg [8] k (fun kq v8 w' => ∃ (x0_1 : List (S29)) (x8_1 : Int), v8 = .int .i64 x8_1 ∧ Aside0 (api_Ep_32.l0 kq x0_1 a1 a2 x8_1 = some r) ∧ Aside0 (kq ≤ k) ∧ Aside0 (Kd.R k29 29 w' w0.heap.size (fun k_ => (P0_ k_ ∨ w.heap.size ≤ k_)) u9000_ x0_1) ∧ Aside0 (Kept w w' (fun k_ => P0_ k_)) ∧ Aside0 (Below w0.heap.size w0 w'))
 case atStart => exact ⟨(l0), (wrap64 (a1 + 1)), (by first | rfl | (simp; done) | (simp [*]; done)), H', ⟨Nat.le_refl _⟩, ⟨by (with_reducible repeat (first | apply Kd.R_alloc | apply Kd.R_drewN | apply Kd.R_drew)); exact HO0.out⟩, ⟨by repeat (first | (with_reducible first | exact HK.out | apply Kept.alloc | apply Kept.drewN | apply Kept.drew) | exact HK.out)⟩, ⟨below_y HB.out⟩⟩
 clear H'
 try clear p2
 try clear c3
 obtain ⟨x0_1, x8_1, rfl, HA, HK1, HO_0, HK, HB⟩ := hrel
 rcases gk with _ | k1
 ·exact absurd HA.out (by simp [api_Ep_32.l0])
 have H := HA.out
 clear HA
 simp only [api_Ep_32.l0] at H
 by_cases c4 : x8_1 < a2
 rotate_left
 ·rw [if_neg c4] at H
  have c4b0 : decide (x8_1 < a2) = false := decide_eq_false c4
  clear c4
  focus
   obtain rfl := Option.some.inj H
   go_wp2
   first | go_end0 | ((try simp only [Exit.inBlock, Exit.then]); refine bodyPost_ret (results_none rfl _ _ _) rfl ?_)
   exact ⟨by first | rfl | (simp [errW_none, errW_some] <;> rfl) | (simp [*, errW_none, errW_some] <;> rfl), by (with_reducible repeat (first | apply Kd.R_alloc | apply Kd.R_drewN | apply Kd.R_drew)); exact HO_0.out, below_y HB.out, by repeat (first | (with_reducible first | exact HK.out | apply Kept.alloc | apply Kept.drewN | apply Kept.drew) | exact HK.out)⟩
 rw [if_pos c4] at H
 have c4b0 : decide (x8_1 < a2) = true := decide_eq_true c4
 clear c4
 have H' := mkA H
 clear H
 go_wp2
 try simp only [Act.put, sA, s0, sS]
 go_loopg [9] k1 (fun kq v9 w' => ∃ (x0_2 : List (S29)) (x9_2 : Int), v9 = .int .i64 x9_2 ∧ Aside0 (api_Ep_32.l1 kq x0_2 a1 a2 x8_1 x9_2 = some r) ∧ Aside0 (kq ≤ k1) ∧ Aside0 (Kd.R k29 29 w' w0.heap.size (fun k_ => (P0_ k_ ∨ w.heap.size ≤ k_)) u9000_ x0_2) ∧ Aside0 (Kept w w' (fun k_ => P0_ k_)) ∧ Aside0 (Below w0.heap.size w0 w'))
 case atStart => exact ⟨(x0_1), (x8_1), (by first | rfl | (simp; done) | (simp [*]; done)), H', ⟨Nat.le_refl _⟩, ⟨by (with_reducible repeat (first | apply Kd.R_alloc | apply Kd.R_drewN | apply Kd.R_drew)); exact HO_0.out⟩, ⟨by repeat (first | (with_reducible first | exact HK.out | apply Kept.alloc | apply Kept.drewN | apply Kept.drew) | exact HK.out)⟩, ⟨below_y HB.out⟩⟩
 clear H'
 try clear p2
 try clear c3
 try clear c4
 try clear c4b0
 try clear p2
 obtain ⟨x0_2, x9_2, rfl, HA, HK2, HO_0, HK, HB⟩ := hrel
 rcases gk with _ | k2
 ·exact absurd HA.out (by simp [api_Ep_32.l1])
 have H := HA.out
 clear HA
 simp only [api_Ep_32.l1] at H
 by_cases c5 : x9_2 > a1
 rotate_left
 ·rw [if_neg c5] at H
  have c5b0 : decide (a1 < x9_2) = false := decide_eq_false c5
  clear c5
  as_aux_lemma =>
   have H' := mkA H
   clear H
   try go_wp2
   have n0_ := mkA (Kd.R_drew HO_0.out)
   have n1_ := mkA (Kept.drew HK.out)
   have n2_ := mkA (below_drew1 HB.out)
   clear HO_0 HK HB
   have HO_0 := n0_
   have HK := n1_
   have HB := n2_
   clear n0_ n1_ n2_
   refine start_ (n := 17) (S := fun w' => True) (ds := []) #[false, false, false, false, false, false, false, false, false, false, false, false, false, false, false, false, false] (by kernel_rfl) rfl rfl trivial (fun hHeld => ?_); refine with_tabW api_Ep_32.tab4 api_Ep_32.bits4 (fun HT_ HW_ => ?_)
   generalize wr.drew = w24 at HO_0 HK HB hHeld ⊢
   refine pu 0 18 HT_ ?_
   refine pu 1 19 HT_ ?_
   refine pu 2 20 HT_ ?_
   refine pu 3 21 HT_ ?_
   refine pn 4 22 HT_ ?_
   refine pn 5 23 HT_ ?_
   refine pn 6 24 HT_ ?_
   refine pn 7 25 HT_ ?_
   refine pn 8 26 HT_ ?_
   refine pn 9 27 HT_ ?_
   refine pn 10 28 HT_ ?_
   refine pn 11 29 HT_ ?_
   refine pn 12 30 HT_ ?_
   refine pn 13 31 HT_ ?_
   refine pn 14 32 HT_ ?_
   refine pn 15 33 HT_ ?_
   refine pu 16 34 HT_ ?_
   refine done_ (done_of HT_.out (by kernel_rfl)) ?_
   try go_wp2
   go_roundg k2
   case measure => have := HK1.out; have := HK2.out; omega
   case rel => exact ⟨(x0_2), (wrap64 (x8_1 + 1)), (by first | rfl | (simp; done) | (simp [*]; done)), H', ⟨by have := HK1.out; have := HK2.out; omega⟩, ⟨by (with_reducible repeat (first | apply Kd.R_alloc | apply Kd.R_drewN | apply Kd.R_drew)); exact HO_0.out⟩, ⟨by repeat (first | (with_reducible first | exact HK.out | apply Kept.alloc | apply Kept.drewN | apply Kept.drew) | exact HK.out)⟩, ⟨below_y HB.out⟩⟩
 rw [if_pos c5] at H
 have c5b0 : decide (a1 < x9_2) = true := decide_eq_true c5
 clear c5
 by_cases c6 : 0 ≤ x9_2
 rotate_left
 ·rw [if_neg c6] at H
  exact absurd H (by simp)
 rw [if_pos c6] at H
 have c6b0 : decide (0 ≤ x9_2) = true := decide_eq_true c6
 clear c6
 by_cases c7 : x9_2 < (x0_2.length : Int)
 rotate_left
 ·rw [if_neg c7] at H
  exact absurd H (by simp)
 rw [if_pos c7] at H
 have c7b0 : decide (x9_2 < (x0_2.length : Int)) = true := decide_eq_true c7
 clear c7
 obtain ⟨ji8, hji8⟩ : ∃ j_ : Int, (wrap64 (x9_2 - 1)) = j_ := ⟨_, rfl⟩
 replace H : (if 0 ≤ (ji8) then (if (ji8) < (x0_2.length : Int) then ((retain_older.f k2 ((rd_T29 x0_2 x9_2).f0) ((rd_T29 x0_2 x9_2).f1) ((rd_T29 x0_2 x9_2).f2) ((rd_T29 x0_2 x9_2).f3) ((rd_T29 x0_2 x9_2).f4) ((rd_T29 x0_2 x9_2).f5) ((rd_T29 x0_2 x9_2).f6) ((rd_T29 x0_2 x9_2).f7) ((rd_T29 x0_2 x9_2).f8) ((rd_T29 x0_2 x9_2).f9) ((rd_T29 x0_2 x9_2).f10) ((rd_T29 x0_2 x9_2).f11) ((rd_T29 x0_2 x9_2).f12) ((rd_T29 x0_2 x9_2).f13) ((rd_T29 x0_2 x9_2).f14) ((rd_T29 x0_2 x9_2).f15) ((rd_T29 x0_2 x9_2).f16) ((rd_T29 x0_2 x9_2).f17) ((rd_T29 x0_2 x9_2).f18) ((rd_T29 x0_2 x9_2).f19) ((rd_T29 x0_2 (ji8)).f0) ((rd_T29 x0_2 (ji8)).f1) ((rd_T29 x0_2 (ji8)).f2) ((rd_T29 x0_2 (ji8)).f3) ((rd_T29 x0_2 (ji8)).f4) ((rd_T29 x0_2 (ji8)).f5) ((rd_T29 x0_2 (ji8)).f6) ((rd_T29 x0_2 (ji8)).f7) ((rd_T29 x0_2 (ji8)).f8) ((rd_T29 x0_2 (ji8)).f9) ((rd_T29 x0_2 (ji8)).f10) ((rd_T29 x0_2 (ji8)).f11) ((rd_T29 x0_2 (ji8)).f12) ((rd_T29 x0_2 (ji8)).f13) ((rd_T29 x0_2 (ji8)).f14) ((rd_T29 x0_2 (ji8)).f15) ((rd_T29 x0_2 (ji8)).f16) ((rd_T29 x0_2 (ji8)).f17) ((rd_T29 x0_2 (ji8)).f18) ((rd_T29 x0_2 (ji8)).f19)).bind fun t129 => (if t129 < 0 then (api_Ep_32.l1 k2 ((x0_2.set (x9_2 : Int).toNat (⟨(rd_T29 x0_2 (ji8)).f0, (rd_T29 x0_2 (ji8)).f1, (rd_T29 x0_2 (ji8)).f2, (rd_T29 x0_2 (ji8)).f3, (rd_T29 x0_2 (ji8)).f4, (rd_T29 x0_2 (ji8)).f5, (rd_T29 x0_2 (ji8)).f6, (rd_T29 x0_2 (ji8)).f7, (rd_T29 x0_2 (ji8)).f8, (rd_T29 x0_2 (ji8)).f9, (rd_T29 x0_2 (ji8)).f10, (rd_T29 x0_2 (ji8)).f11, (rd_T29 x0_2 (ji8)).f12, (rd_T29 x0_2 (ji8)).f13, (rd_T29 x0_2 (ji8)).f14, (rd_T29 x0_2 (ji8)).f15, (rd_T29 x0_2 (ji8)).f16, (rd_T29 x0_2 (ji8)).f17, (rd_T29 x0_2 (ji8)).f18, (rd_T29 x0_2 (ji8)).f19⟩ : S29)).set ((ji8) : Int).toNat (⟨(rd_T29 x0_2 x9_2).f0, (rd_T29 x0_2 x9_2).f1, (rd_T29 x0_2 x9_2).f2, (rd_T29 x0_2 x9_2).f3, (rd_T29 x0_2 x9_2).f4, (rd_T29 x0_2 x9_2).f5, (rd_T29 x0_2 x9_2).f6, (rd_T29 x0_2 x9_2).f7, (rd_T29 x0_2 x9_2).f8, (rd_T29 x0_2 x9_2).f9, (rd_T29 x0_2 x9_2).f10, (rd_T29 x0_2 x9_2).f11, (rd_T29 x0_2 x9_2).f12, (rd_T29 x0_2 x9_2).f13, (rd_T29 x0_2 x9_2).f14, (rd_T29 x0_2 x9_2).f15, (rd_T29 x0_2 x9_2).f16, (rd_T29 x0_2 x9_2).f17, (rd_T29 x0_2 x9_2).f18, (rd_T29 x0_2 x9_2).f19⟩ : S29)) a1 a2 x8_1 ji8) else (api_Ep_32.l0 k2 x0_2 a1 a2 (wrap64 (x8_1 + 1))))) else (none)) else (none)) = some r := by first | (rw [hji8] at H; exact H) | (simp only [hji8] at H ⊢; exact H)
 have hji8w : (IntKind.i64.wrap (x9_2 - 1)) = ji8 := (i64_w _).trans hji8
 by_cases c9 : 0 ≤ (ji8)
 rotate_left
 ·rw [if_neg c9] at H
  exact absurd H (by simp)
 rw [if_pos c9] at H
 have c9b0 : decide (0 ≤ (ji8)) = true := decide_eq_true c9
 clear c9
 by_cases c10 : (ji8) < (x0_2.length : Int)
 rotate_left
 ·rw [if_neg c10] at H
  exact absurd H (by simp)
 rw [if_pos c10] at H
 have c10b0 : decide ((ji8) < (x0_2.length : Int)) = true := decide_eq_true c10
 clear c10
 replace H := Option.bind_eq_some_iff.mp H
 obtain ⟨t129, A110, H⟩ := H
 replace H : (if t129 < 0 then (api_Ep_32.l1 k2 ((x0_2.set (x9_2 : Int).toNat (⟨(rd_T29 x0_2 (ji8)).f0, (rd_T29 x0_2 (ji8)).f1, (rd_T29 x0_2 (ji8)).f2, (rd_T29 x0_2 (ji8)).f3, (rd_T29 x0_2 (ji8)).f4, (rd_T29 x0_2 (ji8)).f5, (rd_T29 x0_2 (ji8)).f6, (rd_T29 x0_2 (ji8)).f7, (rd_T29 x0_2 (ji8)).f8, (rd_T29 x0_2 (ji8)).f9, (rd_T29 x0_2 (ji8)).f10, (rd_T29 x0_2 (ji8)).f11, (rd_T29 x0_2 (ji8)).f12, (rd_T29 x0_2 (ji8)).f13, (rd_T29 x0_2 (ji8)).f14, (rd_T29 x0_2 (ji8)).f15, (rd_T29 x0_2 (ji8)).f16, (rd_T29 x0_2 (ji8)).f17, (rd_T29 x0_2 (ji8)).f18, (rd_T29 x0_2 (ji8)).f19⟩ : S29)).set ((ji8) : Int).toNat (⟨(rd_T29 x0_2 x9_2).f0, (rd_T29 x0_2 x9_2).f1, (rd_T29 x0_2 x9_2).f2, (rd_T29 x0_2 x9_2).f3, (rd_T29 x0_2 x9_2).f4, (rd_T29 x0_2 x9_2).f5, (rd_T29 x0_2 x9_2).f6, (rd_T29 x0_2 x9_2).f7, (rd_T29 x0_2 x9_2).f8, (rd_T29 x0_2 x9_2).f9, (rd_T29 x0_2 x9_2).f10, (rd_T29 x0_2 x9_2).f11, (rd_T29 x0_2 x9_2).f12, (rd_T29 x0_2 x9_2).f13, (rd_T29 x0_2 x9_2).f14, (rd_T29 x0_2 x9_2).f15, (rd_T29 x0_2 x9_2).f16, (rd_T29 x0_2 x9_2).f17, (rd_T29 x0_2 x9_2).f18, (rd_T29 x0_2 x9_2).f19⟩ : S29)) a1 a2 x8_1 ji8) else (api_Ep_32.l0 k2 x0_2 a1 a2 (wrap64 (x8_1 + 1)))) = some r := H
 have A11 := mkA A110
 clear A110
 by_cases c12 : t129 < 0
 rotate_left
 ·rw [if_neg c12] at H
  have c12b0 : decide (t129 < 0) = false := decide_eq_false c12
  clear c12
  as_aux_lemma =>
   have H' := mkA H
   clear H
   try go_wp2
   have n0_ := mkA (Kd.R_drew HO_0.out)
   have n1_ := mkA (Kept.drew HK.out)
   have n2_ := mkA (below_drew1 HB.out)
   clear HO_0 HK HB
   have HO_0 := n0_
   have HK := n1_
   have HB := n2_
   clear n0_ n1_ n2_
   obtain ⟨Ao22, co22, eo22⟩ := Kd.R_slice HO_0.out
   (first | subst eo22 | (injection eo22 with f1_ f2_ f3_; have f4_ := f1_.symm; have f5_ := f3_.symm; clear f1_ f2_ f3_; subst f4_; subst f5_))
   have p127 : 0 ≤ (x9_2 : Int) := odt
   have q127 : x9_2 < (x0_2.length : Int) := odt
   obtain ⟨ad127, e127, hx127_0, hx127_1, hx127_2, hx127_3, hx127_4, hx127_5, hx127_6, hx127_7, hx127_8, hx127_9, hx127_10, hx127_11, hx127_12, hx127_13, hx127_14, hx127_15, hx127_16, hx127_17, hx127_18, hx127_19⟩ := at_T29 (Kd.R_reads' HO_0.out).2.2 x9_2 p127 q127
   cases e127
   replace p127 := eq_true p127
   replace q127 := eq_true q127
   have p128 : 0 ≤ ((ji8) : Int) := odt
   have q128 : (ji8) < (x0_2.length : Int) := odt
   obtain ⟨ad128, e128, hx128_0, hx128_1, hx128_2, hx128_3, hx128_4, hx128_5, hx128_6, hx128_7, hx128_8, hx128_9, hx128_10, hx128_11, hx128_12, hx128_13, hx128_14, hx128_15, hx128_16, hx128_17, hx128_18, hx128_19⟩ := at_T29 (Kd.R_reads' HO_0.out).2.2 (ji8) p128 q128
   obtain rfl : ad127 = ad128 := (by injection e128)
   replace p128 := eq_true p128
   replace q128 := eq_true q128
   refine start_ (n := 17) (S := fun w' => cj29 w' (ad127.add ((x9_2).toNat * 20)) (rd_T29 x0_2 x9_2) <| ce29 w' (ad127.add (((ji8)).toNat * 20)) (rd_T29 x0_2 (ji8))) (ds := []) #[false, false, false, false, false, false, false, false, false, false, false, false, false, false, false, false, false] (by kernel_rfl) rfl rfl ⟨hx127_0, hx127_1, hx127_2, hx127_3, hx127_4, hx127_5, hx127_6, hx127_7, hx127_8, hx127_9, hx127_10, hx127_11, hx127_12, hx127_13, hx127_14, hx127_15, hx127_16, hx127_17, hx127_18, hx127_19, hx128_0, hx128_1, hx128_2, hx128_3, hx128_4, hx128_5, hx128_6, hx128_7, hx128_8, hx128_9, hx128_10, hx128_11, hx128_12, hx128_13, hx128_14, hx128_15, hx128_16, hx128_17, hx128_18, hx128_19⟩ (fun hHeld => ?_); refine with_tabW api_Ep_32.tab4 api_Ep_32.bits4 (fun HT_ HW_ => ?_)
   generalize wr.drew = w21 at HO_0 HK HB hx127_0 hx127_1 hx127_10 hx127_11 hx127_12 hx127_13 hx127_14 hx127_15 hx127_16 hx127_17 hx127_18 hx127_19 hx127_2 hx127_3 hx127_4 hx127_5 hx127_6 hx127_7 hx127_8 hx127_9 hx128_0 hx128_1 hx128_10 hx128_11 hx128_12 hx128_13 hx128_14 hx128_15 hx128_16 hx128_17 hx128_18 hx128_19 hx128_2 hx128_3 hx128_4 hx128_5 hx128_6 hx128_7 hx128_8 hx128_9 hHeld ⊢
   refine pu 0 18 HT_ ?_
   refine pu 1 19 HT_ ?_
   refine pu 2 20 HT_ ?_
   refine pu 3 21 HT_ ?_
   refine pu 4 22 HT_ ?_
   refine pu 5 23 HT_ ?_
   refine pu 6 24 HT_ ?_
   refine pu 7 25 HT_ ?_
   refine pu 9 27 HT_ ?_
   refine pu 10 28 HT_ ?_
   refine pu 11 29 HT_ ?_
   refine pu 12 30 HT_ ?_
   refine take_ (i := 8) (N := some 26) (v := ?_) (a' := ?_) #[true, true, true, true, true, true, true, true, true, true, true, true, true, false, false, false, false] rfl rfl (take_ofW HT_.out HW_.out (by kernel_rfl)) (fun _ _ _ h => h) (Or.inl ⟨by rfl, ?_⟩) hHeld ?_ ?_
   rotate_left
   ·rintro w' ⟨s0, s1, s2, s3, s4, s5, s6, s7, s8, s9, s10, s11, s12, s13, s14, s15, s16, s17, s18, s19, s20, s21, s22, s23, s24, s25, s26, s27, s28, s29, s30, s31, s32, s33, s34, s35, s36, s37, s38, s39⟩
    first | (have hz_ := fun (a : Act) (o : Oper) (x : Operand) (ho : o.op = .load 29 x) (hx : a.eval x = _) => exec_load_at (P := Try.prog) (W := w') (cs := [_, _, _, _, _, _, _, _, _, _, _, _, _, _, _, _, _, _, _]) ho hx Try.underlying29 rfl (by kernel_rfl) s0 ⟨s1, s2, s3, s4, s5, s6, s7, s8, s9, s10, s11, s12, s13, s14, s15, s16, s17, s18, s19, trivial⟩; refine (hz_ _ _ (.tmp 25) ?_ ?_).trans ?_; (focus rfl); (focus (first | (with_reducible rfl) | (go_simp; done))); with_reducible rfl) | (have hz_ := fun (a : Act) (o : Oper) (x : Operand) (ho : o.op = .load 29 x) (hx : a.eval x = _) => exec_load_at (P := Try.prog) (W := w') (cs := [_, _, _, _, _, _, _, _, _, _, _, _, _, _, _, _, _, _, _]) ho hx Try.underlying29 rfl (by kernel_rfl) s20 ⟨s21, s22, s23, s24, s25, s26, s27, s28, s29, s30, s31, s32, s33, s34, s35, s36, s37, s38, s39, trivial⟩; refine (hz_ _ _ (.tmp 25) ?_ ?_).trans ?_; (focus rfl); (focus (first | (with_reducible rfl) | (go_simp; done))); with_reducible rfl) | (go_simp; with_reducible rfl)
   rotate_left
   ·simp only [Act.put, sA, s0, sS, i64_w, i32_w]
    rfl
   refine take_ (i := 13) (N := some 31) (v := ?_) (a' := ?_) #[true, true, true, true, true, true, true, true, true, true, true, true, true, true, false, false, false] rfl rfl (take_ofW HT_.out HW_.out (by kernel_rfl)) (fun _ _ _ h => h) (Or.inl ⟨by rfl, ?_⟩) hHeld ?_ ?_
   rotate_left
   ·rintro w' ⟨s0, s1, s2, s3, s4, s5, s6, s7, s8, s9, s10, s11, s12, s13, s14, s15, s16, s17, s18, s19, s20, s21, s22, s23, s24, s25, s26, s27, s28, s29, s30, s31, s32, s33, s34, s35, s36, s37, s38, s39⟩
    first | (have hz_ := fun (a : Act) (o : Oper) (x : Operand) (ho : o.op = .load 29 x) (hx : a.eval x = _) => exec_load_at (P := Try.prog) (W := w') (cs := [_, _, _, _, _, _, _, _, _, _, _, _, _, _, _, _, _, _, _]) ho hx Try.underlying29 rfl (by kernel_rfl) s0 ⟨s1, s2, s3, s4, s5, s6, s7, s8, s9, s10, s11, s12, s13, s14, s15, s16, s17, s18, s19, trivial⟩; refine (hz_ _ _ (.tmp 30) ?_ ?_).trans ?_; (focus rfl); (focus (first | (with_reducible rfl) | (go_simp; done))); with_reducible rfl) | (have hz_ := fun (a : Act) (o : Oper) (x : Operand) (ho : o.op = .load 29 x) (hx : a.eval x = _) => exec_load_at (P := Try.prog) (W := w') (cs := [_, _, _, _, _, _, _, _, _, _, _, _, _, _, _, _, _, _, _]) ho hx Try.underlying29 rfl (by kernel_rfl) s20 ⟨s21, s22, s23, s24, s25, s26, s27, s28, s29, s30, s31, s32, s33, s34, s35, s36, s37, s38, s39, trivial⟩; refine (hz_ _ _ (.tmp 30) ?_ ?_).trans ?_; (focus rfl); (focus (first | (with_reducible rfl) | (go_simp; done))); with_reducible rfl) | (go_simp; with_reducible rfl)
   rotate_left
   ·simp only [Act.put, sA, s0, sS, i64_w, i32_w]
    rfl
   refine one_ (i := 14) (N := some 32) #[true, true, true, true, true, true, true, true, true, true, true, true, true, true, true, false, false] rfl rfl (one_of HT_.out (by kernel_rfl)) (by decide) (fun K hK => ?_)
   refine goesW_ Try.func22 (by kernel_rfl) rfl #[.agg #[.int .i64 ((rd_T29 x0_2 x9_2).f0), .int .i64 ((rd_T29 x0_2 x9_2).f1), .string ((rd_T29 x0_2 x9_2).f2), .string ((rd_T29 x0_2 x9_2).f3), .string ((rd_T29 x0_2 x9_2).f4), .int .i64 ((rd_T29 x0_2 x9_2).f5), .int .i64 ((rd_T29 x0_2 x9_2).f6), .int .i64 ((rd_T29 x0_2 x9_2).f7), .int .i64 ((rd_T29 x0_2 x9_2).f8), .bool ((rd_T29 x0_2 x9_2).f9), .int .i64 ((rd_T29 x0_2 x9_2).f10), .int .i64 ((rd_T29 x0_2 x9_2).f11), .int .i64 ((rd_T29 x0_2 x9_2).f12), .string ((rd_T29 x0_2 x9_2).f13), .int .i64 ((rd_T29 x0_2 x9_2).f14), .int .i64 ((rd_T29 x0_2 x9_2).f15), .string ((rd_T29 x0_2 x9_2).f16), .int .i64 ((rd_T29 x0_2 x9_2).f17), .int .i64 ((rd_T29 x0_2 x9_2).f18), .string ((rd_T29 x0_2 x9_2).f19)], .agg #[.int .i64 ((rd_T29 x0_2 (ji8)).f0), .int .i64 ((rd_T29 x0_2 (ji8)).f1), .string ((rd_T29 x0_2 (ji8)).f2), .string ((rd_T29 x0_2 (ji8)).f3), .string ((rd_T29 x0_2 (ji8)).f4), .int .i64 ((rd_T29 x0_2 (ji8)).f5), .int .i64 ((rd_T29 x0_2 (ji8)).f6), .int .i64 ((rd_T29 x0_2 (ji8)).f7), .int .i64 ((rd_T29 x0_2 (ji8)).f8), .bool ((rd_T29 x0_2 (ji8)).f9), .int .i64 ((rd_T29 x0_2 (ji8)).f10), .int .i64 ((rd_T29 x0_2 (ji8)).f11), .int .i64 ((rd_T29 x0_2 (ji8)).f12), .string ((rd_T29 x0_2 (ji8)).f13), .int .i64 ((rd_T29 x0_2 (ji8)).f14), .int .i64 ((rd_T29 x0_2 (ji8)).f15), .string ((rd_T29 x0_2 (ji8)).f16), .int .i64 ((rd_T29 x0_2 (ji8)).f17), .int .i64 ((rd_T29 x0_2 (ji8)).f18), .string ((rd_T29 x0_2 (ji8)).f19)]] (by rfl) rfl rfl (by first | rfl | (go_simp; done)) (by (try simp only [List.map_toArray, List.map_cons, List.map_nil]); first | done | (simp only [hji8]; rfl) | rfl | (simp only [List.length_drop, List.length_take]; rfl)) ?_
   with_reducible refine (retain_older.calls _ _ _ _ _ _ _ _ _ _ _ _ _ _ _ _ _ _ _ _ _ _ _ _ _ _ _ _ _ _ _ _ _ _ _ _ _ _ _ _ _ _ _ A11.out).mono ?_
   rintro e w23 ⟨rfl, hb⟩
   have hbk_w23 := mkA hb
   have HS0_ := hs_ hb hHeld.1
   have HS1_ := hs_ hb hHeld.2.1
   have HS2_ := hs_ hb hHeld.2.2.1
   have HS3_ := hs_ hb hHeld.2.2.2.1
   have HS4_ := hs_ hb hHeld.2.2.2.2.1
   have HS5_ := hs_ hb hHeld.2.2.2.2.2.1
   have HS6_ := hs_ hb hHeld.2.2.2.2.2.2.1
   have HS7_ := hs_ hb hHeld.2.2.2.2.2.2.2.1
   have HS8_ := hs_ hb hHeld.2.2.2.2.2.2.2.2.1
   have HS9_ := hs_ hb hHeld.2.2.2.2.2.2.2.2.2.1
   have HS10_ := hs_ hb hHeld.2.2.2.2.2.2.2.2.2.2.1
   have HS11_ := hs_ hb hHeld.2.2.2.2.2.2.2.2.2.2.2.1
   have HS12_ := hs_ hb hHeld.2.2.2.2.2.2.2.2.2.2.2.2.1
   have HS13_ := hs_ hb hHeld.2.2.2.2.2.2.2.2.2.2.2.2.2.1
   have HS14_ := hs_ hb hHeld.2.2.2.2.2.2.2.2.2.2.2.2.2.2.1
   have HS15_ := hs_ hb hHeld.2.2.2.2.2.2.2.2.2.2.2.2.2.2.2.1
   have HS16_ := hs_ hb hHeld.2.2.2.2.2.2.2.2.2.2.2.2.2.2.2.2.1
   have HS17_ := hs_ hb hHeld.2.2.2.2.2.2.2.2.2.2.2.2.2.2.2.2.2.1
   have HS18_ := hs_ hb hHeld.2.2.2.2.2.2.2.2.2.2.2.2.2.2.2.2.2.2.1
   have HS19_ := hs_ hb hHeld.2.2.2.2.2.2.2.2.2.2.2.2.2.2.2.2.2.2.2.1
   have HS20_ := hs_ hb hHeld.2.2.2.2.2.2.2.2.2.2.2.2.2.2.2.2.2.2.2.2.1
   have HS21_ := hs_ hb hHeld.2.2.2.2.2.2.2.2.2.2.2.2.2.2.2.2.2.2.2.2.2.1
   have HS22_ := hs_ hb hHeld.2.2.2.2.2.2.2.2.2.2.2.2.2.2.2.2.2.2.2.2.2.2.1
   have HS23_ := hs_ hb hHeld.2.2.2.2.2.2.2.2.2.2.2.2.2.2.2.2.2.2.2.2.2.2.2.1
   have HS24_ := hs_ hb hHeld.2.2.2.2.2.2.2.2.2.2.2.2.2.2.2.2.2.2.2.2.2.2.2.2.1
   have HS25_ := hs_ hb hHeld.2.2.2.2.2.2.2.2.2.2.2.2.2.2.2.2.2.2.2.2.2.2.2.2.2.1
   have HS26_ := hs_ hb hHeld.2.2.2.2.2.2.2.2.2.2.2.2.2.2.2.2.2.2.2.2.2.2.2.2.2.2.1
   have HS27_ := hs_ hb hHeld.2.2.2.2.2.2.2.2.2.2.2.2.2.2.2.2.2.2.2.2.2.2.2.2.2.2.2.1
   have HS28_ := hs_ hb hHeld.2.2.2.2.2.2.2.2.2.2.2.2.2.2.2.2.2.2.2.2.2.2.2.2.2.2.2.2.1
   have HS29_ := hs_ hb hHeld.2.2.2.2.2.2.2.2.2.2.2.2.2.2.2.2.2.2.2.2.2.2.2.2.2.2.2.2.2.1
   have HS30_ := hs_ hb hHeld.2.2.2.2.2.2.2.2.2.2.2.2.2.2.2.2.2.2.2.2.2.2.2.2.2.2.2.2.2.2.1
   have HS31_ := hs_ hb hHeld.2.2.2.2.2.2.2.2.2.2.2.2.2.2.2.2.2.2.2.2.2.2.2.2.2.2.2.2.2.2.2.1
   have HS32_ := hs_ hb hHeld.2.2.2.2.2.2.2.2.2.2.2.2.2.2.2.2.2.2.2.2.2.2.2.2.2.2.2.2.2.2.2.2.1
   have HS33_ := hs_ hb hHeld.2.2.2.2.2.2.2.2.2.2.2.2.2.2.2.2.2.2.2.2.2.2.2.2.2.2.2.2.2.2.2.2.2.1
   have HS34_ := hs_ hb hHeld.2.2.2.2.2.2.2.2.2.2.2.2.2.2.2.2.2.2.2.2.2.2.2.2.2.2.2.2.2.2.2.2.2.2.1
   have HS35_ := hs_ hb hHeld.2.2.2.2.2.2.2.2.2.2.2.2.2.2.2.2.2.2.2.2.2.2.2.2.2.2.2.2.2.2.2.2.2.2.2.1
   have HS36_ := hs_ hb hHeld.2.2.2.2.2.2.2.2.2.2.2.2.2.2.2.2.2.2.2.2.2.2.2.2.2.2.2.2.2.2.2.2.2.2.2.2.1
   have HS37_ := hs_ hb hHeld.2.2.2.2.2.2.2.2.2.2.2.2.2.2.2.2.2.2.2.2.2.2.2.2.2.2.2.2.2.2.2.2.2.2.2.2.2.1
   have HS38_ := hs_ hb hHeld.2.2.2.2.2.2.2.2.2.2.2.2.2.2.2.2.2.2.2.2.2.2.2.2.2.2.2.2.2.2.2.2.2.2.2.2.2.2.1
   have HS39_ := hs_ hb hHeld.2.2.2.2.2.2.2.2.2.2.2.2.2.2.2.2.2.2.2.2.2.2.2.2.2.2.2.2.2.2.2.2.2.2.2.2.2.2.2
   refine ⟨_, rfl, ?_⟩
   have n0_ := mkA (Kd.R_below (Kd.R_y HO_0.out) hb)
   have n1_ := mkA (Kept.below (S := (fun k_ => P0_ k_)) (by repeat (first | (with_reducible first | exact HK.out | apply Kept.alloc | apply Kept.drewN | apply Kept.drew) | exact HK.out)) hb)
   have n2_ := mkA (below_step (below_y HB.out) hb)
   clear HO_0 HK HB
   have HO_0 := n0_
   have HK := n1_
   have HB := n2_
   clear n0_ n1_ n2_
   (try clear hb)
   (try clear hb2)
   (try clear hk)
   (try clear hi)
   refine hK.out _ _ ⟨HS0_, HS1_, HS2_, HS3_, HS4_, HS5_, HS6_, HS7_, HS8_, HS9_, HS10_, HS11_, HS12_, HS13_, HS14_, HS15_, HS16_, HS17_, HS18_, HS19_, HS20_, HS21_, HS22_, HS23_, HS24_, HS25_, HS26_, HS27_, HS28_, HS29_, HS30_, HS31_, HS32_, HS33_, HS34_, HS35_, HS36_, HS37_, HS38_, HS39_⟩ (fun hHeld => ?_)
   clear hK K
   refine norm_ (a' := ?_) ?_ ?_
   rotate_left
   ·show Act.put _ (some 32) _ = _
    simp only [Act.put, sA, s0, sS, i64_w, i32_w]
    rfl
   refine pu 15 33 HT_ ?_
   refine pu 16 34 HT_ ?_
   refine done_ (done_of HT_.out (by kernel_rfl)) ?_
   try go_wp2
   go_roundg k2
   case measure => have := HK1.out; have := HK2.out; omega
   case rel => exact ⟨(x0_2), (wrap64 (x8_1 + 1)), (by first | rfl | (simp; done) | (simp [*]; done)), H', ⟨by have := HK1.out; have := HK2.out; omega⟩, ⟨by (with_reducible repeat (first | apply Kd.R_alloc | apply Kd.R_drewN | apply Kd.R_drew)); exact HO_0.out⟩, ⟨by repeat (first | (with_reducible first | exact HK.out | apply Kept.alloc | apply Kept.drewN | apply Kept.drew) | exact HK.out)⟩, ⟨below_y HB.out⟩⟩
 rw [if_pos c12] at H
 have c12b0 : decide (t129 < 0) = true := decide_eq_true c12
 clear c12
 obtain ⟨y132, hy132⟩ : ∃ y_ : List (S29), y_ = (x0_2.set (x9_2 : Int).toNat (⟨(rd_T29 x0_2 (ji8)).f0, (rd_T29 x0_2 (ji8)).f1, (rd_T29 x0_2 (ji8)).f2, (rd_T29 x0_2 (ji8)).f3, (rd_T29 x0_2 (ji8)).f4, (rd_T29 x0_2 (ji8)).f5, (rd_T29 x0_2 (ji8)).f6, (rd_T29 x0_2 (ji8)).f7, (rd_T29 x0_2 (ji8)).f8, (rd_T29 x0_2 (ji8)).f9, (rd_T29 x0_2 (ji8)).f10, (rd_T29 x0_2 (ji8)).f11, (rd_T29 x0_2 (ji8)).f12, (rd_T29 x0_2 (ji8)).f13, (rd_T29 x0_2 (ji8)).f14, (rd_T29 x0_2 (ji8)).f15, (rd_T29 x0_2 (ji8)).f16, (rd_T29 x0_2 (ji8)).f17, (rd_T29 x0_2 (ji8)).f18, (rd_T29 x0_2 (ji8)).f19⟩ : S29)) := ⟨_, rfl⟩
 replace H : (api_Ep_32.l1 k2 (y132.set ((ji8) : Int).toNat (⟨(rd_T29 x0_2 x9_2).f0, (rd_T29 x0_2 x9_2).f1, (rd_T29 x0_2 x9_2).f2, (rd_T29 x0_2 x9_2).f3, (rd_T29 x0_2 x9_2).f4, (rd_T29 x0_2 x9_2).f5, (rd_T29 x0_2 x9_2).f6, (rd_T29 x0_2 x9_2).f7, (rd_T29 x0_2 x9_2).f8, (rd_T29 x0_2 x9_2).f9, (rd_T29 x0_2 x9_2).f10, (rd_T29 x0_2 x9_2).f11, (rd_T29 x0_2 x9_2).f12, (rd_T29 x0_2 x9_2).f13, (rd_T29 x0_2 x9_2).f14, (rd_T29 x0_2 x9_2).f15, (rd_T29 x0_2 x9_2).f16, (rd_T29 x0_2 x9_2).f17, (rd_T29 x0_2 x9_2).f18, (rd_T29 x0_2 x9_2).f19⟩ : S29)) a1 a2 x8_1 ji8) = some r := by first | (rw [hy132]; with_reducible exact H) | (have H2_ := (Option.bind_some _ _).symm.trans H; rw [hy132]; with_reducible exact H2_) | (have H2_ := (Option.bind_some _ _).symm.trans H; with_reducible exact H2_) | with_reducible exact H | (rw [hy132]; exact H) | exact H
 have Ny132 := mkA hy132
 clear hy132
 obtain ⟨y133, hy133⟩ : ∃ y_ : List (S29), y_ = (y132.set ((ji8) : Int).toNat (⟨(rd_T29 x0_2 x9_2).f0, (rd_T29 x0_2 x9_2).f1, (rd_T29 x0_2 x9_2).f2, (rd_T29 x0_2 x9_2).f3, (rd_T29 x0_2 x9_2).f4, (rd_T29 x0_2 x9_2).f5, (rd_T29 x0_2 x9_2).f6, (rd_T29 x0_2 x9_2).f7, (rd_T29 x0_2 x9_2).f8, (rd_T29 x0_2 x9_2).f9, (rd_T29 x0_2 x9_2).f10, (rd_T29 x0_2 x9_2).f11, (rd_T29 x0_2 x9_2).f12, (rd_T29 x0_2 x9_2).f13, (rd_T29 x0_2 x9_2).f14, (rd_T29 x0_2 x9_2).f15, (rd_T29 x0_2 x9_2).f16, (rd_T29 x0_2 x9_2).f17, (rd_T29 x0_2 x9_2).f18, (rd_T29 x0_2 x9_2).f19⟩ : S29)) := ⟨_, rfl⟩
 replace H : (api_Ep_32.l1 k2 y133 a1 a2 x8_1 ji8) = some r := by first | (rw [hy133]; with_reducible exact H) | (have H2_ := (Option.bind_some _ _).symm.trans H; rw [hy133]; with_reducible exact H2_) | (have H2_ := (Option.bind_some _ _).symm.trans H; with_reducible exact H2_) | with_reducible exact H | (rw [hy133]; exact H) | exact H
 have Ny133 := mkA hy133
 clear hy133
 as_aux_lemma =>
  have H' := mkA H
  clear H
  try go_wp2
  have n0_ := mkA (Kd.R_drew HO_0.out)
  have n1_ := mkA (Kept.drew HK.out)
  have n2_ := mkA (below_drew1 HB.out)
  clear HO_0 HK HB
  have HO_0 := n0_
  have HK := n1_
  have HB := n2_
  clear n0_ n1_ n2_
  obtain ⟨Ao16, co16, eo16⟩ := Kd.R_slice HO_0.out
  (first | subst eo16 | (injection eo16 with f1_ f2_ f3_; have f4_ := f1_.symm; have f5_ := f3_.symm; clear f1_ f2_ f3_; subst f4_; subst f5_))
  have p127 : 0 ≤ (x9_2 : Int) := odt
  have q127 : x9_2 < (x0_2.length : Int) := odt
  obtain ⟨ad127, e127, hx127_0, hx127_1, hx127_2, hx127_3, hx127_4, hx127_5, hx127_6, hx127_7, hx127_8, hx127_9, hx127_10, hx127_11, hx127_12, hx127_13, hx127_14, hx127_15, hx127_16, hx127_17, hx127_18, hx127_19⟩ := at_T29 (Kd.R_reads' HO_0.out).2.2 x9_2 p127 q127
  cases e127
  replace p127 := eq_true p127
  replace q127 := eq_true q127
  have p128 : 0 ≤ ((ji8) : Int) := odt
  have q128 : (ji8) < (x0_2.length : Int) := odt
  obtain ⟨ad128, e128, hx128_0, hx128_1, hx128_2, hx128_3, hx128_4, hx128_5, hx128_6, hx128_7, hx128_8, hx128_9, hx128_10, hx128_11, hx128_12, hx128_13, hx128_14, hx128_15, hx128_16, hx128_17, hx128_18, hx128_19⟩ := at_T29 (Kd.R_reads' HO_0.out).2.2 (ji8) p128 q128
  obtain rfl : ad127 = ad128 := (by injection e128)
  replace p128 := eq_true p128
  replace q128 := eq_true q128
  refine start_ (n := 17) (S := fun w' => cj29 w' (ad127.add ((x9_2).toNat * 20)) (rd_T29 x0_2 x9_2) <| ce29 w' (ad127.add (((ji8)).toNat * 20)) (rd_T29 x0_2 (ji8))) (ds := []) #[false, false, false, false, false, false, false, false, false, false, false, false, false, false, false, false, false] (by kernel_rfl) rfl rfl ⟨hx127_0, hx127_1, hx127_2, hx127_3, hx127_4, hx127_5, hx127_6, hx127_7, hx127_8, hx127_9, hx127_10, hx127_11, hx127_12, hx127_13, hx127_14, hx127_15, hx127_16, hx127_17, hx127_18, hx127_19, hx128_0, hx128_1, hx128_2, hx128_3, hx128_4, hx128_5, hx128_6, hx128_7, hx128_8, hx128_9, hx128_10, hx128_11, hx128_12, hx128_13, hx128_14, hx128_15, hx128_16, hx128_17, hx128_18, hx128_19⟩ (fun hHeld => ?_); refine with_tabW api_Ep_32.tab4 api_Ep_32.bits4 (fun HT_ HW_ => ?_)
  generalize wr.drew = w15 at HO_0 HK HB hx127_0 hx127_1 hx127_10 hx127_11 hx127_12 hx127_13 hx127_14 hx127_15 hx127_16 hx127_17 hx127_18 hx127_19 hx127_2 hx127_3 hx127_4 hx127_5 hx127_6 hx127_7 hx127_8 hx127_9 hx128_0 hx128_1 hx128_10 hx128_11 hx128_12 hx128_13 hx128_14 hx128_15 hx128_16 hx128_17 hx128_18 hx128_19 hx128_2 hx128_3 hx128_4 hx128_5 hx128_6 hx128_7 hx128_8 hx128_9 hHeld ⊢
  refine pu 0 18 HT_ ?_
  refine pu 1 19 HT_ ?_
  refine pu 2 20 HT_ ?_
  refine pu 3 21 HT_ ?_
  refine pu 4 22 HT_ ?_
  refine pu 5 23 HT_ ?_
  refine pu 6 24 HT_ ?_
  refine pu 7 25 HT_ ?_
  refine pu 9 27 HT_ ?_
  refine pu 10 28 HT_ ?_
  refine pu 11 29 HT_ ?_
  refine pu 12 30 HT_ ?_
  refine take_ (i := 8) (N := some 26) (v := ?_) (a' := ?_) #[true, true, true, true, true, true, true, true, true, true, true, true, true, false, false, false, false] rfl rfl (take_ofW HT_.out HW_.out (by kernel_rfl)) (fun _ _ _ h => h) (Or.inl ⟨by rfl, ?_⟩) hHeld ?_ ?_
  rotate_left
  ·rintro w' ⟨s0, s1, s2, s3, s4, s5, s6, s7, s8, s9, s10, s11, s12, s13, s14, s15, s16, s17, s18, s19, s20, s21, s22, s23, s24, s25, s26, s27, s28, s29, s30, s31, s32, s33, s34, s35, s36, s37, s38, s39⟩
   first | (have hz_ := fun (a : Act) (o : Oper) (x : Operand) (ho : o.op = .load 29 x) (hx : a.eval x = _) => exec_load_at (P := Try.prog) (W := w') (cs := [_, _, _, _, _, _, _, _, _, _, _, _, _, _, _, _, _, _, _]) ho hx Try.underlying29 rfl (by kernel_rfl) s0 ⟨s1, s2, s3, s4, s5, s6, s7, s8, s9, s10, s11, s12, s13, s14, s15, s16, s17, s18, s19, trivial⟩; refine (hz_ _ _ (.tmp 25) ?_ ?_).trans ?_; (focus rfl); (focus (first | (with_reducible rfl) | (go_simp; done))); with_reducible rfl) | (have hz_ := fun (a : Act) (o : Oper) (x : Operand) (ho : o.op = .load 29 x) (hx : a.eval x = _) => exec_load_at (P := Try.prog) (W := w') (cs := [_, _, _, _, _, _, _, _, _, _, _, _, _, _, _, _, _, _, _]) ho hx Try.underlying29 rfl (by kernel_rfl) s20 ⟨s21, s22, s23, s24, s25, s26, s27, s28, s29, s30, s31, s32, s33, s34, s35, s36, s37, s38, s39, trivial⟩; refine (hz_ _ _ (.tmp 25) ?_ ?_).trans ?_; (focus rfl); (focus (first | (with_reducible rfl) | (go_simp; done))); with_reducible rfl) | (go_simp; with_reducible rfl)
  rotate_left
  ·simp only [Act.put, sA, s0, sS, i64_w, i32_w]
   rfl
  refine take_ (i := 13) (N := some 31) (v := ?_) (a' := ?_) #[true, true, true, true, true, true, true, true, true, true, true, true, true, true, false, false, false] rfl rfl (take_ofW HT_.out HW_.out (by kernel_rfl)) (fun _ _ _ h => h) (Or.inl ⟨by rfl, ?_⟩) hHeld ?_ ?_
  rotate_left
  ·rintro w' ⟨s0, s1, s2, s3, s4, s5, s6, s7, s8, s9, s10, s11, s12, s13, s14, s15, s16, s17, s18, s19, s20, s21, s22, s23, s24, s25, s26, s27, s28, s29, s30, s31, s32, s33, s34, s35, s36, s37, s38, s39⟩
   first | (have hz_ := fun (a : Act) (o : Oper) (x : Operand) (ho : o.op = .load 29 x) (hx : a.eval x = _) => exec_load_at (P := Try.prog) (W := w') (cs := [_, _, _, _, _, _, _, _, _, _, _, _, _, _, _, _, _, _, _]) ho hx Try.underlying29 rfl (by kernel_rfl) s0 ⟨s1, s2, s3, s4, s5, s6, s7, s8, s9, s10, s11, s12, s13, s14, s15, s16, s17, s18, s19, trivial⟩; refine (hz_ _ _ (.tmp 30) ?_ ?_).trans ?_; (focus rfl); (focus (first | (with_reducible rfl) | (go_simp; done))); with_reducible rfl) | (have hz_ := fun (a : Act) (o : Oper) (x : Operand) (ho : o.op = .load 29 x) (hx : a.eval x = _) => exec_load_at (P := Try.prog) (W := w') (cs := [_, _, _, _, _, _, _, _, _, _, _, _, _, _, _, _, _, _, _]) ho hx Try.underlying29 rfl (by kernel_rfl) s20 ⟨s21, s22, s23, s24, s25, s26, s27, s28, s29, s30, s31, s32, s33, s34, s35, s36, s37, s38, s39, trivial⟩; refine (hz_ _ _ (.tmp 30) ?_ ?_).trans ?_; (focus rfl); (focus (first | (with_reducible rfl) | (go_simp; done))); with_reducible rfl) | (go_simp; with_reducible rfl)
  rotate_left
  ·simp only [Act.put, sA, s0, sS, i64_w, i32_w]
   rfl
  refine one_ (i := 14) (N := some 32) #[true, true, true, true, true, true, true, true, true, true, true, true, true, true, true, false, false] rfl rfl (one_of HT_.out (by kernel_rfl)) (by decide) (fun K hK => ?_)
  refine goesW_ Try.func22 (by kernel_rfl) rfl #[.agg #[.int .i64 ((rd_T29 x0_2 x9_2).f0), .int .i64 ((rd_T29 x0_2 x9_2).f1), .string ((rd_T29 x0_2 x9_2).f2), .string ((rd_T29 x0_2 x9_2).f3), .string ((rd_T29 x0_2 x9_2).f4), .int .i64 ((rd_T29 x0_2 x9_2).f5), .int .i64 ((rd_T29 x0_2 x9_2).f6), .int .i64 ((rd_T29 x0_2 x9_2).f7), .int .i64 ((rd_T29 x0_2 x9_2).f8), .bool ((rd_T29 x0_2 x9_2).f9), .int .i64 ((rd_T29 x0_2 x9_2).f10), .int .i64 ((rd_T29 x0_2 x9_2).f11), .int .i64 ((rd_T29 x0_2 x9_2).f12), .string ((rd_T29 x0_2 x9_2).f13), .int .i64 ((rd_T29 x0_2 x9_2).f14), .int .i64 ((rd_T29 x0_2 x9_2).f15), .string ((rd_T29 x0_2 x9_2).f16), .int .i64 ((rd_T29 x0_2 x9_2).f17), .int .i64 ((rd_T29 x0_2 x9_2).f18), .string ((rd_T29 x0_2 x9_2).f19)], .agg #[.int .i64 ((rd_T29 x0_2 (ji8)).f0), .int .i64 ((rd_T29 x0_2 (ji8)).f1), .string ((rd_T29 x0_2 (ji8)).f2), .string ((rd_T29 x0_2 (ji8)).f3), .string ((rd_T29 x0_2 (ji8)).f4), .int .i64 ((rd_T29 x0_2 (ji8)).f5), .int .i64 ((rd_T29 x0_2 (ji8)).f6), .int .i64 ((rd_T29 x0_2 (ji8)).f7), .int .i64 ((rd_T29 x0_2 (ji8)).f8), .bool ((rd_T29 x0_2 (ji8)).f9), .int .i64 ((rd_T29 x0_2 (ji8)).f10), .int .i64 ((rd_T29 x0_2 (ji8)).f11), .int .i64 ((rd_T29 x0_2 (ji8)).f12), .string ((rd_T29 x0_2 (ji8)).f13), .int .i64 ((rd_T29 x0_2 (ji8)).f14), .int .i64 ((rd_T29 x0_2 (ji8)).f15), .string ((rd_T29 x0_2 (ji8)).f16), .int .i64 ((rd_T29 x0_2 (ji8)).f17), .int .i64 ((rd_T29 x0_2 (ji8)).f18), .string ((rd_T29 x0_2 (ji8)).f19)]] (by rfl) rfl rfl (by first | rfl | (go_simp; done)) (by (try simp only [List.map_toArray, List.map_cons, List.map_nil]); first | done | (simp only [hji8]; rfl) | rfl | (simp only [List.length_drop, List.length_take]; rfl)) ?_
  with_reducible refine (retain_older.calls _ _ _ _ _ _ _ _ _ _ _ _ _ _ _ _ _ _ _ _ _ _ _ _ _ _ _ _ _ _ _ _ _ _ _ _ _ _ _ _ _ _ _ A11.out).mono ?_
  rintro e w17 ⟨rfl, hb⟩
  have hbk_w17 := mkA hb
  have HS0_ := hs_ hb hHeld.1
  have HS1_ := hs_ hb hHeld.2.1
  have HS2_ := hs_ hb hHeld.2.2.1
  have HS3_ := hs_ hb hHeld.2.2.2.1
  have HS4_ := hs_ hb hHeld.2.2.2.2.1
  have HS5_ := hs_ hb hHeld.2.2.2.2.2.1
  have HS6_ := hs_ hb hHeld.2.2.2.2.2.2.1
  have HS7_ := hs_ hb hHeld.2.2.2.2.2.2.2.1
  have HS8_ := hs_ hb hHeld.2.2.2.2.2.2.2.2.1
  have HS9_ := hs_ hb hHeld.2.2.2.2.2.2.2.2.2.1
  have HS10_ := hs_ hb hHeld.2.2.2.2.2.2.2.2.2.2.1
  have HS11_ := hs_ hb hHeld.2.2.2.2.2.2.2.2.2.2.2.1
  have HS12_ := hs_ hb hHeld.2.2.2.2.2.2.2.2.2.2.2.2.1
  have HS13_ := hs_ hb hHeld.2.2.2.2.2.2.2.2.2.2.2.2.2.1
  have HS14_ := hs_ hb hHeld.2.2.2.2.2.2.2.2.2.2.2.2.2.2.1
  have HS15_ := hs_ hb hHeld.2.2.2.2.2.2.2.2.2.2.2.2.2.2.2.1
  have HS16_ := hs_ hb hHeld.2.2.2.2.2.2.2.2.2.2.2.2.2.2.2.2.1
  have HS17_ := hs_ hb hHeld.2.2.2.2.2.2.2.2.2.2.2.2.2.2.2.2.2.1
  have HS18_ := hs_ hb hHeld.2.2.2.2.2.2.2.2.2.2.2.2.2.2.2.2.2.2.1
  have HS19_ := hs_ hb hHeld.2.2.2.2.2.2.2.2.2.2.2.2.2.2.2.2.2.2.2.1
  have HS20_ := hs_ hb hHeld.2.2.2.2.2.2.2.2.2.2.2.2.2.2.2.2.2.2.2.2.1
  have HS21_ := hs_ hb hHeld.2.2.2.2.2.2.2.2.2.2.2.2.2.2.2.2.2.2.2.2.2.1
  have HS22_ := hs_ hb hHeld.2.2.2.2.2.2.2.2.2.2.2.2.2.2.2.2.2.2.2.2.2.2.1
  have HS23_ := hs_ hb hHeld.2.2.2.2.2.2.2.2.2.2.2.2.2.2.2.2.2.2.2.2.2.2.2.1
  have HS24_ := hs_ hb hHeld.2.2.2.2.2.2.2.2.2.2.2.2.2.2.2.2.2.2.2.2.2.2.2.2.1
  have HS25_ := hs_ hb hHeld.2.2.2.2.2.2.2.2.2.2.2.2.2.2.2.2.2.2.2.2.2.2.2.2.2.1
  have HS26_ := hs_ hb hHeld.2.2.2.2.2.2.2.2.2.2.2.2.2.2.2.2.2.2.2.2.2.2.2.2.2.2.1
  have HS27_ := hs_ hb hHeld.2.2.2.2.2.2.2.2.2.2.2.2.2.2.2.2.2.2.2.2.2.2.2.2.2.2.2.1
  have HS28_ := hs_ hb hHeld.2.2.2.2.2.2.2.2.2.2.2.2.2.2.2.2.2.2.2.2.2.2.2.2.2.2.2.2.1
  have HS29_ := hs_ hb hHeld.2.2.2.2.2.2.2.2.2.2.2.2.2.2.2.2.2.2.2.2.2.2.2.2.2.2.2.2.2.1
  have HS30_ := hs_ hb hHeld.2.2.2.2.2.2.2.2.2.2.2.2.2.2.2.2.2.2.2.2.2.2.2.2.2.2.2.2.2.2.1
  have HS31_ := hs_ hb hHeld.2.2.2.2.2.2.2.2.2.2.2.2.2.2.2.2.2.2.2.2.2.2.2.2.2.2.2.2.2.2.2.1
  have HS32_ := hs_ hb hHeld.2.2.2.2.2.2.2.2.2.2.2.2.2.2.2.2.2.2.2.2.2.2.2.2.2.2.2.2.2.2.2.2.1
  have HS33_ := hs_ hb hHeld.2.2.2.2.2.2.2.2.2.2.2.2.2.2.2.2.2.2.2.2.2.2.2.2.2.2.2.2.2.2.2.2.2.1
  have HS34_ := hs_ hb hHeld.2.2.2.2.2.2.2.2.2.2.2.2.2.2.2.2.2.2.2.2.2.2.2.2.2.2.2.2.2.2.2.2.2.2.1
  have HS35_ := hs_ hb hHeld.2.2.2.2.2.2.2.2.2.2.2.2.2.2.2.2.2.2.2.2.2.2.2.2.2.2.2.2.2.2.2.2.2.2.2.1
  have HS36_ := hs_ hb hHeld.2.2.2.2.2.2.2.2.2.2.2.2.2.2.2.2.2.2.2.2.2.2.2.2.2.2.2.2.2.2.2.2.2.2.2.2.1
  have HS37_ := hs_ hb hHeld.2.2.2.2.2.2.2.2.2.2.2.2.2.2.2.2.2.2.2.2.2.2.2.2.2.2.2.2.2.2.2.2.2.2.2.2.2.1
  have HS38_ := hs_ hb hHeld.2.2.2.2.2.2.2.2.2.2.2.2.2.2.2.2.2.2.2.2.2.2.2.2.2.2.2.2.2.2.2.2.2.2.2.2.2.2.1
  have HS39_ := hs_ hb hHeld.2.2.2.2.2.2.2.2.2.2.2.2.2.2.2.2.2.2.2.2.2.2.2.2.2.2.2.2.2.2.2.2.2.2.2.2.2.2.2
  refine ⟨_, rfl, ?_⟩
  have n0_ := mkA (Kd.R_below (Kd.R_y HO_0.out) hb)
  have n1_ := mkA (Kept.below (S := (fun k_ => P0_ k_)) (by repeat (first | (with_reducible first | exact HK.out | apply Kept.alloc | apply Kept.drewN | apply Kept.drew) | exact HK.out)) hb)
  have n2_ := mkA (below_step (below_y HB.out) hb)
  clear HO_0 HK HB
  have HO_0 := n0_
  have HK := n1_
  have HB := n2_
  clear n0_ n1_ n2_
  (try clear hb)
  (try clear hb2)
  (try clear hk)
  (try clear hi)
  refine hK.out _ _ ⟨HS0_, HS1_, HS2_, HS3_, HS4_, HS5_, HS6_, HS7_, HS8_, HS9_, HS10_, HS11_, HS12_, HS13_, HS14_, HS15_, HS16_, HS17_, HS18_, HS19_, HS20_, HS21_, HS22_, HS23_, HS24_, HS25_, HS26_, HS27_, HS28_, HS29_, HS30_, HS31_, HS32_, HS33_, HS34_, HS35_, HS36_, HS37_, HS38_, HS39_⟩ (fun hHeld => ?_)
  clear hK K
  refine norm_ (a' := ?_) ?_ ?_
  rotate_left
  ·show Act.put _ (some 32) _ = _
   simp only [Act.put, sA, s0, sS, i64_w, i32_w]
   rfl
  refine pu 15 33 HT_ ?_
  refine pu 16 34 HT_ ?_
  refine done_ (done_of HT_.out (by kernel_rfl)) ?_
  try go_wp2
  have n0_ := mkA (Kd.R_drew HO_0.out)
  have n1_ := mkA (Kept.drew HK.out)
  have n2_ := mkA (below_drew1 HB.out)
  clear HO_0 HK HB
  have HO_0 := n0_
  have HK := n1_
  have HB := n2_
  clear n0_ n1_ n2_
  have p130 : 0 ≤ ((ji8) : Int) := odt
  have q130 : (ji8) < (x0_2.length : Int) := odt
  obtain ⟨ad130, e130, hx130_0, hx130_1, hx130_2, hx130_3, hx130_4, hx130_5, hx130_6, hx130_7, hx130_8, hx130_9, hx130_10, hx130_11, hx130_12, hx130_13, hx130_14, hx130_15, hx130_16, hx130_17, hx130_18, hx130_19⟩ := at_T29 (Kd.R_reads' HO_0.out).2.2 (ji8) p130 q130
  obtain rfl : ad127 = ad130 := (by injection e130)
  replace p130 := eq_true p130
  replace q130 := eq_true q130
  have p131 : 0 ≤ (x9_2 : Int) := odt
  have q131 : x9_2 < (x0_2.length : Int) := odt
  obtain ⟨ad131, e131, hx131_0, hx131_1, hx131_2, hx131_3, hx131_4, hx131_5, hx131_6, hx131_7, hx131_8, hx131_9, hx131_10, hx131_11, hx131_12, hx131_13, hx131_14, hx131_15, hx131_16, hx131_17, hx131_18, hx131_19⟩ := at_T29 (Kd.R_reads' HO_0.out).2.2 x9_2 p131 q131
  obtain rfl : ad127 = ad131 := (by injection e131)
  replace p131 := eq_true p131
  replace q131 := eq_true q131
  have p13 : 0 ≤ (x9_2 : Int) := odt
  have q13 : (x9_2 : Int) < ((x0_2.length : Int) : Int) := odt
  obtain ⟨go13, co13, eo13, gb13, gl13, cl13, HG13⟩ := Kd.R_form HO_0.out (by omega)
  (first | cases eo13 | (injection eo13 with ea_ en_ ec_; (first | subst ea_ | (injection ea_ with ea_; subst ea_)); subst ec_; clear en_))
  have GB13 := mkA gb13
  have GG13 := mkA HG13
  clear gb13 gl13 HG13
  have HMgo13 := mkA (show (P0_ go13 ∨ w.heap.size ≤ go13) from (HO_0.out.1 _ rfl))
  (first | simp only [add_plain] at hx127_0 | skip)
  (first | simp only [add_plain] at hx127_1 | skip)
  (first | simp only [add_plain] at hx127_2 | skip)
  (first | simp only [add_plain] at hx127_3 | skip)
  (first | simp only [add_plain] at hx127_4 | skip)
  (first | simp only [add_plain] at hx127_5 | skip)
  (first | simp only [add_plain] at hx127_6 | skip)
  (first | simp only [add_plain] at hx127_7 | skip)
  (first | simp only [add_plain] at hx127_8 | skip)
  (first | simp only [add_plain] at hx127_9 | skip)
  (first | simp only [add_plain] at hx127_10 | skip)
  (first | simp only [add_plain] at hx127_11 | skip)
  (first | simp only [add_plain] at hx127_12 | skip)
  (first | simp only [add_plain] at hx127_13 | skip)
  (first | simp only [add_plain] at hx127_14 | skip)
  (first | simp only [add_plain] at hx127_15 | skip)
  (first | simp only [add_plain] at hx127_16 | skip)
  (first | simp only [add_plain] at hx127_17 | skip)
  (first | simp only [add_plain] at hx127_18 | skip)
  (first | simp only [add_plain] at hx127_19 | skip)
  (first | simp only [add_plain] at hx128_0 | skip)
  (first | simp only [add_plain] at hx128_1 | skip)
  (first | simp only [add_plain] at hx128_2 | skip)
  (first | simp only [add_plain] at hx128_3 | skip)
  (first | simp only [add_plain] at hx128_4 | skip)
  (first | simp only [add_plain] at hx128_5 | skip)
  (first | simp only [add_plain] at hx128_6 | skip)
  (first | simp only [add_plain] at hx128_7 | skip)
  (first | simp only [add_plain] at hx128_8 | skip)
  (first | simp only [add_plain] at hx128_9 | skip)
  (first | simp only [add_plain] at hx128_10 | skip)
  (first | simp only [add_plain] at hx128_11 | skip)
  (first | simp only [add_plain] at hx128_12 | skip)
  (first | simp only [add_plain] at hx128_13 | skip)
  (first | simp only [add_plain] at hx128_14 | skip)
  (first | simp only [add_plain] at hx128_15 | skip)
  (first | simp only [add_plain] at hx128_16 | skip)
  (first | simp only [add_plain] at hx128_17 | skip)
  (first | simp only [add_plain] at hx128_18 | skip)
  (first | simp only [add_plain] at hx128_19 | skip)
  (first | simp only [add_plain] at hx130_0 | skip)
  (first | simp only [add_plain] at hx130_1 | skip)
  (first | simp only [add_plain] at hx130_2 | skip)
  (first | simp only [add_plain] at hx130_3 | skip)
  (first | simp only [add_plain] at hx130_4 | skip)
  (first | simp only [add_plain] at hx130_5 | skip)
  (first | simp only [add_plain] at hx130_6 | skip)
  (first | simp only [add_plain] at hx130_7 | skip)
  (first | simp only [add_plain] at hx130_8 | skip)
  (first | simp only [add_plain] at hx130_9 | skip)
  (first | simp only [add_plain] at hx130_10 | skip)
  (first | simp only [add_plain] at hx130_11 | skip)
  (first | simp only [add_plain] at hx130_12 | skip)
  (first | simp only [add_plain] at hx130_13 | skip)
  (first | simp only [add_plain] at hx130_14 | skip)
  (first | simp only [add_plain] at hx130_15 | skip)
  (first | simp only [add_plain] at hx130_16 | skip)
  (first | simp only [add_plain] at hx130_17 | skip)
  (first | simp only [add_plain] at hx130_18 | skip)
  (first | simp only [add_plain] at hx130_19 | skip)
  (first | simp only [add_plain] at hx131_0 | skip)
  (first | simp only [add_plain] at hx131_1 | skip)
  (first | simp only [add_plain] at hx131_2 | skip)
  (first | simp only [add_plain] at hx131_3 | skip)
  (first | simp only [add_plain] at hx131_4 | skip)
  (first | simp only [add_plain] at hx131_5 | skip)
  (first | simp only [add_plain] at hx131_6 | skip)
  (first | simp only [add_plain] at hx131_7 | skip)
  (first | simp only [add_plain] at hx131_8 | skip)
  (first | simp only [add_plain] at hx131_9 | skip)
  (first | simp only [add_plain] at hx131_10 | skip)
  (first | simp only [add_plain] at hx131_11 | skip)
  (first | simp only [add_plain] at hx131_12 | skip)
  (first | simp only [add_plain] at hx131_13 | skip)
  (first | simp only [add_plain] at hx131_14 | skip)
  (first | simp only [add_plain] at hx131_15 | skip)
  (first | simp only [add_plain] at hx131_16 | skip)
  (first | simp only [add_plain] at hx131_17 | skip)
  (first | simp only [add_plain] at hx131_18 | skip)
  (first | simp only [add_plain] at hx131_19 | skip)
  obtain ⟨ce13, hcl13, hM13, hcc13, hfr13⟩ := Kd.R_elem HO_0.out z29 (x9_2 : Int) p13 q13
  obtain rfl := k29_openM hM13
  have HE13 := mkA (show World.there _ go13 ((x9_2 : Int).toNat * k29.sz + 0) 20 from there_of hcl13 hcc13 hfr13)
  clear hcl13 hcc13 hfr13 hM13
  replace p13 := eq_true p13
  replace q13 := eq_true q13
  obtain ⟨ce19, hcl19, hM19, hcc19, hfr19⟩ := Kd.R_elem HO_0.out z29 (x9_2 : Int) (odt) (by have h_ : (x9_2 : Int) < ((x0_2.length : Int) : Int) := odt; first | exact h_ | (have e_ := (Kd.R_reads' HO_0.out).1; omega) | simpa using h_)
  obtain rfl := k29_openM hM19
  have HP19 := (Kd.R_seg HO_0.out (x9_2 : Int) (odt) (by have h_ : (x9_2 : Int) < ((x0_2.length : Int) : Int) := odt; first | exact h_ | (have e_ := (Kd.R_reads' HO_0.out).1; omega) | simpa using h_) (seg := [.int .i64 ((rd_T29 x0_2 (ji8)).f0), .int .i64 ((rd_T29 x0_2 (ji8)).f1), .string ((rd_T29 x0_2 (ji8)).f2), .string ((rd_T29 x0_2 (ji8)).f3), .string ((rd_T29 x0_2 (ji8)).f4), .int .i64 ((rd_T29 x0_2 (ji8)).f5), .int .i64 ((rd_T29 x0_2 (ji8)).f6), .int .i64 ((rd_T29 x0_2 (ji8)).f7), .int .i64 ((rd_T29 x0_2 (ji8)).f8), .bool ((rd_T29 x0_2 (ji8)).f9), .int .i64 ((rd_T29 x0_2 (ji8)).f10), .int .i64 ((rd_T29 x0_2 (ji8)).f11), .int .i64 ((rd_T29 x0_2 (ji8)).f12), .string ((rd_T29 x0_2 (ji8)).f13), .int .i64 ((rd_T29 x0_2 (ji8)).f14), .int .i64 ((rd_T29 x0_2 (ji8)).f15), .string ((rd_T29 x0_2 (ji8)).f16), .int .i64 ((rd_T29 x0_2 (ji8)).f17), .int .i64 ((rd_T29 x0_2 (ji8)).f18), .string ((rd_T29 x0_2 (ji8)).f19)]) (j := 0) hcl19 hcc19 (show 20 ≤ 20 from by decide) (x' := (⟨(rd_T29 x0_2 (ji8)).f0, (rd_T29 x0_2 (ji8)).f1, (rd_T29 x0_2 (ji8)).f2, (rd_T29 x0_2 (ji8)).f3, (rd_T29 x0_2 (ji8)).f4, (rd_T29 x0_2 (ji8)).f5, (rd_T29 x0_2 (ji8)).f6, (rd_T29 x0_2 (ji8)).f7, (rd_T29 x0_2 (ji8)).f8, (rd_T29 x0_2 (ji8)).f9, (rd_T29 x0_2 (ji8)).f10, (rd_T29 x0_2 (ji8)).f11, (rd_T29 x0_2 (ji8)).f12, (rd_T29 x0_2 (ji8)).f13, (rd_T29 x0_2 (ji8)).f14, (rd_T29 x0_2 (ji8)).f15, (rd_T29 x0_2 (ji8)).f16, (rd_T29 x0_2 (ji8)).f17, (rd_T29 x0_2 (ji8)).f18, (rd_T29 x0_2 (ji8)).f19⟩ : S29)) (k29_mkM _ _ _ (⟨(rd_T29 x0_2 (ji8)).f0, (rd_T29 x0_2 (ji8)).f1, (rd_T29 x0_2 (ji8)).f2, (rd_T29 x0_2 (ji8)).f3, (rd_T29 x0_2 (ji8)).f4, (rd_T29 x0_2 (ji8)).f5, (rd_T29 x0_2 (ji8)).f6, (rd_T29 x0_2 (ji8)).f7, (rd_T29 x0_2 (ji8)).f8, (rd_T29 x0_2 (ji8)).f9, (rd_T29 x0_2 (ji8)).f10, (rd_T29 x0_2 (ji8)).f11, (rd_T29 x0_2 (ji8)).f12, (rd_T29 x0_2 (ji8)).f13, (rd_T29 x0_2 (ji8)).f14, (rd_T29 x0_2 (ji8)).f15, (rd_T29 x0_2 (ji8)).f16, (rd_T29 x0_2 (ji8)).f17, (rd_T29 x0_2 (ji8)).f18, (rd_T29 x0_2 (ji8)).f19⟩ : S29) ) (fun _ hk => hk)).1
  rw [← Ny132.out] at HP19
  have HQ19 := mkA HP19
  clear hcl19 hcc19 hfr19 hM19 HP19
  have p14 : 0 ≤ ((ji8) : Int) := odt
  have q14 : ((ji8) : Int) < ((x0_2.length : Int) : Int) := odt
  obtain ⟨ce14, hcl14, hM14, hcc14, hfr14⟩ := Kd.R_elem HQ19.out z29 ((ji8) : Int) p14 q14
  obtain rfl := k29_openM hM14
  have HE14 := mkA (show World.there _ go13 (((ji8) : Int).toNat * k29.sz + 0) 20 from there_of hcl14 hcc14 hfr14)
  clear hcl14 hcc14 hfr14 hM14
  replace p14 := eq_true p14
  replace q14 := eq_true q14
  obtain ⟨ce20, hcl20, hM20, hcc20, hfr20⟩ := Kd.R_elem HQ19.out z29 ((ji8) : Int) (odt) (by have h_ : ((ji8) : Int) < ((x0_2.length : Int) : Int) := odt; first | exact h_ | (have e_ := (Kd.R_reads' HO_0.out).1; omega) | simpa using h_)
  obtain rfl := k29_openM hM20
  have HP20 := (Kd.R_seg HQ19.out ((ji8) : Int) (odt) (by have h_ : ((ji8) : Int) < ((x0_2.length : Int) : Int) := odt; first | exact h_ | (have e_ := (Kd.R_reads' HO_0.out).1; omega) | simpa using h_) (seg := [.int .i64 ((rd_T29 x0_2 x9_2).f0), .int .i64 ((rd_T29 x0_2 x9_2).f1), .string ((rd_T29 x0_2 x9_2).f2), .string ((rd_T29 x0_2 x9_2).f3), .string ((rd_T29 x0_2 x9_2).f4), .int .i64 ((rd_T29 x0_2 x9_2).f5), .int .i64 ((rd_T29 x0_2 x9_2).f6), .int .i64 ((rd_T29 x0_2 x9_2).f7), .int .i64 ((rd_T29 x0_2 x9_2).f8), .bool ((rd_T29 x0_2 x9_2).f9), .int .i64 ((rd_T29 x0_2 x9_2).f10), .int .i64 ((rd_T29 x0_2 x9_2).f11), .int .i64 ((rd_T29 x0_2 x9_2).f12), .string ((rd_T29 x0_2 x9_2).f13), .int .i64 ((rd_T29 x0_2 x9_2).f14), .int .i64 ((rd_T29 x0_2 x9_2).f15), .string ((rd_T29 x0_2 x9_2).f16), .int .i64 ((rd_T29 x0_2 x9_2).f17), .int .i64 ((rd_T29 x0_2 x9_2).f18), .string ((rd_T29 x0_2 x9_2).f19)]) (j := 0) hcl20 hcc20 (show 20 ≤ 20 from by decide) (x' := (⟨(rd_T29 x0_2 x9_2).f0, (rd_T29 x0_2 x9_2).f1, (rd_T29 x0_2 x9_2).f2, (rd_T29 x0_2 x9_2).f3, (rd_T29 x0_2 x9_2).f4, (rd_T29 x0_2 x9_2).f5, (rd_T29 x0_2 x9_2).f6, (rd_T29 x0_2 x9_2).f7, (rd_T29 x0_2 x9_2).f8, (rd_T29 x0_2 x9_2).f9, (rd_T29 x0_2 x9_2).f10, (rd_T29 x0_2 x9_2).f11, (rd_T29 x0_2 x9_2).f12, (rd_T29 x0_2 x9_2).f13, (rd_T29 x0_2 x9_2).f14, (rd_T29 x0_2 x9_2).f15, (rd_T29 x0_2 x9_2).f16, (rd_T29 x0_2 x9_2).f17, (rd_T29 x0_2 x9_2).f18, (rd_T29 x0_2 x9_2).f19⟩ : S29)) (k29_mkM _ _ _ (⟨(rd_T29 x0_2 x9_2).f0, (rd_T29 x0_2 x9_2).f1, (rd_T29 x0_2 x9_2).f2, (rd_T29 x0_2 x9_2).f3, (rd_T29 x0_2 x9_2).f4, (rd_T29 x0_2 x9_2).f5, (rd_T29 x0_2 x9_2).f6, (rd_T29 x0_2 x9_2).f7, (rd_T29 x0_2 x9_2).f8, (rd_T29 x0_2 x9_2).f9, (rd_T29 x0_2 x9_2).f10, (rd_T29 x0_2 x9_2).f11, (rd_T29 x0_2 x9_2).f12, (rd_T29 x0_2 x9_2).f13, (rd_T29 x0_2 x9_2).f14, (rd_T29 x0_2 x9_2).f15, (rd_T29 x0_2 x9_2).f16, (rd_T29 x0_2 x9_2).f17, (rd_T29 x0_2 x9_2).f18, (rd_T29 x0_2 x9_2).f19⟩ : S29) ) (fun _ hk => hk)).1
  rw [← Ny133.out] at HP20
  have HQ20 := mkA HP20
  clear hcl20 hcc20 hfr20 hM20 HP20
  refine start_ (n := 18) (S := fun w' => w'.cell? ⟨go13, (((ji8)).toNat * 20), none⟩ = some (.int .i64 ((rd_T29 x0_2 (ji8)).f0)) ∧ w'.cell? ⟨go13, (((ji8)).toNat * 20) + 1, none⟩ = some (.int .i64 ((rd_T29 x0_2 (ji8)).f1)) ∧ w'.cell? ⟨go13, (((ji8)).toNat * 20) + 2, none⟩ = some (.string ((rd_T29 x0_2 (ji8)).f2)) ∧ w'.cell? ⟨go13, (((ji8)).toNat * 20) + 3, none⟩ = some (.string ((rd_T29 x0_2 (ji8)).f3)) ∧ w'.cell? ⟨go13, (((ji8)).toNat * 20) + 4, none⟩ = some (.string ((rd_T29 x0_2 (ji8)).f4)) ∧ w'.cell? ⟨go13, (((ji8)).toNat * 20) + 5, none⟩ = some (.int .i64 ((rd_T29 x0_2 (ji8)).f5)) ∧ w'.cell? ⟨go13, (((ji8)).toNat * 20) + 6, none⟩ = some (.int .i64 ((rd_T29 x0_2 (ji8)).f6)) ∧ w'.cell? ⟨go13, (((ji8)).toNat * 20) + 7, none⟩ = some (.int .i64 ((rd_T29 x0_2 (ji8)).f7)) ∧ w'.cell? ⟨go13, (((ji8)).toNat * 20) + 8, none⟩ = some (.int .i64 ((rd_T29 x0_2 (ji8)).f8)) ∧ w'.cell? ⟨go13, (((ji8)).toNat * 20) + 9, none⟩ = some (.bool ((rd_T29 x0_2 (ji8)).f9)) ∧ w'.cell? ⟨go13, (((ji8)).toNat * 20) + 10, none⟩ = some (.int .i64 ((rd_T29 x0_2 (ji8)).f10)) ∧ w'.cell? ⟨go13, (((ji8)).toNat * 20) + 11, none⟩ = some (.int .i64 ((rd_T29 x0_2 (ji8)).f11)) ∧ w'.cell? ⟨go13, (((ji8)).toNat * 20) + 12, none⟩ = some (.int .i64 ((rd_T29 x0_2 (ji8)).f12)) ∧ w'.cell? ⟨go13, (((ji8)).toNat * 20) + 13, none⟩ = some (.string ((rd_T29 x0_2 (ji8)).f13)) ∧ w'.cell? ⟨go13, (((ji8)).toNat * 20) + 14, none⟩ = some (.int .i64 ((rd_T29 x0_2 (ji8)).f14)) ∧ w'.cell? ⟨go13, (((ji8)).toNat * 20) + 15, none⟩ = some (.int .i64 ((rd_T29 x0_2 (ji8)).f15)) ∧ w'.cell? ⟨go13, (((ji8)).toNat * 20) + 16, none⟩ = some (.string ((rd_T29 x0_2 (ji8)).f16)) ∧ w'.cell? ⟨go13, (((ji8)).toNat * 20) + 17, none⟩ = some (.int .i64 ((rd_T29 x0_2 (ji8)).f17)) ∧ w'.cell? ⟨go13, (((ji8)).toNat * 20) + 18, none⟩ = some (.int .i64 ((rd_T29 x0_2 (ji8)).f18)) ∧ w'.cell? ⟨go13, (((ji8)).toNat * 20) + 19, none⟩ = some (.string ((rd_T29 x0_2 (ji8)).f19)) ∧ w'.cell? ⟨go13, ((x9_2).toNat * 20), none⟩ = some (.int .i64 ((rd_T29 x0_2 x9_2).f0)) ∧ w'.cell? ⟨go13, ((x9_2).toNat * 20) + 1, none⟩ = some (.int .i64 ((rd_T29 x0_2 x9_2).f1)) ∧ w'.cell? ⟨go13, ((x9_2).toNat * 20) + 2, none⟩ = some (.string ((rd_T29 x0_2 x9_2).f2)) ∧ w'.cell? ⟨go13, ((x9_2).toNat * 20) + 3, none⟩ = some (.string ((rd_T29 x0_2 x9_2).f3)) ∧ w'.cell? ⟨go13, ((x9_2).toNat * 20) + 4, none⟩ = some (.string ((rd_T29 x0_2 x9_2).f4)) ∧ w'.cell? ⟨go13, ((x9_2).toNat * 20) + 5, none⟩ = some (.int .i64 ((rd_T29 x0_2 x9_2).f5)) ∧ w'.cell? ⟨go13, ((x9_2).toNat * 20) + 6, none⟩ = some (.int .i64 ((rd_T29 x0_2 x9_2).f6)) ∧ w'.cell? ⟨go13, ((x9_2).toNat * 20) + 7, none⟩ = some (.int .i64 ((rd_T29 x0_2 x9_2).f7)) ∧ w'.cell? ⟨go13, ((x9_2).toNat * 20) + 8, none⟩ = some (.int .i64 ((rd_T29 x0_2 x9_2).f8)) ∧ w'.cell? ⟨go13, ((x9_2).toNat * 20) + 9, none⟩ = some (.bool ((rd_T29 x0_2 x9_2).f9)) ∧ w'.cell? ⟨go13, ((x9_2).toNat * 20) + 10, none⟩ = some (.int .i64 ((rd_T29 x0_2 x9_2).f10)) ∧ w'.cell? ⟨go13, ((x9_2).toNat * 20) + 11, none⟩ = some (.int .i64 ((rd_T29 x0_2 x9_2).f11)) ∧ w'.cell? ⟨go13, ((x9_2).toNat * 20) + 12, none⟩ = some (.int .i64 ((rd_T29 x0_2 x9_2).f12)) ∧ w'.cell? ⟨go13, ((x9_2).toNat * 20) + 13, none⟩ = some (.string ((rd_T29 x0_2 x9_2).f13)) ∧ w'.cell? ⟨go13, ((x9_2).toNat * 20) + 14, none⟩ = some (.int .i64 ((rd_T29 x0_2 x9_2).f14)) ∧ w'.cell? ⟨go13, ((x9_2).toNat * 20) + 15, none⟩ = some (.int .i64 ((rd_T29 x0_2 x9_2).f15)) ∧ w'.cell? ⟨go13, ((x9_2).toNat * 20) + 16, none⟩ = some (.string ((rd_T29 x0_2 x9_2).f16)) ∧ w'.cell? ⟨go13, ((x9_2).toNat * 20) + 17, none⟩ = some (.int .i64 ((rd_T29 x0_2 x9_2).f17)) ∧ w'.cell? ⟨go13, ((x9_2).toNat * 20) + 18, none⟩ = some (.int .i64 ((rd_T29 x0_2 x9_2).f18)) ∧ w'.cell? ⟨go13, ((x9_2).toNat * 20) + 19, none⟩ = some (.string ((rd_T29 x0_2 x9_2).f19))) (ds := [15, 17]) #[false, false, false, false, false, false, false, false, false, false, false, false, false, false, false, false, false, false] (by kernel_rfl) rfl rfl ⟨hx130_0, hx130_1, hx130_2, hx130_3, hx130_4, hx130_5, hx130_6, hx130_7, hx130_8, hx130_9, hx130_10, hx130_11, hx130_12, hx130_13, hx130_14, hx130_15, hx130_16, hx130_17, hx130_18, hx130_19, hx131_0, hx131_1, hx131_2, hx131_3, hx131_4, hx131_5, hx131_6, hx131_7, hx131_8, hx131_9, hx131_10, hx131_11, hx131_12, hx131_13, hx131_14, hx131_15, hx131_16, hx131_17, hx131_18, hx131_19⟩ (fun hHeld => ?_); refine with_tabW api_Ep_32.tab6 api_Ep_32.bits6 (fun HT_ HW_ => ?_)
  generalize w17.drew = w18 at HO_0 HK HB GG13 HQ19 HQ20 hx127_0 hx127_1 hx127_10 hx127_11 hx127_12 hx127_13 hx127_14 hx127_15 hx127_16 hx127_17 hx127_18 hx127_19 hx127_2 hx127_3 hx127_4 hx127_5 hx127_6 hx127_7 hx127_8 hx127_9 hx128_0 hx128_1 hx128_10 hx128_11 hx128_12 hx128_13 hx128_14 hx128_15 hx128_16 hx128_17 hx128_18 hx128_19 hx128_2 hx128_3 hx128_4 hx128_5 hx128_6 hx128_7 hx128_8 hx128_9 hx130_0 hx130_1 hx130_10 hx130_11 hx130_12 hx130_13 hx130_14 hx130_15 hx130_16 hx130_17 hx130_18 hx130_19 hx130_2 hx130_3 hx130_4 hx130_5 hx130_6 hx130_7 hx130_8 hx130_9 hx131_0 hx131_1 hx131_10 hx131_11 hx131_12 hx131_13 hx131_14 hx131_15 hx131_16 hx131_17 hx131_18 hx131_19 hx131_2 hx131_3 hx131_4 hx131_5 hx131_6 hx131_7 hx131_8 hx131_9 hHeld HE13 HE14 ⊢
  obtain ⟨w18s0, hw18s0⟩ : ∃ W_, W_ = w18.setCells go13 ((x9_2 : Int).toNat * k29.sz + 0) [.int .i64 ((rd_T29 x0_2 (ji8)).f0), .int .i64 ((rd_T29 x0_2 (ji8)).f1), .string ((rd_T29 x0_2 (ji8)).f2), .string ((rd_T29 x0_2 (ji8)).f3), .string ((rd_T29 x0_2 (ji8)).f4), .int .i64 ((rd_T29 x0_2 (ji8)).f5), .int .i64 ((rd_T29 x0_2 (ji8)).f6), .int .i64 ((rd_T29 x0_2 (ji8)).f7), .int .i64 ((rd_T29 x0_2 (ji8)).f8), .bool ((rd_T29 x0_2 (ji8)).f9), .int .i64 ((rd_T29 x0_2 (ji8)).f10), .int .i64 ((rd_T29 x0_2 (ji8)).f11), .int .i64 ((rd_T29 x0_2 (ji8)).f12), .string ((rd_T29 x0_2 (ji8)).f13), .int .i64 ((rd_T29 x0_2 (ji8)).f14), .int .i64 ((rd_T29 x0_2 (ji8)).f15), .string ((rd_T29 x0_2 (ji8)).f16), .int .i64 ((rd_T29 x0_2 (ji8)).f17), .int .i64 ((rd_T29 x0_2 (ji8)).f18), .string ((rd_T29 x0_2 (ji8)).f19)] := ⟨_, rfl⟩
  rw [← hw18s0] at HQ19 HQ20 HE14
  obtain ⟨w18s1, hw18s1⟩ : ∃ W_, W_ = w18s0.setCells go13 (((ji8) : Int).toNat * k29.sz + 0) [.int .i64 ((rd_T29 x0_2 x9_2).f0), .int .i64 ((rd_T29 x0_2 x9_2).f1), .string ((rd_T29 x0_2 x9_2).f2), .string ((rd_T29 x0_2 x9_2).f3), .string ((rd_T29 x0_2 x9_2).f4), .int .i64 ((rd_T29 x0_2 x9_2).f5), .int .i64 ((rd_T29 x0_2 x9_2).f6), .int .i64 ((rd_T29 x0_2 x9_2).f7), .int .i64 ((rd_T29 x0_2 x9_2).f8), .bool ((rd_T29 x0_2 x9_2).f9), .int .i64 ((rd_T29 x0_2 x9_2).f10), .int .i64 ((rd_T29 x0_2 x9_2).f11), .int .i64 ((rd_T29 x0_2 x9_2).f12), .string ((rd_T29 x0_2 x9_2).f13), .int .i64 ((rd_T29 x0_2 x9_2).f14), .int .i64 ((rd_T29 x0_2 x9_2).f15), .string ((rd_T29 x0_2 x9_2).f16), .int .i64 ((rd_T29 x0_2 x9_2).f17), .int .i64 ((rd_T29 x0_2 x9_2).f18), .string ((rd_T29 x0_2 x9_2).f19)] := ⟨_, rfl⟩
  rw [← hw18s1] at HQ20
  have HBs := mkA (show Below w0.heap.size w0 w18s1 from by rw [hw18s1, hw18s0]; exact (below_cells GB13.out _ _ (below_cells GB13.out _ _ HB.out)))
  have HKs := mkA (show Kept w w18s1 _ from by rw [hw18s1, hw18s0]; exact (kept_cells HMgo13.out _ _ (kept_cells HMgo13.out _ _ HK.out)))
  have ew18s0 := mkA hw18s0
  clear hw18s0
  have ew18s1 := mkA hw18s1
  clear hw18s1
  refine pu 0 37 HT_ ?_
  refine pu 1 38 HT_ ?_
  refine pu 2 39 HT_ ?_
  refine pu 3 40 HT_ ?_
  refine pu 4 41 HT_ ?_
  refine pu 5 42 HT_ ?_
  refine pu 6 43 HT_ ?_
  refine pu 7 44 HT_ ?_
  refine pu 8 45 HT_ ?_
  refine pu 10 47 HT_ ?_
  refine pu 11 48 HT_ ?_
  refine pu 12 49 HT_ ?_
  refine take_ (i := 9) (N := some 46) (v := ?_) (a' := ?_) #[true, true, true, true, true, true, true, true, true, true, true, true, true, false, false, false, false, false] rfl rfl (take_ofW HT_.out HW_.out (by kernel_rfl)) (fun _ _ _ h => h) (Or.inl ⟨by rfl, ?_⟩) hHeld ?_ ?_
  rotate_left
  ·rintro w' ⟨s0, s1, s2, s3, s4, s5, s6, s7, s8, s9, s10, s11, s12, s13, s14, s15, s16, s17, s18, s19, s20, s21, s22, s23, s24, s25, s26, s27, s28, s29, s30, s31, s32, s33, s34, s35, s36, s37, s38, s39⟩
   first | (have hz_ := fun (a : Act) (o : Oper) (x : Operand) (ho : o.op = .load 29 x) (hx : a.eval x = _) => exec_load_at (P := Try.prog) (W := w') (cs := [_, _, _, _, _, _, _, _, _, _, _, _, _, _, _, _, _, _, _]) ho hx Try.underlying29 rfl (by kernel_rfl) s0 ⟨s1, s2, s3, s4, s5, s6, s7, s8, s9, s10, s11, s12, s13, s14, s15, s16, s17, s18, s19, trivial⟩; refine (hz_ _ _ (.tmp 45) ?_ ?_).trans ?_; (focus rfl); (focus (first | (with_reducible rfl) | (go_simp; done))); with_reducible rfl) | (have hz_ := fun (a : Act) (o : Oper) (x : Operand) (ho : o.op = .load 29 x) (hx : a.eval x = _) => exec_load_at (P := Try.prog) (W := w') (cs := [_, _, _, _, _, _, _, _, _, _, _, _, _, _, _, _, _, _, _]) ho hx Try.underlying29 rfl (by kernel_rfl) s20 ⟨s21, s22, s23, s24, s25, s26, s27, s28, s29, s30, s31, s32, s33, s34, s35, s36, s37, s38, s39, trivial⟩; refine (hz_ _ _ (.tmp 45) ?_ ?_).trans ?_; (focus rfl); (focus (first | (with_reducible rfl) | (go_simp; done))); with_reducible rfl) | (go_simp; with_reducible rfl)
  rotate_left
  ·simp only [Act.put, sA, s0, sS, i64_w, i32_w]
   rfl
  refine take_ (i := 13) (N := some 50) (v := ?_) (a' := ?_) #[true, true, true, true, true, true, true, true, true, true, true, true, true, true, false, false, false, false] rfl rfl (take_ofW HT_.out HW_.out (by kernel_rfl)) (fun _ _ _ h => h) (Or.inl ⟨by rfl, ?_⟩) hHeld ?_ ?_
  rotate_left
  ·rintro w' ⟨s0, s1, s2, s3, s4, s5, s6, s7, s8, s9, s10, s11, s12, s13, s14, s15, s16, s17, s18, s19, s20, s21, s22, s23, s24, s25, s26, s27, s28, s29, s30, s31, s32, s33, s34, s35, s36, s37, s38, s39⟩
   first | (have hz_ := fun (a : Act) (o : Oper) (x : Operand) (ho : o.op = .load 29 x) (hx : a.eval x = _) => exec_load_at (P := Try.prog) (W := w') (cs := [_, _, _, _, _, _, _, _, _, _, _, _, _, _, _, _, _, _, _]) ho hx Try.underlying29 rfl (by kernel_rfl) s0 ⟨s1, s2, s3, s4, s5, s6, s7, s8, s9, s10, s11, s12, s13, s14, s15, s16, s17, s18, s19, trivial⟩; refine (hz_ _ _ (.tmp 49) ?_ ?_).trans ?_; (focus rfl); (focus (first | (with_reducible rfl) | (go_simp; done))); with_reducible rfl) | (have hz_ := fun (a : Act) (o : Oper) (x : Operand) (ho : o.op = .load 29 x) (hx : a.eval x = _) => exec_load_at (P := Try.prog) (W := w') (cs := [_, _, _, _, _, _, _, _, _, _, _, _, _, _, _, _, _, _, _]) ho hx Try.underlying29 rfl (by kernel_rfl) s20 ⟨s21, s22, s23, s24, s25, s26, s27, s28, s29, s30, s31, s32, s33, s34, s35, s36, s37, s38, s39, trivial⟩; refine (hz_ _ _ (.tmp 49) ?_ ?_).trans ?_; (focus rfl); (focus (first | (with_reducible rfl) | (go_simp; done))); with_reducible rfl) | (go_simp; with_reducible rfl)
  rotate_left
  ·simp only [Act.put, sA, s0, sS, i64_w, i32_w]
   rfl
  refine pu 14 51 HT_ ?_
  refine last_ (i := 15) (N := none) #[true, true, true, true, true, true, true, true, true, true, true, true, true, true, true, true, false, false] rfl rfl (one_of HT_.out (by kernel_rfl)) (by decide) (fun K hK => ?_)
  refine seg_ (ty := 29) (b := go13) (o := ((x9_2 : Int).toNat * k29.sz + 0)) (cells := #[.int .i64 ((rd_T29 x0_2 (ji8)).f0), .int .i64 ((rd_T29 x0_2 (ji8)).f1), .string ((rd_T29 x0_2 (ji8)).f2), .string ((rd_T29 x0_2 (ji8)).f3), .string ((rd_T29 x0_2 (ji8)).f4), .int .i64 ((rd_T29 x0_2 (ji8)).f5), .int .i64 ((rd_T29 x0_2 (ji8)).f6), .int .i64 ((rd_T29 x0_2 (ji8)).f7), .int .i64 ((rd_T29 x0_2 (ji8)).f8), .bool ((rd_T29 x0_2 (ji8)).f9), .int .i64 ((rd_T29 x0_2 (ji8)).f10), .int .i64 ((rd_T29 x0_2 (ji8)).f11), .int .i64 ((rd_T29 x0_2 (ji8)).f12), .string ((rd_T29 x0_2 (ji8)).f13), .int .i64 ((rd_T29 x0_2 (ji8)).f14), .int .i64 ((rd_T29 x0_2 (ji8)).f15), .string ((rd_T29 x0_2 (ji8)).f16), .int .i64 ((rd_T29 x0_2 (ji8)).f17), .int .i64 ((rd_T29 x0_2 (ji8)).f18), .string ((rd_T29 x0_2 (ji8)).f19)]) (by rfl) rfl ⟨_, _, rfl, (by first | rfl | (go_simp; done) | (go_simp; rfl)), (by first | rfl | (go_simp; done) | (go_simp; rfl))⟩ HE13.out (by kernel_rfl) (by first | rfl | (simp [Value.oneCell']; done)) ew18s0.out.symm ?_
  refine hK.out _ _ ?_
  clear hK K
  refine pu 16 52 HT_ ?_
  refine last_ (i := 17) (N := none) #[true, true, true, true, true, true, true, true, true, true, true, true, true, true, true, true, true, true] rfl rfl (one_of HT_.out (by kernel_rfl)) (by decide) (fun K hK => ?_)
  refine seg_ (ty := 29) (b := go13) (o := (((ji8) : Int).toNat * k29.sz + 0)) (cells := #[.int .i64 ((rd_T29 x0_2 x9_2).f0), .int .i64 ((rd_T29 x0_2 x9_2).f1), .string ((rd_T29 x0_2 x9_2).f2), .string ((rd_T29 x0_2 x9_2).f3), .string ((rd_T29 x0_2 x9_2).f4), .int .i64 ((rd_T29 x0_2 x9_2).f5), .int .i64 ((rd_T29 x0_2 x9_2).f6), .int .i64 ((rd_T29 x0_2 x9_2).f7), .int .i64 ((rd_T29 x0_2 x9_2).f8), .bool ((rd_T29 x0_2 x9_2).f9), .int .i64 ((rd_T29 x0_2 x9_2).f10), .int .i64 ((rd_T29 x0_2 x9_2).f11), .int .i64 ((rd_T29 x0_2 x9_2).f12), .string ((rd_T29 x0_2 x9_2).f13), .int .i64 ((rd_T29 x0_2 x9_2).f14), .int .i64 ((rd_T29 x0_2 x9_2).f15), .string ((rd_T29 x0_2 x9_2).f16), .int .i64 ((rd_T29 x0_2 x9_2).f17), .int .i64 ((rd_T29 x0_2 x9_2).f18), .string ((rd_T29 x0_2 x9_2).f19)]) (by rfl) rfl ⟨_, _, rfl, (by first | rfl | (go_simp; done) | (go_simp; rfl)), (by first | rfl | (go_simp; done) | (go_simp; rfl))⟩ HE14.out (by kernel_rfl) (by first | rfl | (simp [Value.oneCell']; done)) ew18s1.out.symm ?_
  refine hK.out _ _ ?_
  clear hK K HB HK
  have HB := HBs
  have HK := HKs
  clear HBs HKs
  refine done_ (done_of HT_.out (by kernel_rfl)) ?_
  try go_wp2
  go_roundg k2
  case measure => have := HK1.out; have := HK2.out; omega
  case rel => exact ⟨(y133), (ji8), (by first | rfl | (simp; done) | (simp only [← hji8] <;> (first | rfl | simp)) | (simp [*]; done)), H', ⟨by have := HK1.out; have := HK2.out; omega⟩, ⟨by (with_reducible repeat (first | apply Kd.R_alloc | apply Kd.R_drewN | apply Kd.R_drew)); exact HQ20.out⟩, ⟨by repeat (first | (with_reducible first | exact HK.out | apply Kept.alloc | apply Kept.drewN | apply Kept.drew | refine Kept.setCell ?_ HMgo13.out _ | refine Kept.setCell ?_ HMgo13.out _ | refine Kept.setCell ?_ HMgo13.out _ | refine Kept.setCell ?_ HMgo13.out _ | refine Kept.setCell ?_ HMgo13.out _ | refine Kept.setCell ?_ HMgo13.out _ | refine Kept.setCell ?_ HMgo13.out _ | refine Kept.setCell ?_ HMgo13.out _ | refine Kept.setCell ?_ HMgo13.out _ | refine Kept.setCell ?_ HMgo13.out _ | refine Kept.setCell ?_ HMgo13.out _ | refine Kept.setCell ?_ HMgo13.out _ | refine Kept.setCell ?_ HMgo13.out _ | refine Kept.setCell ?_ HMgo13.out _ | refine Kept.setCell ?_ HMgo13.out _ | refine Kept.setCell ?_ HMgo13.out _ | refine Kept.setCell ?_ HMgo13.out _ | refine Kept.setCell ?_ HMgo13.out _ | refine Kept.setCell ?_ HMgo13.out _ | refine Kept.setCell ?_ HMgo13.out _ | refine Kept.setCell ?_ HMgo13.out _ | refine Kept.setCell ?_ HMgo13.out _ | refine Kept.setCell ?_ HMgo13.out _ | refine Kept.setCell ?_ HMgo13.out _ | refine Kept.setCell ?_ HMgo13.out _ | refine Kept.setCell ?_ HMgo13.out _ | refine Kept.setCell ?_ HMgo13.out _ | refine Kept.setCell ?_ HMgo13.out _ | refine Kept.setCell ?_ HMgo13.out _ | refine Kept.setCell ?_ HMgo13.out _ | refine Kept.setCell ?_ HMgo13.out _ | refine Kept.setCell ?_ HMgo13.out _ | refine Kept.setCell ?_ HMgo13.out _ | refine Kept.setCell ?_ HMgo13.out _ | refine Kept.setCell ?_ HMgo13.out _ | refine Kept.setCell ?_ HMgo13.out _ | refine Kept.setCell ?_ HMgo13.out _ | refine Kept.setCell ?_ HMgo13.out _ | refine Kept.setCell ?_ HMgo13.out _ | refine Kept.setCell ?_ HMgo13.out _) | exact HK.out)⟩, ⟨by repeat (first | (with_reducible first | exact HB.out | apply below_alloc | apply pw_below_drewN | apply below_drew1 | refine below_set ?_ GB13.out | refine below_set ?_ GB13.out | refine below_set ?_ GB13.out | refine below_set ?_ GB13.out | refine below_set ?_ GB13.out | refine below_set ?_ GB13.out | refine below_set ?_ GB13.out | refine below_set ?_ GB13.out | refine below_set ?_ GB13.out | refine below_set ?_ GB13.out | refine below_set ?_ GB13.out | refine below_set ?_ GB13.out | refine below_set ?_ GB13.out | refine below_set ?_ GB13.out | refine below_set ?_ GB13.out | refine below_set ?_ GB13.out | refine below_set ?_ GB13.out | refine below_set ?_ GB13.out | refine below_set ?_ GB13.out | refine below_set ?_ GB13.out | refine below_set ?_ GB13.out | refine below_set ?_ GB13.out | refine below_set ?_ GB13.out | refine below_set ?_ GB13.out | refine below_set ?_ GB13.out | refine below_set ?_ GB13.out | refine below_set ?_ GB13.out | refine below_set ?_ GB13.out | refine below_set ?_ GB13.out | refine below_set ?_ GB13.out | refine below_set ?_ GB13.out | refine below_set ?_ GB13.out | refine below_set ?_ GB13.out | refine below_set ?_ GB13.out | refine below_set ?_ GB13.out | refine below_set ?_ GB13.out | refine below_set ?_ GB13.out | refine below_set ?_ GB13.out | refine below_set ?_ GB13.out | refine below_set ?_ GB13.out) | exact HB.out)⟩⟩

end Go.Proofs.Ytcpojadlnpnbaaa.XRet
