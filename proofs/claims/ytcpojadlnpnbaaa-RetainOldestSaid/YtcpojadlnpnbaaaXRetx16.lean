-- By a program of this work (xprint.py) over the translation; Lean checks it.
import Derived.Test.YtcpojadlnpnbaaaXRetx0
namespace Go.Proofs.Ytcpojadlnpnbaaa.XRet
open Go.RowKit Go.Proofs.YtcpojadlnpnbaaaW.PrintWords Go.Proofs.YtcpojadlnpnbaaaW.PrintLast Go.Proofs.YtcpojadlnpnbaaaW.PrintMore
attribute [local go_sem] max2_int min2_int max_two min_two max_three min_three max_four min_four   -- for this text's walks alone
set_option linter.unusedVariables false
set_option linter.unusedSimpArgs false

/-! ### api_Ep_37: function 37 -/
def api_Ep_37.l0 : Nat → List (S29) → Int → Int → Int → Int → Option ((List (S29)))
 | 0, _, _, _, _, _ => none
 | k + 1, x0, x1, x2, x3, x10 => if x10 < x3 then (if 0 ≤ (wrap64 (x2 + x10)) then (if (wrap64 (x2 + x10)) < (x0.length : Int) then (if 0 ≤ (wrap64 (x1 + x10)) then (if (wrap64 (x1 + x10)) < (x0.length : Int) then (api_Ep_37.l0 k ((x0.set ((wrap64 (x1 + x10)) : Int).toNat (⟨(rd_T29 x0 (wrap64 (x2 + x10))).f0, (rd_T29 x0 (wrap64 (x2 + x10))).f1, (rd_T29 x0 (wrap64 (x2 + x10))).f2, (rd_T29 x0 (wrap64 (x2 + x10))).f3, (rd_T29 x0 (wrap64 (x2 + x10))).f4, (rd_T29 x0 (wrap64 (x2 + x10))).f5, (rd_T29 x0 (wrap64 (x2 + x10))).f6, (rd_T29 x0 (wrap64 (x2 + x10))).f7, (rd_T29 x0 (wrap64 (x2 + x10))).f8, (rd_T29 x0 (wrap64 (x2 + x10))).f9, (rd_T29 x0 (wrap64 (x2 + x10))).f10, (rd_T29 x0 (wrap64 (x2 + x10))).f11, (rd_T29 x0 (wrap64 (x2 + x10))).f12, (rd_T29 x0 (wrap64 (x2 + x10))).f13, (rd_T29 x0 (wrap64 (x2 + x10))).f14, (rd_T29 x0 (wrap64 (x2 + x10))).f15, (rd_T29 x0 (wrap64 (x2 + x10))).f16, (rd_T29 x0 (wrap64 (x2 + x10))).f17, (rd_T29 x0 (wrap64 (x2 + x10))).f18, (rd_T29 x0 (wrap64 (x2 + x10))).f19⟩ : S29)).set ((wrap64 (x2 + x10)) : Int).toNat (⟨(rd_T29 x0 (wrap64 (x1 + x10))).f0, (rd_T29 x0 (wrap64 (x1 + x10))).f1, (rd_T29 x0 (wrap64 (x1 + x10))).f2, (rd_T29 x0 (wrap64 (x1 + x10))).f3, (rd_T29 x0 (wrap64 (x1 + x10))).f4, (rd_T29 x0 (wrap64 (x1 + x10))).f5, (rd_T29 x0 (wrap64 (x1 + x10))).f6, (rd_T29 x0 (wrap64 (x1 + x10))).f7, (rd_T29 x0 (wrap64 (x1 + x10))).f8, (rd_T29 x0 (wrap64 (x1 + x10))).f9, (rd_T29 x0 (wrap64 (x1 + x10))).f10, (rd_T29 x0 (wrap64 (x1 + x10))).f11, (rd_T29 x0 (wrap64 (x1 + x10))).f12, (rd_T29 x0 (wrap64 (x1 + x10))).f13, (rd_T29 x0 (wrap64 (x1 + x10))).f14, (rd_T29 x0 (wrap64 (x1 + x10))).f15, (rd_T29 x0 (wrap64 (x1 + x10))).f16, (rd_T29 x0 (wrap64 (x1 + x10))).f17, (rd_T29 x0 (wrap64 (x1 + x10))).f18, (rd_T29 x0 (wrap64 (x1 + x10))).f19⟩ : S29)) x1 x2 x3 (wrap64 (x10 + 1))) else (none)) else (none)) else (none)) else (none)) else (some x0)
def api_Ep_37.f (k : Nat) (l0 : List (S29)) (a1 : Int) (a2 : Int) (a3 : Int) : Option ((List (S29))) := api_Ep_37.l0 k l0 a1 a2 a3 0
theorem api_Ep_37.mono_l : ∀ k, (∀ y0 y1 y2 y3 y4, LeO (api_Ep_37.l0 k y0 y1 y2 y3 y4) (api_Ep_37.l0 (k + 1) y0 y1 y2 y3 y4))
 | 0 => fun _ _ _ _ _ r h => by simp [api_Ep_37.l0] at h
 | k + 1 => by
  have ih0 := api_Ep_37.mono_l k
  ·intro y0 y1 y2 y3 y4
   unfold api_Ep_37.l0
   repeat' first
   | (with_reducible exact ih0 _ _ _ _ _)
   | (with_reducible exact LeO.refl _)
   | (with_reducible exact LeO.none _)
   | (with_reducible refine LeO.ite ?_ ?_)
   | (with_reducible refine LeO.bind ?_ (fun _ => ?_))
   | exact ih0 _ _ _ _ _
   | exact LeO.none _
   | refine LeO.ite ?_ ?_
   | refine LeO.bind ?_ (fun _ => ?_)
theorem api_Ep_37.mono : ∀ a0 a1 a2 a3 k, LeO (api_Ep_37.f k a0 a1 a2 a3) (api_Ep_37.f (k + 1) a0 a1 a2 a3) := by
 intro a0 a1 a2 a3 k
 have ih0 := api_Ep_37.mono_l k
 unfold api_Ep_37.f
 repeat' first
   | (with_reducible exact ih0 _ _ _ _ _)
   | (with_reducible exact LeO.refl _)
   | (with_reducible exact LeO.none _)
   | (with_reducible refine LeO.ite ?_ ?_)
   | (with_reducible refine LeO.bind ?_ (fun _ => ?_))
   | exact ih0 _ _ _ _ _
   | exact LeO.none _
   | refine LeO.ite ?_ ?_
   | refine LeO.bind ?_ (fun _ => ?_)
def api_Ep_37.T3 : Bool × List (List Nat × List Nat) := (true, [([], []), ([], []), ([], []), ([1, 2], [1, 2]), ([], []), ([], []), ([], []), ([5, 6], [5, 6]), ([], []), ([], []), ([], []), ([9, 10], [9, 10]), ([8, 11], [8, 11]), ([12], [12]), ([], []), ([], []), ([], []), ([15, 16], [15, 16]), ([14, 17], [14, 17]), ([18], [18]), ([0, 3, 0, 1, 2, 3, 8, 9, 10, 11, 12, 13, 19], [0, 3]), ([20, 13, 0, 1, 2, 3, 8, 9, 10, 11, 12, 13, 19], [13, 20]), ([4, 7, 0, 1, 2, 3, 4, 5, 6, 7, 8, 9, 10, 11, 12, 13, 14, 15, 16, 17, 18, 19, 20, 21], [4, 7]), ([22, 19, 21, 0, 1, 2, 3, 4, 5, 6, 7, 8, 9, 10, 11, 12, 13, 14, 15, 16, 17, 18, 19, 20, 21], [19, 22])])
def api_Ep_37.B3 : List Nat := [0, 0, 0, 6, 0, 0, 0, 96, 0, 0, 0, 1536, 3840, 7936, 0, 0, 0, 98304, 245760, 507904, 1048335, 2096911, 4194303, 8388607]
theorem api_Ep_37.tab3 : rtab .any (opsOf Try.f37 3) = api_Ep_37.T3 := by kernel_rfl
theorem api_Ep_37.bits3 : waitsOk api_Ep_37.T3.2 api_Ep_37.B3 = true := by kernel_rfl
set_option maxHeartbeats 2000000 in
set_option maxRecDepth 100000 in
theorem api_Ep_37.calls (k : Nat) (P0_ : Nat → Prop) (u9000_ : Value) (l0 : List (S29)) (a1 : Int) (a2 : Int) (a3 : Int) (r : List (S29)) (w0 w : World) (hB : Below w0.heap.size w0 w) (ho0 : Kd.R k29 29 w w0.heap.size P0_ u9000_ l0) (h : api_Ep_37.f k l0 a1 a2 a3 = some r) :
  Calls Try.prog 37 #[u9000_, .int .i64 a1, .int .i64 a2, .int .i64 a3, .func (.func 22) #[] #[]] w fun e w' => e = .returned (.tuple #[]) ∧ Kd.R k29 29 w' w0.heap.size (fun k_ => (P0_ k_ ∨ w.heap.size ≤ k_)) u9000_ r ∧ Below w0.heap.size w0 w' ∧ Kept w w' (fun k_ => P0_ k_) := by
 have hu29 := Try.underlying29
 have HO0 := mkA (show Kd.R k29 29 w w0.heap.size (fun k_ => (P0_ k_ ∨ w.heap.size ≤ k_)) u9000_ l0 from Kd.R_mono ho0 (fun k_ hk => (.inl hk)))
 have HK := mkA (Kept.refl w (fun k_ => P0_ k_))
 have HW0 := mkA hB.size
 have HB := mkA hB
 clear hB
 have H : (api_Ep_37.l0 k l0 a1 a2 a3 0) = some r := h
 clear h
 have H' := mkA H
 clear H
 go_enter Try.func37, Try.ntmps37
 go_wp2
 try simp only [Act.put, sA, s0, sS]
 go_loopg [10] k (fun kq v10 w' => ∃ (x0_1 : List (S29)) (x10_1 : Int), v10 = .int .i64 x10_1 ∧ Aside0 (api_Ep_37.l0 kq x0_1 a1 a2 a3 x10_1 = some r) ∧ Aside0 (kq ≤ k) ∧ Aside0 (Kd.R k29 29 w' w0.heap.size (fun k_ => (P0_ k_ ∨ w.heap.size ≤ k_)) u9000_ x0_1) ∧ Aside0 (Kept w w' (fun k_ => P0_ k_)) ∧ Aside0 (Below w0.heap.size w0 w'))
 case atStart => exact ⟨(l0), (0), (by first | rfl | (simp; done) | (simp [*]; done)), H', ⟨Nat.le_refl _⟩, ⟨by (with_reducible repeat (first | apply Kd.R_alloc | apply Kd.R_drewN | apply Kd.R_drew)); exact HO0.out⟩, ⟨by repeat (first | (with_reducible first | exact HK.out | apply Kept.alloc | apply Kept.drewN | apply Kept.drew) | exact HK.out)⟩, ⟨below_y HB.out⟩⟩
 case round =>
  clear H'
  try clear p2
  try clear c3
  obtain ⟨x0_1, x10_1, rfl, HA, HK1, HO_0, HK, HB⟩ := hrel
  cases gk with
  | zero => exact absurd HA.out (by simp [api_Ep_37.l0])
  | succ k1 =>
   have H := HA.out
   clear HA
   simp only [api_Ep_37.l0] at H
   by_cases c5 : x10_1 < a3
   ·rw [if_pos c5] at H
    have c5b0 : decide (x10_1 < a3) = true := decide_eq_true c5
    clear c5
    obtain ⟨ji6, hji6⟩ : ∃ j_ : Int, (wrap64 (a2 + x10_1)) = j_ := ⟨_, rfl⟩
    replace H : (if 0 ≤ (ji6) then (if (ji6) < (x0_1.length : Int) then (if 0 ≤ (wrap64 (a1 + x10_1)) then (if (wrap64 (a1 + x10_1)) < (x0_1.length : Int) then (api_Ep_37.l0 k1 ((x0_1.set ((wrap64 (a1 + x10_1)) : Int).toNat (⟨(rd_T29 x0_1 (ji6)).f0, (rd_T29 x0_1 (ji6)).f1, (rd_T29 x0_1 (ji6)).f2, (rd_T29 x0_1 (ji6)).f3, (rd_T29 x0_1 (ji6)).f4, (rd_T29 x0_1 (ji6)).f5, (rd_T29 x0_1 (ji6)).f6, (rd_T29 x0_1 (ji6)).f7, (rd_T29 x0_1 (ji6)).f8, (rd_T29 x0_1 (ji6)).f9, (rd_T29 x0_1 (ji6)).f10, (rd_T29 x0_1 (ji6)).f11, (rd_T29 x0_1 (ji6)).f12, (rd_T29 x0_1 (ji6)).f13, (rd_T29 x0_1 (ji6)).f14, (rd_T29 x0_1 (ji6)).f15, (rd_T29 x0_1 (ji6)).f16, (rd_T29 x0_1 (ji6)).f17, (rd_T29 x0_1 (ji6)).f18, (rd_T29 x0_1 (ji6)).f19⟩ : S29)).set ((ji6) : Int).toNat (⟨(rd_T29 x0_1 (wrap64 (a1 + x10_1))).f0, (rd_T29 x0_1 (wrap64 (a1 + x10_1))).f1, (rd_T29 x0_1 (wrap64 (a1 + x10_1))).f2, (rd_T29 x0_1 (wrap64 (a1 + x10_1))).f3, (rd_T29 x0_1 (wrap64 (a1 + x10_1))).f4, (rd_T29 x0_1 (wrap64 (a1 + x10_1))).f5, (rd_T29 x0_1 (wrap64 (a1 + x10_1))).f6, (rd_T29 x0_1 (wrap64 (a1 + x10_1))).f7, (rd_T29 x0_1 (wrap64 (a1 + x10_1))).f8, (rd_T29 x0_1 (wrap64 (a1 + x10_1))).f9, (rd_T29 x0_1 (wrap64 (a1 + x10_1))).f10, (rd_T29 x0_1 (wrap64 (a1 + x10_1))).f11, (rd_T29 x0_1 (wrap64 (a1 + x10_1))).f12, (rd_T29 x0_1 (wrap64 (a1 + x10_1))).f13, (rd_T29 x0_1 (wrap64 (a1 + x10_1))).f14, (rd_T29 x0_1 (wrap64 (a1 + x10_1))).f15, (rd_T29 x0_1 (wrap64 (a1 + x10_1))).f16, (rd_T29 x0_1 (wrap64 (a1 + x10_1))).f17, (rd_T29 x0_1 (wrap64 (a1 + x10_1))).f18, (rd_T29 x0_1 (wrap64 (a1 + x10_1))).f19⟩ : S29)) a1 a2 a3 (wrap64 (x10_1 + 1))) else (none)) else (none)) else (none)) else (none)) = some r := by first | (rw [hji6] at H; exact H) | (simp only [hji6] at H ⊢; exact H)
    have hji6w : (IntKind.i64.wrap (a2 + x10_1)) = ji6 := (i64_w _).trans hji6
    by_cases c7 : 0 ≤ (ji6)
    ·rw [if_pos c7] at H
     have c7b0 : decide (0 ≤ (ji6)) = true := decide_eq_true c7
     clear c7
     by_cases c8 : (ji6) < (x0_1.length : Int)
     ·rw [if_pos c8] at H
      have c8b0 : decide ((ji6) < (x0_1.length : Int)) = true := decide_eq_true c8
      clear c8
      obtain ⟨ji9, hji9⟩ : ∃ j_ : Int, (wrap64 (a1 + x10_1)) = j_ := ⟨_, rfl⟩
      replace H : (if 0 ≤ (ji9) then (if (ji9) < (x0_1.length : Int) then (api_Ep_37.l0 k1 ((x0_1.set ((ji9) : Int).toNat (⟨(rd_T29 x0_1 (ji6)).f0, (rd_T29 x0_1 (ji6)).f1, (rd_T29 x0_1 (ji6)).f2, (rd_T29 x0_1 (ji6)).f3, (rd_T29 x0_1 (ji6)).f4, (rd_T29 x0_1 (ji6)).f5, (rd_T29 x0_1 (ji6)).f6, (rd_T29 x0_1 (ji6)).f7, (rd_T29 x0_1 (ji6)).f8, (rd_T29 x0_1 (ji6)).f9, (rd_T29 x0_1 (ji6)).f10, (rd_T29 x0_1 (ji6)).f11, (rd_T29 x0_1 (ji6)).f12, (rd_T29 x0_1 (ji6)).f13, (rd_T29 x0_1 (ji6)).f14, (rd_T29 x0_1 (ji6)).f15, (rd_T29 x0_1 (ji6)).f16, (rd_T29 x0_1 (ji6)).f17, (rd_T29 x0_1 (ji6)).f18, (rd_T29 x0_1 (ji6)).f19⟩ : S29)).set ((ji6) : Int).toNat (⟨(rd_T29 x0_1 (ji9)).f0, (rd_T29 x0_1 (ji9)).f1, (rd_T29 x0_1 (ji9)).f2, (rd_T29 x0_1 (ji9)).f3, (rd_T29 x0_1 (ji9)).f4, (rd_T29 x0_1 (ji9)).f5, (rd_T29 x0_1 (ji9)).f6, (rd_T29 x0_1 (ji9)).f7, (rd_T29 x0_1 (ji9)).f8, (rd_T29 x0_1 (ji9)).f9, (rd_T29 x0_1 (ji9)).f10, (rd_T29 x0_1 (ji9)).f11, (rd_T29 x0_1 (ji9)).f12, (rd_T29 x0_1 (ji9)).f13, (rd_T29 x0_1 (ji9)).f14, (rd_T29 x0_1 (ji9)).f15, (rd_T29 x0_1 (ji9)).f16, (rd_T29 x0_1 (ji9)).f17, (rd_T29 x0_1 (ji9)).f18, (rd_T29 x0_1 (ji9)).f19⟩ : S29)) a1 a2 a3 (wrap64 (x10_1 + 1))) else (none)) else (none)) = some r := by first | (rw [hji9] at H; exact H) | (simp only [hji9] at H ⊢; exact H)
      have hji9w : (IntKind.i64.wrap (a1 + x10_1)) = ji9 := (i64_w _).trans hji9
      by_cases c10 : 0 ≤ (ji9)
      ·rw [if_pos c10] at H
       have c10b0 : decide (0 ≤ (ji9)) = true := decide_eq_true c10
       clear c10
       by_cases c11 : (ji9) < (x0_1.length : Int)
       ·rw [if_pos c11] at H
        have c11b0 : decide ((ji9) < (x0_1.length : Int)) = true := decide_eq_true c11
        clear c11
        obtain ⟨y136, hy136⟩ : ∃ y_ : List (S29), y_ = (x0_1.set ((ji9) : Int).toNat (⟨(rd_T29 x0_1 (ji6)).f0, (rd_T29 x0_1 (ji6)).f1, (rd_T29 x0_1 (ji6)).f2, (rd_T29 x0_1 (ji6)).f3, (rd_T29 x0_1 (ji6)).f4, (rd_T29 x0_1 (ji6)).f5, (rd_T29 x0_1 (ji6)).f6, (rd_T29 x0_1 (ji6)).f7, (rd_T29 x0_1 (ji6)).f8, (rd_T29 x0_1 (ji6)).f9, (rd_T29 x0_1 (ji6)).f10, (rd_T29 x0_1 (ji6)).f11, (rd_T29 x0_1 (ji6)).f12, (rd_T29 x0_1 (ji6)).f13, (rd_T29 x0_1 (ji6)).f14, (rd_T29 x0_1 (ji6)).f15, (rd_T29 x0_1 (ji6)).f16, (rd_T29 x0_1 (ji6)).f17, (rd_T29 x0_1 (ji6)).f18, (rd_T29 x0_1 (ji6)).f19⟩ : S29)) := ⟨_, rfl⟩
        replace H : (api_Ep_37.l0 k1 (y136.set ((ji6) : Int).toNat (⟨(rd_T29 x0_1 (ji9)).f0, (rd_T29 x0_1 (ji9)).f1, (rd_T29 x0_1 (ji9)).f2, (rd_T29 x0_1 (ji9)).f3, (rd_T29 x0_1 (ji9)).f4, (rd_T29 x0_1 (ji9)).f5, (rd_T29 x0_1 (ji9)).f6, (rd_T29 x0_1 (ji9)).f7, (rd_T29 x0_1 (ji9)).f8, (rd_T29 x0_1 (ji9)).f9, (rd_T29 x0_1 (ji9)).f10, (rd_T29 x0_1 (ji9)).f11, (rd_T29 x0_1 (ji9)).f12, (rd_T29 x0_1 (ji9)).f13, (rd_T29 x0_1 (ji9)).f14, (rd_T29 x0_1 (ji9)).f15, (rd_T29 x0_1 (ji9)).f16, (rd_T29 x0_1 (ji9)).f17, (rd_T29 x0_1 (ji9)).f18, (rd_T29 x0_1 (ji9)).f19⟩ : S29)) a1 a2 a3 (wrap64 (x10_1 + 1))) = some r := by first | (rw [hy136]; with_reducible exact H) | (have H2_ := (Option.bind_some _ _).symm.trans H; rw [hy136]; with_reducible exact H2_) | (have H2_ := (Option.bind_some _ _).symm.trans H; with_reducible exact H2_) | with_reducible exact H | (rw [hy136]; exact H) | exact H
        have Ny136 := mkA hy136
        clear hy136
        obtain ⟨y137, hy137⟩ : ∃ y_ : List (S29), y_ = (y136.set ((ji6) : Int).toNat (⟨(rd_T29 x0_1 (ji9)).f0, (rd_T29 x0_1 (ji9)).f1, (rd_T29 x0_1 (ji9)).f2, (rd_T29 x0_1 (ji9)).f3, (rd_T29 x0_1 (ji9)).f4, (rd_T29 x0_1 (ji9)).f5, (rd_T29 x0_1 (ji9)).f6, (rd_T29 x0_1 (ji9)).f7, (rd_T29 x0_1 (ji9)).f8, (rd_T29 x0_1 (ji9)).f9, (rd_T29 x0_1 (ji9)).f10, (rd_T29 x0_1 (ji9)).f11, (rd_T29 x0_1 (ji9)).f12, (rd_T29 x0_1 (ji9)).f13, (rd_T29 x0_1 (ji9)).f14, (rd_T29 x0_1 (ji9)).f15, (rd_T29 x0_1 (ji9)).f16, (rd_T29 x0_1 (ji9)).f17, (rd_T29 x0_1 (ji9)).f18, (rd_T29 x0_1 (ji9)).f19⟩ : S29)) := ⟨_, rfl⟩
        replace H : (api_Ep_37.l0 k1 y137 a1 a2 a3 (wrap64 (x10_1 + 1))) = some r := by first | (rw [hy137]; with_reducible exact H) | (have H2_ := (Option.bind_some _ _).symm.trans H; rw [hy137]; with_reducible exact H2_) | (have H2_ := (Option.bind_some _ _).symm.trans H; with_reducible exact H2_) | with_reducible exact H | (rw [hy137]; exact H) | exact H
        have Ny137 := mkA hy137
        clear hy137
        as_aux_lemma =>
         have H' := mkA H
         clear H
         try go_wp2
         have n0_ := mkA (Kd.R_drew HO_0.out)
         have n1_ := mkA (Kept.drew HK.out)
         have n2_ := mkA (below_drew1 HB.out)
         clear HO_0 HK HB
         have HO_0 := n0_
         have HK := n1_
         have HB := n2_
         clear n0_ n1_ n2_
         obtain ⟨Ao15, co15, eo15⟩ := Kd.R_slice HO_0.out
         (first | subst eo15 | (injection eo15 with f1_ f2_ f3_; have f4_ := f1_.symm; have f5_ := f3_.symm; clear f1_ f2_ f3_; subst f4_; subst f5_))
         have p134 : 0 ≤ ((ji6) : Int) := odt
         have q134 : (ji6) < (x0_1.length : Int) := odt
         obtain ⟨ad134, e134, hx134_0, hx134_1, hx134_2, hx134_3, hx134_4, hx134_5, hx134_6, hx134_7, hx134_8, hx134_9, hx134_10, hx134_11, hx134_12, hx134_13, hx134_14, hx134_15, hx134_16, hx134_17, hx134_18, hx134_19⟩ := at_T29 (Kd.R_reads' HO_0.out).2.2 (ji6) p134 q134
         cases e134
         replace p134 := eq_true p134
         replace q134 := eq_true q134
         have p135 : 0 ≤ ((ji9) : Int) := odt
         have q135 : (ji9) < (x0_1.length : Int) := odt
         obtain ⟨ad135, e135, hx135_0, hx135_1, hx135_2, hx135_3, hx135_4, hx135_5, hx135_6, hx135_7, hx135_8, hx135_9, hx135_10, hx135_11, hx135_12, hx135_13, hx135_14, hx135_15, hx135_16, hx135_17, hx135_18, hx135_19⟩ := at_T29 (Kd.R_reads' HO_0.out).2.2 (ji9) p135 q135
         obtain rfl : ad134 = ad135 := (by injection e135)
         replace p135 := eq_true p135
         replace q135 := eq_true q135
         have p12 : 0 ≤ ((ji9) : Int) := odt
         have q12 : ((ji9) : Int) < ((x0_1.length : Int) : Int) := odt
         obtain ⟨go12, co12, eo12, gb12, gl12, cl12, HG12⟩ := Kd.R_form HO_0.out (by omega)
         (first | cases eo12 | (injection eo12 with ea_ en_ ec_; (first | subst ea_ | (injection ea_ with ea_; subst ea_)); subst ec_; clear en_))
         have GB12 := mkA gb12
         have GG12 := mkA HG12
         clear gb12 gl12 HG12
         have HMgo12 := mkA (show (P0_ go12 ∨ w.heap.size ≤ go12) from (HO_0.out.1 _ rfl))
         (first | simp only [add_plain] at hx134_0 | skip)
         (first | simp only [add_plain] at hx134_1 | skip)
         (first | simp only [add_plain] at hx134_2 | skip)
         (first | simp only [add_plain] at hx134_3 | skip)
         (first | simp only [add_plain] at hx134_4 | skip)
         (first | simp only [add_plain] at hx134_5 | skip)
         (first | simp only [add_plain] at hx134_6 | skip)
         (first | simp only [add_plain] at hx134_7 | skip)
         (first | simp only [add_plain] at hx134_8 | skip)
         (first | simp only [add_plain] at hx134_9 | skip)
         (first | simp only [add_plain] at hx134_10 | skip)
         (first | simp only [add_plain] at hx134_11 | skip)
         (first | simp only [add_plain] at hx134_12 | skip)
         (first | simp only [add_plain] at hx134_13 | skip)
         (first | simp only [add_plain] at hx134_14 | skip)
         (first | simp only [add_plain] at hx134_15 | skip)
         (first | simp only [add_plain] at hx134_16 | skip)
         (first | simp only [add_plain] at hx134_17 | skip)
         (first | simp only [add_plain] at hx134_18 | skip)
         (first | simp only [add_plain] at hx134_19 | skip)
         (first | simp only [add_plain] at hx135_0 | skip)
         (first | simp only [add_plain] at hx135_1 | skip)
         (first | simp only [add_plain] at hx135_2 | skip)
         (first | simp only [add_plain] at hx135_3 | skip)
         (first | simp only [add_plain] at hx135_4 | skip)
         (first | simp only [add_plain] at hx135_5 | skip)
         (first | simp only [add_plain] at hx135_6 | skip)
         (first | simp only [add_plain] at hx135_7 | skip)
         (first | simp only [add_plain] at hx135_8 | skip)
         (first | simp only [add_plain] at hx135_9 | skip)
         (first | simp only [add_plain] at hx135_10 | skip)
         (first | simp only [add_plain] at hx135_11 | skip)
         (first | simp only [add_plain] at hx135_12 | skip)
         (first | simp only [add_plain] at hx135_13 | skip)
         (first | simp only [add_plain] at hx135_14 | skip)
         (first | simp only [add_plain] at hx135_15 | skip)
         (first | simp only [add_plain] at hx135_16 | skip)
         (first | simp only [add_plain] at hx135_17 | skip)
         (first | simp only [add_plain] at hx135_18 | skip)
         (first | simp only [add_plain] at hx135_19 | skip)
         obtain ⟨ce12, hcl12, hM12, hcc12, hfr12⟩ := Kd.R_elem HO_0.out z29 ((ji9) : Int) p12 q12
         obtain rfl := k29_openM hM12
         have HE12 := mkA (show World.there _ go12 (((ji9) : Int).toNat * k29.sz + 0) 20 from there_of hcl12 hcc12 hfr12)
         clear hcl12 hcc12 hfr12 hM12
         replace p12 := eq_true p12
         replace q12 := eq_true q12
         obtain ⟨ce16, hcl16, hM16, hcc16, hfr16⟩ := Kd.R_elem HO_0.out z29 ((ji9) : Int) (odt) (by have h_ : ((ji9) : Int) < ((x0_1.length : Int) : Int) := odt; first | exact h_ | (have e_ := (Kd.R_reads' HO_0.out).1; omega) | simpa using h_)
         obtain rfl := k29_openM hM16
         have HP16 := (Kd.R_seg HO_0.out ((ji9) : Int) (odt) (by have h_ : ((ji9) : Int) < ((x0_1.length : Int) : Int) := odt; first | exact h_ | (have e_ := (Kd.R_reads' HO_0.out).1; omega) | simpa using h_) (seg := [.int .i64 ((rd_T29 x0_1 (ji6)).f0), .int .i64 ((rd_T29 x0_1 (ji6)).f1), .string ((rd_T29 x0_1 (ji6)).f2), .string ((rd_T29 x0_1 (ji6)).f3), .string ((rd_T29 x0_1 (ji6)).f4), .int .i64 ((rd_T29 x0_1 (ji6)).f5), .int .i64 ((rd_T29 x0_1 (ji6)).f6), .int .i64 ((rd_T29 x0_1 (ji6)).f7), .int .i64 ((rd_T29 x0_1 (ji6)).f8), .bool ((rd_T29 x0_1 (ji6)).f9), .int .i64 ((rd_T29 x0_1 (ji6)).f10), .int .i64 ((rd_T29 x0_1 (ji6)).f11), .int .i64 ((rd_T29 x0_1 (ji6)).f12), .string ((rd_T29 x0_1 (ji6)).f13), .int .i64 ((rd_T29 x0_1 (ji6)).f14), .int .i64 ((rd_T29 x0_1 (ji6)).f15), .string ((rd_T29 x0_1 (ji6)).f16), .int .i64 ((rd_T29 x0_1 (ji6)).f17), .int .i64 ((rd_T29 x0_1 (ji6)).f18), .string ((rd_T29 x0_1 (ji6)).f19)]) (j := 0) hcl16 hcc16 (show 20 ≤ 20 from by decide) (x' := (⟨(rd_T29 x0_1 (ji6)).f0, (rd_T29 x0_1 (ji6)).f1, (rd_T29 x0_1 (ji6)).f2, (rd_T29 x0_1 (ji6)).f3, (rd_T29 x0_1 (ji6)).f4, (rd_T29 x0_1 (ji6)).f5, (rd_T29 x0_1 (ji6)).f6, (rd_T29 x0_1 (ji6)).f7, (rd_T29 x0_1 (ji6)).f8, (rd_T29 x0_1 (ji6)).f9, (rd_T29 x0_1 (ji6)).f10, (rd_T29 x0_1 (ji6)).f11, (rd_T29 x0_1 (ji6)).f12, (rd_T29 x0_1 (ji6)).f13, (rd_T29 x0_1 (ji6)).f14, (rd_T29 x0_1 (ji6)).f15, (rd_T29 x0_1 (ji6)).f16, (rd_T29 x0_1 (ji6)).f17, (rd_T29 x0_1 (ji6)).f18, (rd_T29 x0_1 (ji6)).f19⟩ : S29)) (k29_mkM _ _ _ (⟨(rd_T29 x0_1 (ji6)).f0, (rd_T29 x0_1 (ji6)).f1, (rd_T29 x0_1 (ji6)).f2, (rd_T29 x0_1 (ji6)).f3, (rd_T29 x0_1 (ji6)).f4, (rd_T29 x0_1 (ji6)).f5, (rd_T29 x0_1 (ji6)).f6, (rd_T29 x0_1 (ji6)).f7, (rd_T29 x0_1 (ji6)).f8, (rd_T29 x0_1 (ji6)).f9, (rd_T29 x0_1 (ji6)).f10, (rd_T29 x0_1 (ji6)).f11, (rd_T29 x0_1 (ji6)).f12, (rd_T29 x0_1 (ji6)).f13, (rd_T29 x0_1 (ji6)).f14, (rd_T29 x0_1 (ji6)).f15, (rd_T29 x0_1 (ji6)).f16, (rd_T29 x0_1 (ji6)).f17, (rd_T29 x0_1 (ji6)).f18, (rd_T29 x0_1 (ji6)).f19⟩ : S29) ) (fun _ hk => hk)).1
         rw [← Ny136.out] at HP16
         have HQ16 := mkA HP16
         clear hcl16 hcc16 hfr16 hM16 HP16
         have p13 : 0 ≤ ((ji6) : Int) := odt
         have q13 : ((ji6) : Int) < ((x0_1.length : Int) : Int) := odt
         obtain ⟨ce13, hcl13, hM13, hcc13, hfr13⟩ := Kd.R_elem HQ16.out z29 ((ji6) : Int) p13 q13
         obtain rfl := k29_openM hM13
         have HE13 := mkA (show World.there _ go12 (((ji6) : Int).toNat * k29.sz + 0) 20 from there_of hcl13 hcc13 hfr13)
         clear hcl13 hcc13 hfr13 hM13
         replace p13 := eq_true p13
         replace q13 := eq_true q13
         obtain ⟨ce17, hcl17, hM17, hcc17, hfr17⟩ := Kd.R_elem HQ16.out z29 ((ji6) : Int) (odt) (by have h_ : ((ji6) : Int) < ((x0_1.length : Int) : Int) := odt; first | exact h_ | (have e_ := (Kd.R_reads' HO_0.out).1; omega) | simpa using h_)
         obtain rfl := k29_openM hM17
         have HP17 := (Kd.R_seg HQ16.out ((ji6) : Int) (odt) (by have h_ : ((ji6) : Int) < ((x0_1.length : Int) : Int) := odt; first | exact h_ | (have e_ := (Kd.R_reads' HO_0.out).1; omega) | simpa using h_) (seg := [.int .i64 ((rd_T29 x0_1 (ji9)).f0), .int .i64 ((rd_T29 x0_1 (ji9)).f1), .string ((rd_T29 x0_1 (ji9)).f2), .string ((rd_T29 x0_1 (ji9)).f3), .string ((rd_T29 x0_1 (ji9)).f4), .int .i64 ((rd_T29 x0_1 (ji9)).f5), .int .i64 ((rd_T29 x0_1 (ji9)).f6), .int .i64 ((rd_T29 x0_1 (ji9)).f7), .int .i64 ((rd_T29 x0_1 (ji9)).f8), .bool ((rd_T29 x0_1 (ji9)).f9), .int .i64 ((rd_T29 x0_1 (ji9)).f10), .int .i64 ((rd_T29 x0_1 (ji9)).f11), .int .i64 ((rd_T29 x0_1 (ji9)).f12), .string ((rd_T29 x0_1 (ji9)).f13), .int .i64 ((rd_T29 x0_1 (ji9)).f14), .int .i64 ((rd_T29 x0_1 (ji9)).f15), .string ((rd_T29 x0_1 (ji9)).f16), .int .i64 ((rd_T29 x0_1 (ji9)).f17), .int .i64 ((rd_T29 x0_1 (ji9)).f18), .string ((rd_T29 x0_1 (ji9)).f19)]) (j := 0) hcl17 hcc17 (show 20 ≤ 20 from by decide) (x' := (⟨(rd_T29 x0_1 (ji9)).f0, (rd_T29 x0_1 (ji9)).f1, (rd_T29 x0_1 (ji9)).f2, (rd_T29 x0_1 (ji9)).f3, (rd_T29 x0_1 (ji9)).f4, (rd_T29 x0_1 (ji9)).f5, (rd_T29 x0_1 (ji9)).f6, (rd_T29 x0_1 (ji9)).f7, (rd_T29 x0_1 (ji9)).f8, (rd_T29 x0_1 (ji9)).f9, (rd_T29 x0_1 (ji9)).f10, (rd_T29 x0_1 (ji9)).f11, (rd_T29 x0_1 (ji9)).f12, (rd_T29 x0_1 (ji9)).f13, (rd_T29 x0_1 (ji9)).f14, (rd_T29 x0_1 (ji9)).f15, (rd_T29 x0_1 (ji9)).f16, (rd_T29 x0_1 (ji9)).f17, (rd_T29 x0_1 (ji9)).f18, (rd_T29 x0_1 (ji9)).f19⟩ : S29)) (k29_mkM _ _ _ (⟨(rd_T29 x0_1 (ji9)).f0, (rd_T29 x0_1 (ji9)).f1, (rd_T29 x0_1 (ji9)).f2, (rd_T29 x0_1 (ji9)).f3, (rd_T29 x0_1 (ji9)).f4, (rd_T29 x0_1 (ji9)).f5, (rd_T29 x0_1 (ji9)).f6, (rd_T29 x0_1 (ji9)).f7, (rd_T29 x0_1 (ji9)).f8, (rd_T29 x0_1 (ji9)).f9, (rd_T29 x0_1 (ji9)).f10, (rd_T29 x0_1 (ji9)).f11, (rd_T29 x0_1 (ji9)).f12, (rd_T29 x0_1 (ji9)).f13, (rd_T29 x0_1 (ji9)).f14, (rd_T29 x0_1 (ji9)).f15, (rd_T29 x0_1 (ji9)).f16, (rd_T29 x0_1 (ji9)).f17, (rd_T29 x0_1 (ji9)).f18, (rd_T29 x0_1 (ji9)).f19⟩ : S29) ) (fun _ hk => hk)).1
         rw [← Ny137.out] at HP17
         have HQ17 := mkA HP17
         clear hcl17 hcc17 hfr17 hM17 HP17
         refine start_ (n := 24) (S := fun w' => w'.cell? ⟨go12, (((ji6)).toNat * 20), none⟩ = some (.int .i64 ((rd_T29 x0_1 (ji6)).f0)) ∧ w'.cell? ⟨go12, (((ji6)).toNat * 20) + 1, none⟩ = some (.int .i64 ((rd_T29 x0_1 (ji6)).f1)) ∧ w'.cell? ⟨go12, (((ji6)).toNat * 20) + 2, none⟩ = some (.string ((rd_T29 x0_1 (ji6)).f2)) ∧ w'.cell? ⟨go12, (((ji6)).toNat * 20) + 3, none⟩ = some (.string ((rd_T29 x0_1 (ji6)).f3)) ∧ w'.cell? ⟨go12, (((ji6)).toNat * 20) + 4, none⟩ = some (.string ((rd_T29 x0_1 (ji6)).f4)) ∧ w'.cell? ⟨go12, (((ji6)).toNat * 20) + 5, none⟩ = some (.int .i64 ((rd_T29 x0_1 (ji6)).f5)) ∧ w'.cell? ⟨go12, (((ji6)).toNat * 20) + 6, none⟩ = some (.int .i64 ((rd_T29 x0_1 (ji6)).f6)) ∧ w'.cell? ⟨go12, (((ji6)).toNat * 20) + 7, none⟩ = some (.int .i64 ((rd_T29 x0_1 (ji6)).f7)) ∧ w'.cell? ⟨go12, (((ji6)).toNat * 20) + 8, none⟩ = some (.int .i64 ((rd_T29 x0_1 (ji6)).f8)) ∧ w'.cell? ⟨go12, (((ji6)).toNat * 20) + 9, none⟩ = some (.bool ((rd_T29 x0_1 (ji6)).f9)) ∧ w'.cell? ⟨go12, (((ji6)).toNat * 20) + 10, none⟩ = some (.int .i64 ((rd_T29 x0_1 (ji6)).f10)) ∧ w'.cell? ⟨go12, (((ji6)).toNat * 20) + 11, none⟩ = some (.int .i64 ((rd_T29 x0_1 (ji6)).f11)) ∧ w'.cell? ⟨go12, (((ji6)).toNat * 20) + 12, none⟩ = some (.int .i64 ((rd_T29 x0_1 (ji6)).f12)) ∧ w'.cell? ⟨go12, (((ji6)).toNat * 20) + 13, none⟩ = some (.string ((rd_T29 x0_1 (ji6)).f13)) ∧ w'.cell? ⟨go12, (((ji6)).toNat * 20) + 14, none⟩ = some (.int .i64 ((rd_T29 x0_1 (ji6)).f14)) ∧ w'.cell? ⟨go12, (((ji6)).toNat * 20) + 15, none⟩ = some (.int .i64 ((rd_T29 x0_1 (ji6)).f15)) ∧ w'.cell? ⟨go12, (((ji6)).toNat * 20) + 16, none⟩ = some (.string ((rd_T29 x0_1 (ji6)).f16)) ∧ w'.cell? ⟨go12, (((ji6)).toNat * 20) + 17, none⟩ = some (.int .i64 ((rd_T29 x0_1 (ji6)).f17)) ∧ w'.cell? ⟨go12, (((ji6)).toNat * 20) + 18, none⟩ = some (.int .i64 ((rd_T29 x0_1 (ji6)).f18)) ∧ w'.cell? ⟨go12, (((ji6)).toNat * 20) + 19, none⟩ = some (.string ((rd_T29 x0_1 (ji6)).f19)) ∧ w'.cell? ⟨go12, (((ji9)).toNat * 20), none⟩ = some (.int .i64 ((rd_T29 x0_1 (ji9)).f0)) ∧ w'.cell? ⟨go12, (((ji9)).toNat * 20) + 1, none⟩ = some (.int .i64 ((rd_T29 x0_1 (ji9)).f1)) ∧ w'.cell? ⟨go12, (((ji9)).toNat * 20) + 2, none⟩ = some (.string ((rd_T29 x0_1 (ji9)).f2)) ∧ w'.cell? ⟨go12, (((ji9)).toNat * 20) + 3, none⟩ = some (.string ((rd_T29 x0_1 (ji9)).f3)) ∧ w'.cell? ⟨go12, (((ji9)).toNat * 20) + 4, none⟩ = some (.string ((rd_T29 x0_1 (ji9)).f4)) ∧ w'.cell? ⟨go12, (((ji9)).toNat * 20) + 5, none⟩ = some (.int .i64 ((rd_T29 x0_1 (ji9)).f5)) ∧ w'.cell? ⟨go12, (((ji9)).toNat * 20) + 6, none⟩ = some (.int .i64 ((rd_T29 x0_1 (ji9)).f6)) ∧ w'.cell? ⟨go12, (((ji9)).toNat * 20) + 7, none⟩ = some (.int .i64 ((rd_T29 x0_1 (ji9)).f7)) ∧ w'.cell? ⟨go12, (((ji9)).toNat * 20) + 8, none⟩ = some (.int .i64 ((rd_T29 x0_1 (ji9)).f8)) ∧ w'.cell? ⟨go12, (((ji9)).toNat * 20) + 9, none⟩ = some (.bool ((rd_T29 x0_1 (ji9)).f9)) ∧ w'.cell? ⟨go12, (((ji9)).toNat * 20) + 10, none⟩ = some (.int .i64 ((rd_T29 x0_1 (ji9)).f10)) ∧ w'.cell? ⟨go12, (((ji9)).toNat * 20) + 11, none⟩ = some (.int .i64 ((rd_T29 x0_1 (ji9)).f11)) ∧ w'.cell? ⟨go12, (((ji9)).toNat * 20) + 12, none⟩ = some (.int .i64 ((rd_T29 x0_1 (ji9)).f12)) ∧ w'.cell? ⟨go12, (((ji9)).toNat * 20) + 13, none⟩ = some (.string ((rd_T29 x0_1 (ji9)).f13)) ∧ w'.cell? ⟨go12, (((ji9)).toNat * 20) + 14, none⟩ = some (.int .i64 ((rd_T29 x0_1 (ji9)).f14)) ∧ w'.cell? ⟨go12, (((ji9)).toNat * 20) + 15, none⟩ = some (.int .i64 ((rd_T29 x0_1 (ji9)).f15)) ∧ w'.cell? ⟨go12, (((ji9)).toNat * 20) + 16, none⟩ = some (.string ((rd_T29 x0_1 (ji9)).f16)) ∧ w'.cell? ⟨go12, (((ji9)).toNat * 20) + 17, none⟩ = some (.int .i64 ((rd_T29 x0_1 (ji9)).f17)) ∧ w'.cell? ⟨go12, (((ji9)).toNat * 20) + 18, none⟩ = some (.int .i64 ((rd_T29 x0_1 (ji9)).f18)) ∧ w'.cell? ⟨go12, (((ji9)).toNat * 20) + 19, none⟩ = some (.string ((rd_T29 x0_1 (ji9)).f19))) (ds := [21, 23]) #[false, false, false, false, false, false, false, false, false, false, false, false, false, false, false, false, false, false, false, false, false, false, false, false] (by kernel_rfl) rfl rfl ⟨hx134_0, hx134_1, hx134_2, hx134_3, hx134_4, hx134_5, hx134_6, hx134_7, hx134_8, hx134_9, hx134_10, hx134_11, hx134_12, hx134_13, hx134_14, hx134_15, hx134_16, hx134_17, hx134_18, hx134_19, hx135_0, hx135_1, hx135_2, hx135_3, hx135_4, hx135_5, hx135_6, hx135_7, hx135_8, hx135_9, hx135_10, hx135_11, hx135_12, hx135_13, hx135_14, hx135_15, hx135_16, hx135_17, hx135_18, hx135_19⟩ (fun hHeld => ?_); refine with_tabW api_Ep_37.tab3 api_Ep_37.bits3 (fun HT_ HW_ => ?_)
         generalize wr.drew = w14 at HO_0 HK HB GG12 HQ16 HQ17 hx134_0 hx134_1 hx134_10 hx134_11 hx134_12 hx134_13 hx134_14 hx134_15 hx134_16 hx134_17 hx134_18 hx134_19 hx134_2 hx134_3 hx134_4 hx134_5 hx134_6 hx134_7 hx134_8 hx134_9 hx135_0 hx135_1 hx135_10 hx135_11 hx135_12 hx135_13 hx135_14 hx135_15 hx135_16 hx135_17 hx135_18 hx135_19 hx135_2 hx135_3 hx135_4 hx135_5 hx135_6 hx135_7 hx135_8 hx135_9 hHeld HE12 HE13 ⊢
         obtain ⟨w14s0, hw14s0⟩ : ∃ W_, W_ = w14.setCells go12 (((ji9) : Int).toNat * k29.sz + 0) [.int .i64 ((rd_T29 x0_1 (ji6)).f0), .int .i64 ((rd_T29 x0_1 (ji6)).f1), .string ((rd_T29 x0_1 (ji6)).f2), .string ((rd_T29 x0_1 (ji6)).f3), .string ((rd_T29 x0_1 (ji6)).f4), .int .i64 ((rd_T29 x0_1 (ji6)).f5), .int .i64 ((rd_T29 x0_1 (ji6)).f6), .int .i64 ((rd_T29 x0_1 (ji6)).f7), .int .i64 ((rd_T29 x0_1 (ji6)).f8), .bool ((rd_T29 x0_1 (ji6)).f9), .int .i64 ((rd_T29 x0_1 (ji6)).f10), .int .i64 ((rd_T29 x0_1 (ji6)).f11), .int .i64 ((rd_T29 x0_1 (ji6)).f12), .string ((rd_T29 x0_1 (ji6)).f13), .int .i64 ((rd_T29 x0_1 (ji6)).f14), .int .i64 ((rd_T29 x0_1 (ji6)).f15), .string ((rd_T29 x0_1 (ji6)).f16), .int .i64 ((rd_T29 x0_1 (ji6)).f17), .int .i64 ((rd_T29 x0_1 (ji6)).f18), .string ((rd_T29 x0_1 (ji6)).f19)] := ⟨_, rfl⟩
         rw [← hw14s0] at HQ16 HQ17 HE13
         obtain ⟨w14s1, hw14s1⟩ : ∃ W_, W_ = w14s0.setCells go12 (((ji6) : Int).toNat * k29.sz + 0) [.int .i64 ((rd_T29 x0_1 (ji9)).f0), .int .i64 ((rd_T29 x0_1 (ji9)).f1), .string ((rd_T29 x0_1 (ji9)).f2), .string ((rd_T29 x0_1 (ji9)).f3), .string ((rd_T29 x0_1 (ji9)).f4), .int .i64 ((rd_T29 x0_1 (ji9)).f5), .int .i64 ((rd_T29 x0_1 (ji9)).f6), .int .i64 ((rd_T29 x0_1 (ji9)).f7), .int .i64 ((rd_T29 x0_1 (ji9)).f8), .bool ((rd_T29 x0_1 (ji9)).f9), .int .i64 ((rd_T29 x0_1 (ji9)).f10), .int .i64 ((rd_T29 x0_1 (ji9)).f11), .int .i64 ((rd_T29 x0_1 (ji9)).f12), .string ((rd_T29 x0_1 (ji9)).f13), .int .i64 ((rd_T29 x0_1 (ji9)).f14), .int .i64 ((rd_T29 x0_1 (ji9)).f15), .string ((rd_T29 x0_1 (ji9)).f16), .int .i64 ((rd_T29 x0_1 (ji9)).f17), .int .i64 ((rd_T29 x0_1 (ji9)).f18), .string ((rd_T29 x0_1 (ji9)).f19)] := ⟨_, rfl⟩
         rw [← hw14s1] at HQ17
         have HBs := mkA (show Below w0.heap.size w0 w14s1 from by rw [hw14s1, hw14s0]; exact (below_cells GB12.out _ _ (below_cells GB12.out _ _ HB.out)))
         have HKs := mkA (show Kept w w14s1 _ from by rw [hw14s1, hw14s0]; exact (kept_cells HMgo12.out _ _ (kept_cells HMgo12.out _ _ HK.out)))
         have ew14s0 := mkA hw14s0
         clear hw14s0
         have ew14s1 := mkA hw14s1
         clear hw14s1
         refine pu 0 16 HT_ ?_
         refine pu 1 17 HT_ ?_
         refine pu 2 18 HT_ ?_
         refine pu 3 19 HT_ ?_
         refine pu 4 20 HT_ ?_
         refine pu 5 21 HT_ ?_
         refine pu 6 22 HT_ ?_
         refine pu 7 23 HT_ ?_
         refine pu 8 24 HT_ ?_
         refine pu 9 25 HT_ ?_
         refine pu 10 26 HT_ ?_
         refine pu 11 27 HT_ ?_
         refine pu 12 28 HT_ ?_
         refine pu 14 30 HT_ ?_
         refine pu 15 31 HT_ ?_
         refine pu 16 32 HT_ ?_
         refine pu 17 33 HT_ ?_
         refine pu 18 34 HT_ ?_
         refine take_ (i := 13) (N := some 29) (v := ?_) (a' := ?_) #[true, true, true, true, true, true, true, true, true, true, true, true, true, true, true, true, true, true, true, false, false, false, false, false] rfl rfl (take_ofW HT_.out HW_.out (by kernel_rfl)) (fun _ _ _ h => h) (Or.inl ⟨by rfl, ?_⟩) hHeld ?_ ?_
         rotate_left
         ·rintro w' ⟨s0, s1, s2, s3, s4, s5, s6, s7, s8, s9, s10, s11, s12, s13, s14, s15, s16, s17, s18, s19, s20, s21, s22, s23, s24, s25, s26, s27, s28, s29, s30, s31, s32, s33, s34, s35, s36, s37, s38, s39⟩
          first | (have hz_ := fun (a : Act) (o : Oper) (x : Operand) (ho : o.op = .load 29 x) (hx : a.eval x = _) => exec_load_at (P := Try.prog) (W := w') (cs := [_, _, _, _, _, _, _, _, _, _, _, _, _, _, _, _, _, _, _]) ho hx Try.underlying29 rfl (by kernel_rfl) s0 ⟨s1, s2, s3, s4, s5, s6, s7, s8, s9, s10, s11, s12, s13, s14, s15, s16, s17, s18, s19, trivial⟩; refine (hz_ _ _ (.tmp 28) ?_ ?_).trans ?_; (focus rfl); (focus (first | (with_reducible rfl) | (go_simp; done))); with_reducible rfl) | (have hz_ := fun (a : Act) (o : Oper) (x : Operand) (ho : o.op = .load 29 x) (hx : a.eval x = _) => exec_load_at (P := Try.prog) (W := w') (cs := [_, _, _, _, _, _, _, _, _, _, _, _, _, _, _, _, _, _, _]) ho hx Try.underlying29 rfl (by kernel_rfl) s20 ⟨s21, s22, s23, s24, s25, s26, s27, s28, s29, s30, s31, s32, s33, s34, s35, s36, s37, s38, s39, trivial⟩; refine (hz_ _ _ (.tmp 28) ?_ ?_).trans ?_; (focus rfl); (focus (first | (with_reducible rfl) | (go_simp; done))); with_reducible rfl) | (go_simp; with_reducible rfl)
         rotate_left
         ·simp only [Act.put, sA, s0, sS, i64_w, i32_w]
          rfl
         refine take_ (i := 19) (N := some 35) (v := ?_) (a' := ?_) #[true, true, true, true, true, true, true, true, true, true, true, true, true, true, true, true, true, true, true, true, false, false, false, false] rfl rfl (take_ofW HT_.out HW_.out (by kernel_rfl)) (fun _ _ _ h => h) (Or.inl ⟨by rfl, ?_⟩) hHeld ?_ ?_
         rotate_left
         ·rintro w' ⟨s0, s1, s2, s3, s4, s5, s6, s7, s8, s9, s10, s11, s12, s13, s14, s15, s16, s17, s18, s19, s20, s21, s22, s23, s24, s25, s26, s27, s28, s29, s30, s31, s32, s33, s34, s35, s36, s37, s38, s39⟩
          first | (have hz_ := fun (a : Act) (o : Oper) (x : Operand) (ho : o.op = .load 29 x) (hx : a.eval x = _) => exec_load_at (P := Try.prog) (W := w') (cs := [_, _, _, _, _, _, _, _, _, _, _, _, _, _, _, _, _, _, _]) ho hx Try.underlying29 rfl (by kernel_rfl) s0 ⟨s1, s2, s3, s4, s5, s6, s7, s8, s9, s10, s11, s12, s13, s14, s15, s16, s17, s18, s19, trivial⟩; refine (hz_ _ _ (.tmp 34) ?_ ?_).trans ?_; (focus rfl); (focus (first | (with_reducible rfl) | (go_simp; done))); with_reducible rfl) | (have hz_ := fun (a : Act) (o : Oper) (x : Operand) (ho : o.op = .load 29 x) (hx : a.eval x = _) => exec_load_at (P := Try.prog) (W := w') (cs := [_, _, _, _, _, _, _, _, _, _, _, _, _, _, _, _, _, _, _]) ho hx Try.underlying29 rfl (by kernel_rfl) s20 ⟨s21, s22, s23, s24, s25, s26, s27, s28, s29, s30, s31, s32, s33, s34, s35, s36, s37, s38, s39, trivial⟩; refine (hz_ _ _ (.tmp 34) ?_ ?_).trans ?_; (focus rfl); (focus (first | (with_reducible rfl) | (go_simp; done))); with_reducible rfl) | (go_simp; with_reducible rfl)
         rotate_left
         ·simp only [Act.put, sA, s0, sS, i64_w, i32_w]
          rfl
         refine pu 20 36 HT_ ?_
         refine last_ (i := 21) (N := none) #[true, true, true, true, true, true, true, true, true, true, true, true, true, true, true, true, true, true, true, true, true, true, false, false] rfl rfl (one_of HT_.out (by kernel_rfl)) (by decide) (fun K hK => ?_)
         refine seg_ (ty := 29) (b := go12) (o := (((ji9) : Int).toNat * k29.sz + 0)) (cells := #[.int .i64 ((rd_T29 x0_1 (ji6)).f0), .int .i64 ((rd_T29 x0_1 (ji6)).f1), .string ((rd_T29 x0_1 (ji6)).f2), .string ((rd_T29 x0_1 (ji6)).f3), .string ((rd_T29 x0_1 (ji6)).f4), .int .i64 ((rd_T29 x0_1 (ji6)).f5), .int .i64 ((rd_T29 x0_1 (ji6)).f6), .int .i64 ((rd_T29 x0_1 (ji6)).f7), .int .i64 ((rd_T29 x0_1 (ji6)).f8), .bool ((rd_T29 x0_1 (ji6)).f9), .int .i64 ((rd_T29 x0_1 (ji6)).f10), .int .i64 ((rd_T29 x0_1 (ji6)).f11), .int .i64 ((rd_T29 x0_1 (ji6)).f12), .string ((rd_T29 x0_1 (ji6)).f13), .int .i64 ((rd_T29 x0_1 (ji6)).f14), .int .i64 ((rd_T29 x0_1 (ji6)).f15), .string ((rd_T29 x0_1 (ji6)).f16), .int .i64 ((rd_T29 x0_1 (ji6)).f17), .int .i64 ((rd_T29 x0_1 (ji6)).f18), .string ((rd_T29 x0_1 (ji6)).f19)]) (by rfl) rfl ⟨_, _, rfl, (by first | rfl | (go_simp; done) | (go_simp; rfl)), (by first | rfl | (go_simp; done) | (go_simp; rfl))⟩ HE12.out (by kernel_rfl) (by first | rfl | (simp [Value.oneCell']; done)) ew14s0.out.symm ?_
         refine hK.out _ _ ?_
         clear hK K
         refine pu 22 37 HT_ ?_
         refine last_ (i := 23) (N := none) #[true, true, true, true, true, true, true, true, true, true, true, true, true, true, true, true, true, true, true, true, true, true, true, true] rfl rfl (one_of HT_.out (by kernel_rfl)) (by decide) (fun K hK => ?_)
         refine seg_ (ty := 29) (b := go12) (o := (((ji6) : Int).toNat * k29.sz + 0)) (cells := #[.int .i64 ((rd_T29 x0_1 (ji9)).f0), .int .i64 ((rd_T29 x0_1 (ji9)).f1), .string ((rd_T29 x0_1 (ji9)).f2), .string ((rd_T29 x0_1 (ji9)).f3), .string ((rd_T29 x0_1 (ji9)).f4), .int .i64 ((rd_T29 x0_1 (ji9)).f5), .int .i64 ((rd_T29 x0_1 (ji9)).f6), .int .i64 ((rd_T29 x0_1 (ji9)).f7), .int .i64 ((rd_T29 x0_1 (ji9)).f8), .bool ((rd_T29 x0_1 (ji9)).f9), .int .i64 ((rd_T29 x0_1 (ji9)).f10), .int .i64 ((rd_T29 x0_1 (ji9)).f11), .int .i64 ((rd_T29 x0_1 (ji9)).f12), .string ((rd_T29 x0_1 (ji9)).f13), .int .i64 ((rd_T29 x0_1 (ji9)).f14), .int .i64 ((rd_T29 x0_1 (ji9)).f15), .string ((rd_T29 x0_1 (ji9)).f16), .int .i64 ((rd_T29 x0_1 (ji9)).f17), .int .i64 ((rd_T29 x0_1 (ji9)).f18), .string ((rd_T29 x0_1 (ji9)).f19)]) (by rfl) rfl ⟨_, _, rfl, (by first | rfl | (go_simp; done) | (go_simp; rfl)), (by first | rfl | (go_simp; done) | (go_simp; rfl))⟩ HE13.out (by kernel_rfl) (by first | rfl | (simp [Value.oneCell']; done)) ew14s1.out.symm ?_
         refine hK.out _ _ ?_
         clear hK K HB HK
         have HB := HBs
         have HK := HKs
         clear HBs HKs
         refine done_ (done_of HT_.out (by kernel_rfl)) ?_
         try go_wp2
         go_roundg k1
         case measure => have := HK1.out; omega
         case rel => exact ⟨(y137), (wrap64 (x10_1 + 1)), (by first | rfl | (simp; done) | (simp [*]; done)), H', ⟨by have := HK1.out; omega⟩, ⟨by (with_reducible repeat (first | apply Kd.R_alloc | apply Kd.R_drewN | apply Kd.R_drew)); exact HQ17.out⟩, ⟨by repeat (first | (with_reducible first | exact HK.out | apply Kept.alloc | apply Kept.drewN | apply Kept.drew | refine Kept.setCell ?_ HMgo12.out _ | refine Kept.setCell ?_ HMgo12.out _ | refine Kept.setCell ?_ HMgo12.out _ | refine Kept.setCell ?_ HMgo12.out _ | refine Kept.setCell ?_ HMgo12.out _ | refine Kept.setCell ?_ HMgo12.out _ | refine Kept.setCell ?_ HMgo12.out _ | refine Kept.setCell ?_ HMgo12.out _ | refine Kept.setCell ?_ HMgo12.out _ | refine Kept.setCell ?_ HMgo12.out _ | refine Kept.setCell ?_ HMgo12.out _ | refine Kept.setCell ?_ HMgo12.out _ | refine Kept.setCell ?_ HMgo12.out _ | refine Kept.setCell ?_ HMgo12.out _ | refine Kept.setCell ?_ HMgo12.out _ | refine Kept.setCell ?_ HMgo12.out _ | refine Kept.setCell ?_ HMgo12.out _ | refine Kept.setCell ?_ HMgo12.out _ | refine Kept.setCell ?_ HMgo12.out _ | refine Kept.setCell ?_ HMgo12.out _ | refine Kept.setCell ?_ HMgo12.out _ | refine Kept.setCell ?_ HMgo12.out _ | refine Kept.setCell ?_ HMgo12.out _ | refine Kept.setCell ?_ HMgo12.out _ | refine Kept.setCell ?_ HMgo12.out _ | refine Kept.setCell ?_ HMgo12.out _ | refine Kept.setCell ?_ HMgo12.out _ | refine Kept.setCell ?_ HMgo12.out _ | refine Kept.setCell ?_ HMgo12.out _ | refine Kept.setCell ?_ HMgo12.out _ | refine Kept.setCell ?_ HMgo12.out _ | refine Kept.setCell ?_ HMgo12.out _ | refine Kept.setCell ?_ HMgo12.out _ | refine Kept.setCell ?_ HMgo12.out _ | refine Kept.setCell ?_ HMgo12.out _ | refine Kept.setCell ?_ HMgo12.out _ | refine Kept.setCell ?_ HMgo12.out _ | refine Kept.setCell ?_ HMgo12.out _ | refine Kept.setCell ?_ HMgo12.out _ | refine Kept.setCell ?_ HMgo12.out _) | exact HK.out)⟩, ⟨by repeat (first | (with_reducible first | exact HB.out | apply below_alloc | apply pw_below_drewN | apply below_drew1 | refine below_set ?_ GB12.out | refine below_set ?_ GB12.out | refine below_set ?_ GB12.out | refine below_set ?_ GB12.out | refine below_set ?_ GB12.out | refine below_set ?_ GB12.out | refine below_set ?_ GB12.out | refine below_set ?_ GB12.out | refine below_set ?_ GB12.out | refine below_set ?_ GB12.out | refine below_set ?_ GB12.out | refine below_set ?_ GB12.out | refine below_set ?_ GB12.out | refine below_set ?_ GB12.out | refine below_set ?_ GB12.out | refine below_set ?_ GB12.out | refine below_set ?_ GB12.out | refine below_set ?_ GB12.out | refine below_set ?_ GB12.out | refine below_set ?_ GB12.out | refine below_set ?_ GB12.out | refine below_set ?_ GB12.out | refine below_set ?_ GB12.out | refine below_set ?_ GB12.out | refine below_set ?_ GB12.out | refine below_set ?_ GB12.out | refine below_set ?_ GB12.out | refine below_set ?_ GB12.out | refine below_set ?_ GB12.out | refine below_set ?_ GB12.out | refine below_set ?_ GB12.out | refine below_set ?_ GB12.out | refine below_set ?_ GB12.out | refine below_set ?_ GB12.out | refine below_set ?_ GB12.out | refine below_set ?_ GB12.out | refine below_set ?_ GB12.out | refine below_set ?_ GB12.out | refine below_set ?_ GB12.out | refine below_set ?_ GB12.out) | exact HB.out)⟩⟩
       ·rw [if_neg c11] at H
        exact absurd H (by simp)
      ·rw [if_neg c10] at H
       exact absurd H (by simp)
     ·rw [if_neg c8] at H
      exact absurd H (by simp)
    ·rw [if_neg c7] at H
     exact absurd H (by simp)
   ·rw [if_neg c5] at H
    have c5b0 : decide (x10_1 < a3) = false := decide_eq_false c5
    clear c5
    focus
     obtain rfl := Option.some.inj H
     go_wp2
     first | go_end0 | ((try simp only [Exit.inBlock, Exit.then]); refine bodyPost_ret (results_none rfl _ _ _) rfl ?_)
     exact ⟨by first | rfl | (simp [errW_none, errW_some] <;> rfl) | (simp [*, errW_none, errW_some] <;> rfl), by (with_reducible repeat (first | apply Kd.R_alloc | apply Kd.R_drewN | apply Kd.R_drew)); exact HO_0.out, below_y HB.out, by repeat (first | (with_reducible first | exact HK.out | apply Kept.alloc | apply Kept.drewN | apply Kept.drew) | exact HK.out)⟩

end Go.Proofs.Ytcpojadlnpnbaaa.XRet
