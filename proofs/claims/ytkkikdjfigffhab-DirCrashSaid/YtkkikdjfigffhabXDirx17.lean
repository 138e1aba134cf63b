-- By a program of this work (xprint.py) over the translation; Lean checks it.
import Derived.Test.YtkkikdjfigffhabXDirx0
import Derived.Test.YtkkikdjfigffhabXDirx16
namespace Go.Proofs.Ytkkikdjfigffhab.XDir
open Go.RowKit Go.Proofs.YtkkikdjfigffhabW.PrintWords Go.Proofs.YtkkikdjfigffhabW.PrintLast Go.Proofs.YtkkikdjfigffhabW.PrintMore
attribute [local go_sem] max2_int min2_int max_two min_two max_three min_three max_four min_four   -- for this text's walks alone
set_option linter.unusedVariables false
set_option linter.unusedSimpArgs false

/-! ### dir_all: function 97 -/
def dir_all.l0 : Nat → List (S77) → List (S69) → Int → Int → Option ((List (S77)) × Bool)
 | 0, _, _, _, _ => none
 | k + 1, x0, x10, x11, x12 => if x12 < x11 then (if 0 ≤ x12 then (if x12 < (x10.length : Int) then ((dir_done.f k x0 ((rd_T69 x10 x12).f0) ((rd_T69 x10 x12).f1) ((rd_T69 x10 x12).f2) ((rd_T69 x10 x12).f3)).bind fun bt144 => (if bt144.2 = 0 then (dir_all.l0 k bt144.1 x10 x11 (wrap64 (x12 + 1))) else (some (([] : List (S77)), false)))) else (none)) else (none)) else (some (x0, true))
def dir_all.f (k : Nat) (l0 : List (S77)) (l1 : List (S69)) : Option ((List (S77)) × Bool) := dir_all.l0 k l0 l1 (l1.length : Int) 0
theorem dir_all.mono_l : ∀ k, (∀ y0 y1 y2 y3, LeO (dir_all.l0 k y0 y1 y2 y3) (dir_all.l0 (k + 1) y0 y1 y2 y3))
 | 0 => fun _ _ _ _ r h => by simp [dir_all.l0] at h
 | k + 1 => by
  have ih0 := dir_all.mono_l k
  ·intro y0 y1 y2 y3
   unfold dir_all.l0
   repeat' first
   | (with_reducible exact ih0 _ _ _ _)
   | (with_reducible exact dir_done.mono _ _ _ _ _ _)
   | (with_reducible exact LeO.refl _)
   | (with_reducible exact LeO.none _)
   | (with_reducible refine LeO.ite ?_ ?_)
   | (with_reducible refine LeO.bind ?_ (fun _ => ?_))
   | exact ih0 _ _ _ _
   | exact dir_done.mono _ _ _ _ _ _
   | exact LeO.none _
   | refine LeO.ite ?_ ?_
   | refine LeO.bind ?_ (fun _ => ?_)
theorem dir_all.mono : ∀ a0 a1 k, LeO (dir_all.f k a0 a1) (dir_all.f (k + 1) a0 a1) := by
 intro a0 a1 k
 have ih0 := dir_all.mono_l k
 unfold dir_all.f
 repeat' first
   | (with_reducible exact ih0 _ _ _ _)
   | (with_reducible exact dir_done.mono _ _ _ _ _ _)
   | (with_reducible exact LeO.refl _)
   | (with_reducible exact LeO.none _)
   | (with_reducible refine LeO.ite ?_ ?_)
   | (with_reducible refine LeO.bind ?_ (fun _ => ?_))
   | exact ih0 _ _ _ _
   | exact dir_done.mono _ _ _ _ _ _
   | exact LeO.none _
   | refine LeO.ite ?_ ?_
   | refine LeO.bind ?_ (fun _ => ?_)
set_option maxHeartbeats 8000000 in
set_option maxRecDepth 100000 in
theorem dir_all.calls (k : Nat) (P0_ : Nat → Prop) (A0 : Option Addr) (c0 : Nat) (l0 : List (S77)) (A1 : Option Addr) (c1 : Nat) (l1 : List (S69)) (r1 : List (S77)) (r2 : Bool) (w : World) (hs0 : Kd.V k77 77 w w.heap.size (fun k_ => P0_ k_) (.slice A0 l0.length c0) l0) (hr1 : Kd.C k69 w A1 l1.length l1) (hc1 : l1.length ≤ c1) (h : dir_all.f k l0 l1 = some (r1, r2)) :
  Calls Try.prog 97 #[.slice A0 l0.length c0, .slice A1 l1.length c1] w fun e w' => ∃ v0_ : Value, e = .returned (.tuple #[v0_, .bool r2]) ∧ Kd.V k77 77 w' w.heap.size (fun k_ => (P0_ k_ ∨ w.heap.size ≤ k_)) v0_ r1 ∧ Below w.heap.size w w' := by
 have hu69 := Try.underlying69
 have HO0 := mkA (show Kd.V k77 77 w w.heap.size (fun k_ => (P0_ k_ ∨ w.heap.size ≤ k_)) (.slice A0 l0.length c0) l0 from Kd.V_mono hs0 (fun k_ hk => .inl hk))
 have HR1 := mkA hr1
 have HC1 := mkA hc1
 clear hr1 hc1
 have HB := mkA (Below.refl w.heap.size w)
 have H : (dir_all.l0 k l0 l1 (l1.length : Int) 0) = some (r1, r2) := h
 clear h
 have H' := mkA H
 clear H
 go_enter Try.func97, Try.ntmps97
 go_wp2
 go_loopg [0, 12] k (fun kq v0 v12 w' => ∃ (x0_1 : List (S77)) (x12_1 : Int), v12 = .int .i64 x12_1 ∧ Aside0 (dir_all.l0 kq x0_1 l1 (l1.length : Int) x12_1 = some (r1, r2)) ∧ Aside0 (kq ≤ k) ∧ Aside0 (Kd.V k77 77 w' w.heap.size (fun k_ => (P0_ k_ ∨ w.heap.size ≤ k_)) v0 x0_1) ∧ Aside0 (Below w.heap.size w w'))
 case atStart => exact ⟨(l0), (0), (by first | rfl | (simp; done) | (simp [*]; done)), H', ⟨Nat.le_refl _⟩, ⟨by (with_reducible repeat (first | apply Kd.V_alloc | apply Kd.V_drewN | apply Kd.V_drew)); exact HO0.out⟩, ⟨below_y HB.out⟩⟩
 case round =>
  clear H'
  try clear c1
  try clear p2
  obtain ⟨x0_1, x12_1, rfl, HA, HK1, HO_0, HB⟩ := hrel
  cases gk with
  | zero => exact absurd HA.out (by simp [dir_all.l0])
  | succ k1 =>
   have H := HA.out
   clear HA
   simp only [dir_all.l0] at H
   by_cases c3 : x12_1 < (l1.length : Int)
   ·rw [if_pos c3] at H
    have c3b0 : decide (x12_1 < (l1.length : Int)) = true := decide_eq_true c3
    clear c3
    by_cases c4 : 0 ≤ x12_1
    ·rw [if_pos c4] at H
     have c4b0 : decide (0 ≤ x12_1) = true := decide_eq_true c4
     clear c4
     by_cases c5 : x12_1 < (l1.length : Int)
     ·rw [if_pos c5] at H
      have c5b0 : decide (x12_1 < (l1.length : Int)) = true := decide_eq_true c5
      clear c5
      replace H := Option.bind_eq_some_iff.mp H
      obtain ⟨⟨t144, t147⟩, A60, H⟩ := H
      replace H : (if t147 = 0 then (dir_all.l0 k1 t144 l1 (l1.length : Int) (wrap64 (x12_1 + 1))) else (some (([] : List (S77)), false))) = some (r1, r2) := H
      have A6 := mkA A60
      clear A60
      by_cases c7 : t147 = 0
      ·rw [if_pos c7] at H
       have c7b0 : (t147 == 0) = true := beq_iff_eq.mpr c7
       have c7b1 : (t147 != 0) = false := bne_eq_false_iff_eq.mpr c7
       clear c7
       as_aux_lemma =>
        have H' := mkA H
        clear H
        have p142 : 0 ≤ (x12_1 : Int) := odt
        have q142 : x12_1 < (l1.length : Int) := odt
        obtain ⟨ad142, e142, hx142_0, hx142_1, hx142_2, hx142_3⟩ := at_T69 HR1.out x12_1 p142 q142
        cases e142
        replace hx142_0 := (cb HB.out hx142_0).trans hx142_0
        replace hx142_1 := (cb HB.out hx142_1).trans hx142_1
        replace hx142_2 := (cb HB.out hx142_2).trans hx142_2
        replace hx142_3 := (cb HB.out hx142_3).trans hx142_3
        replace p142 := eq_true p142
        replace q142 := eq_true q142
        go_wp2_with (first | ((with_reducible refine gate_load (t := 69) rfl ?_); refine load_at2 (t := 69) ?hg ?ho (c0 := _) (cs := [_, _, _]) Try.underlying69 rfl (by kernel_rfl) hx142_0 ⟨hx142_1, hx142_2, hx142_3, trivial⟩ ?_; (case hg => rfl); (case ho => refine ⟨_, rfl, ?_⟩; first | (with_reducible rfl) | (go_simp; done))) | ((with_reducible refine gate_load (t := 69) rfl ?_); refine load_row3 (t := 69) (g := gb143) ?hg BK143.out ?ho ?hb Try.underlying69 rfl ?hs ?_; (case hg => rfl); (case ho => refine ⟨_, rfl, ?_⟩; first | (with_reducible rfl) | (go_simp; done)); (case hb => (with_reducible repeat (first | refine blk_drewN ?_ _ | refine blk_drew ?_ | refine blk_alloc ?_ _)); with_reducible exact BK143.out); (case hs => kernel_rfl)) | ((with_reducible refine gate_dst (N := 7) rfl ?_); refine box_event ?hg (N := 7) ?hd (cs := #[.int .i64 0, .string (⟨#[]⟩ : ByteArray), .string (⟨#[]⟩ : ByteArray), .int .i64 0]) (t := 69) ?hr ?_; (case hd => rfl); (case hg => rfl); (case hr => first | (go_simp; done) | (go_simp; rfl)); intro gb143 hg w8 hbox hb; have n0_ := mkA (Kd.V_below (Kd.V_elderB (Kd.V_y HO_0.out) gb143 (Nat.le_of_eq hg.symm)) hb); have n1_ := mkA (below_step (below_y HB.out) hb); have n2_ := mkA (hbox); have n3_ := mkA ((gz hg HB.out : w.heap.size ≤ gb143)); have n4_ := mkA ((gz hg HB.out : w.heap.size ≤ gb143)); clear HO_0; clear HB; have HO_0 := n0_; have HB := n1_; have BK143 := n2_; have GW143 := n3_; have GE143 := n4_; clear n0_ n1_ n2_ n3_ n4_; clear hb hbox hg; have hcz9_0 := bc BK143.out 0 (.int .i64 0) rfl; have hcz9_1 := bc BK143.out 1 (.string (⟨#[]⟩ : ByteArray)) rfl; have hcz9_2 := bc BK143.out 2 (.string (⟨#[]⟩ : ByteArray)) rfl; have hcz9_3 := bc BK143.out 3 (.int .i64 0) rfl; have hfz9_0 := blk_frozen BK143.out 0; have hfz9_1 := blk_frozen BK143.out 1; have hfz9_2 := blk_frozen BK143.out 2; have hfz9_3 := blk_frozen BK143.out 3) | ((with_reducible refine gate_store (t := 69) (p := 7) rfl ?_); refine store_whole2 (t := 69) (g := gb143) ?hg ?hn (cells := #[.int .i64 ((rd_T69 l1 x12_1).f0), .string ((rd_T69 l1 x12_1).f1), .string ((rd_T69 l1 x12_1).f2), .int .i64 ((rd_T69 l1 x12_1).f3)]) ?ho (blk_y BK143.out) (by kernel_rfl) rfl ?h1 ?_; (case hg => rfl); (case hn => rfl); (case ho => refine ⟨_, _, rfl, ?_, ?_⟩; all_goals (first | (with_reducible rfl) | (go_simp; done) | rfl | (go_simp; rfl))); (case h1 => first | rfl | simp [Value.oneCell']); intro w10 hw; have hg : w8.grownBy w10 (some gb143) := (by rw [hw]; exact grown_setRow _ _ _); have n0_ := mkA ((by have h0_ : Kd.V k77 77 w8 w.heap.size (fun k_ => (P0_ k_ ∨ w.heap.size ≤ k_) ∧ k_ ≠ gb143) u0 x0_1 := (Kd.V_y HO_0.out); exact Kd.V_grown h0_ hg (fun k_ hk_ e_ => hk_.2 (Option.some.inj e_)) : Kd.V k77 77 w10 w.heap.size (fun k_ => (P0_ k_ ∨ w.heap.size ≤ k_) ∧ k_ ≠ gb143) u0 x0_1)); have n1_ := mkA ((by rw [hw]; exact setRow_heap _ _ _ _ _ _ (blk_y BK143.out) : w10.heap[gb143]? = some (.cells #[.int .i64 ((rd_T69 l1 x12_1).f0), .string ((rd_T69 l1 x12_1).f1), .string ((rd_T69 l1 x12_1).f2), .int .i64 ((rd_T69 l1 x12_1).f3)] 69 (0, 0)))); have n2_ := mkA ((by rw [hw]; exact below_setRow (below_y HB.out) GE143.out _ : Below w.heap.size w w10)); clear HO_0; clear BK143; clear HB; have HO_0 := n0_; have BK143 := n1_; have HB := n2_; clear n0_ n1_ n2_; clear hg hw; have hcz11_0 := bc BK143.out 0 (.int .i64 ((rd_T69 l1 x12_1).f0)) rfl; have hcz11_1 := bc BK143.out 1 (.string ((rd_T69 l1 x12_1).f1)) rfl; have hcz11_2 := bc BK143.out 2 (.string ((rd_T69 l1 x12_1).f2)) rfl; have hcz11_3 := bc BK143.out 3 (.int .i64 ((rd_T69 l1 x12_1).f3)) rfl; have hfz11_0 := blk_frozen BK143.out 0; have hfz11_1 := blk_frozen BK143.out 1; have hfz11_2 := blk_frozen BK143.out 2; have hfz11_3 := blk_frozen BK143.out 3; obtain ⟨Ao12, co12, eo12⟩ := Kd.V_slice HO_0.out; subst eo12) | ((with_reducible refine gate_callee (f := 90) rfl ?_); refine goesL_ (some 19) rfl rfl Try.func90 (by kernel_rfl) rfl #[.slice Ao12 x0_1.length co12, .agg #[.int .i64 ((rd_T69 l1 x12_1).f0), .string ((rd_T69 l1 x12_1).f1), .string ((rd_T69 l1 x12_1).f2), .int .i64 ((rd_T69 l1 x12_1).f3)]] rfl ca ?_; (with_reducible refine (dir_done.calls k1 _ _ x0_1 ((rd_T69 l1 x12_1).f0) ((rd_T69 l1 x12_1).f1) ((rd_T69 l1 x12_1).f2) ((rd_T69 l1 x12_1).f3) t144 t147 _ ?side1 ?side2 A6.out).mono ?_); (case side1 => exact Kd.C_y (Kd.V_reads' HO_0.out).2.2); (case side2 => exact (Kd.V_reads' HO_0.out).2.1); rintro e w13 ⟨v145, rfl, ho0, hb⟩; refine ⟨_, rfl, ?_⟩; have n0_ := mkA (Kd.V_elder' (Kd.V_y HO_0.out) (Kd.R_base ho0) hb); have n1_ := mkA (Kd.R_lower (Kd.R_newM (M := fun k_ => (w.heap.size ≤ k_)) ho0 (below_size (below_y HB.out)) (fun k_ h_ => h_)) (below_size (below_y HB.out))); have n2_ := mkA (blk_below (blk_y BK143.out) hb); have n3_ := mkA (below_step (below_y HB.out) hb); clear HO_0; clear BK143; clear HB; have HO_0 := n0_; have HO146 := n1_; have BK143 := n2_; have HB := n3_; clear n0_ n1_ n2_ n3_; (try clear hb); (try clear hb2); (try clear hk); (try clear hi); (try clear ho0)))
        go_roundg k1
        case measure => have := HK1.out; omega
        case rel => exact ⟨(t144), (wrap64 (x12_1 + 1)), (by first | rfl | (simp; done) | (simp [*]; done)), H', ⟨by have := HK1.out; omega⟩, ⟨Kd.V_mono (Kd.R_V (by (with_reducible repeat (first | apply Kd.R_alloc | apply Kd.R_drewN | apply Kd.R_drew)); exact Kd.R_mono HO146.out (fun _ hk => hk.1))) (fun k_ hk => by first | exact ⟨(.inr (hk.1)), hk.2⟩ | exact (.inr (hk)))⟩, ⟨by repeat (first | (with_reducible first | exact HB.out | apply below_alloc | apply pw_below_drewN | apply below_drew1 | refine below_set ?_ GE143.out) | exact HB.out)⟩⟩
      ·rw [if_neg c7] at H
       have c7b0 : (t147 == 0) = false := beq_eq_false_iff_ne.mpr c7
       have c7b1 : (t147 != 0) = true := bne_iff_ne.mpr c7
       as_aux_lemma =>
        simp only [Option.some.injEq, Prod.mk.injEq] at H
        obtain ⟨rfl, rfl⟩ := H
        have p142 : 0 ≤ (x12_1 : Int) := odt
        have q142 : x12_1 < (l1.length : Int) := odt
        obtain ⟨ad142, e142, hx142_0, hx142_1, hx142_2, hx142_3⟩ := at_T69 HR1.out x12_1 p142 q142
        cases e142
        replace hx142_0 := (cb HB.out hx142_0).trans hx142_0
        replace hx142_1 := (cb HB.out hx142_1).trans hx142_1
        replace hx142_2 := (cb HB.out hx142_2).trans hx142_2
        replace hx142_3 := (cb HB.out hx142_3).trans hx142_3
        replace p142 := eq_true p142
        replace q142 := eq_true q142
        go_wp2_with (first | ((with_reducible refine gate_load (t := 69) rfl ?_); refine load_at2 (t := 69) ?hg ?ho (c0 := _) (cs := [_, _, _]) Try.underlying69 rfl (by kernel_rfl) hx142_0 ⟨hx142_1, hx142_2, hx142_3, trivial⟩ ?_; (case hg => rfl); (case ho => refine ⟨_, rfl, ?_⟩; first | (with_reducible rfl) | (go_simp; done))) | ((with_reducible refine gate_load (t := 69) rfl ?_); refine load_row3 (t := 69) (g := gb143) ?hg BK143.out ?ho ?hb Try.underlying69 rfl ?hs ?_; (case hg => rfl); (case ho => refine ⟨_, rfl, ?_⟩; first | (with_reducible rfl) | (go_simp; done)); (case hb => (with_reducible repeat (first | refine blk_drewN ?_ _ | refine blk_drew ?_ | refine blk_alloc ?_ _)); with_reducible exact BK143.out); (case hs => kernel_rfl)) | ((with_reducible refine gate_dst (N := 7) rfl ?_); refine box_event ?hg (N := 7) ?hd (cs := #[.int .i64 0, .string (⟨#[]⟩ : ByteArray), .string (⟨#[]⟩ : ByteArray), .int .i64 0]) (t := 69) ?hr ?_; (case hd => rfl); (case hg => rfl); (case hr => first | (go_simp; done) | (go_simp; rfl)); intro gb143 hg w14 hbox hb; have n0_ := mkA (Kd.V_below (Kd.V_elderB (Kd.V_y HO_0.out) gb143 (Nat.le_of_eq hg.symm)) hb); have n1_ := mkA (below_step (below_y HB.out) hb); have n2_ := mkA (hbox); have n3_ := mkA ((gz hg HB.out : w.heap.size ≤ gb143)); have n4_ := mkA ((gz hg HB.out : w.heap.size ≤ gb143)); clear HO_0; clear HB; have HO_0 := n0_; have HB := n1_; have BK143 := n2_; have GW143 := n3_; have GE143 := n4_; clear n0_ n1_ n2_ n3_ n4_; clear hb hbox hg; have hcz15_0 := bc BK143.out 0 (.int .i64 0) rfl; have hcz15_1 := bc BK143.out 1 (.string (⟨#[]⟩ : ByteArray)) rfl; have hcz15_2 := bc BK143.out 2 (.string (⟨#[]⟩ : ByteArray)) rfl; have hcz15_3 := bc BK143.out 3 (.int .i64 0) rfl; have hfz15_0 := blk_frozen BK143.out 0; have hfz15_1 := blk_frozen BK143.out 1; have hfz15_2 := blk_frozen BK143.out 2; have hfz15_3 := blk_frozen BK143.out 3) | ((with_reducible refine gate_store (t := 69) (p := 7) rfl ?_); refine store_whole2 (t := 69) (g := gb143) ?hg ?hn (cells := #[.int .i64 ((rd_T69 l1 x12_1).f0), .string ((rd_T69 l1 x12_1).f1), .string ((rd_T69 l1 x12_1).f2), .int .i64 ((rd_T69 l1 x12_1).f3)]) ?ho (blk_y BK143.out) (by kernel_rfl) rfl ?h1 ?_; (case hg => rfl); (case hn => rfl); (case ho => refine ⟨_, _, rfl, ?_, ?_⟩; all_goals (first | (with_reducible rfl) | (go_simp; done) | rfl | (go_simp; rfl))); (case h1 => first | rfl | simp [Value.oneCell']); intro w16 hw; have hg : w14.grownBy w16 (some gb143) := (by rw [hw]; exact grown_setRow _ _ _); have n0_ := mkA ((by have h0_ : Kd.V k77 77 w14 w.heap.size (fun k_ => (P0_ k_ ∨ w.heap.size ≤ k_) ∧ k_ ≠ gb143) u0 x0_1 := (Kd.V_y HO_0.out); exact Kd.V_grown h0_ hg (fun k_ hk_ e_ => hk_.2 (Option.some.inj e_)) : Kd.V k77 77 w16 w.heap.size (fun k_ => (P0_ k_ ∨ w.heap.size ≤ k_) ∧ k_ ≠ gb143) u0 x0_1)); have n1_ := mkA ((by rw [hw]; exact setRow_heap _ _ _ _ _ _ (blk_y BK143.out) : w16.heap[gb143]? = some (.cells #[.int .i64 ((rd_T69 l1 x12_1).f0), .string ((rd_T69 l1 x12_1).f1), .string ((rd_T69 l1 x12_1).f2), .int .i64 ((rd_T69 l1 x12_1).f3)] 69 (0, 0)))); have n2_ := mkA ((by rw [hw]; exact below_setRow (below_y HB.out) GE143.out _ : Below w.heap.size w w16)); clear HO_0; clear BK143; clear HB; have HO_0 := n0_; have BK143 := n1_; have HB := n2_; clear n0_ n1_ n2_; clear hg hw; have hcz17_0 := bc BK143.out 0 (.int .i64 ((rd_T69 l1 x12_1).f0)) rfl; have hcz17_1 := bc BK143.out 1 (.string ((rd_T69 l1 x12_1).f1)) rfl; have hcz17_2 := bc BK143.out 2 (.string ((rd_T69 l1 x12_1).f2)) rfl; have hcz17_3 := bc BK143.out 3 (.int .i64 ((rd_T69 l1 x12_1).f3)) rfl; have hfz17_0 := blk_frozen BK143.out 0; have hfz17_1 := blk_frozen BK143.out 1; have hfz17_2 := blk_frozen BK143.out 2; have hfz17_3 := blk_frozen BK143.out 3; obtain ⟨Ao18, co18, eo18⟩ := Kd.V_slice HO_0.out; subst eo18) | ((with_reducible refine gate_callee (f := 90) rfl ?_); refine goesL_ (some 19) rfl rfl Try.func90 (by kernel_rfl) rfl #[.slice Ao18 x0_1.length co18, .agg #[.int .i64 ((rd_T69 l1 x12_1).f0), .string ((rd_T69 l1 x12_1).f1), .string ((rd_T69 l1 x12_1).f2), .int .i64 ((rd_T69 l1 x12_1).f3)]] rfl ca ?_; (with_reducible refine (dir_done.calls k1 _ _ x0_1 ((rd_T69 l1 x12_1).f0) ((rd_T69 l1 x12_1).f1) ((rd_T69 l1 x12_1).f2) ((rd_T69 l1 x12_1).f3) t144 t147 _ ?side1 ?side2 A6.out).mono ?_); (case side1 => exact Kd.C_y (Kd.V_reads' HO_0.out).2.2); (case side2 => exact (Kd.V_reads' HO_0.out).2.1); rintro e w19 ⟨v145, rfl, ho0, hb⟩; refine ⟨_, rfl, ?_⟩; have n0_ := mkA (Kd.V_elder' (Kd.V_y HO_0.out) (Kd.R_base ho0) hb); have n1_ := mkA (Kd.R_lower (Kd.R_newM (M := fun k_ => (w.heap.size ≤ k_)) ho0 (below_size (below_y HB.out)) (fun k_ h_ => h_)) (below_size (below_y HB.out))); have n2_ := mkA (blk_below (blk_y BK143.out) hb); have n3_ := mkA (below_step (below_y HB.out) hb); clear HO_0; clear BK143; clear HB; have HO_0 := n0_; have HO146 := n1_; have BK143 := n2_; have HB := n3_; clear n0_ n1_ n2_ n3_; (try clear hb); (try clear hb2); (try clear hk); (try clear hi); (try clear ho0)))
        go_ret2
        exact ⟨_, by first | rfl | (simp [errW_none, errW_some] <;> rfl) | (simp [*, errW_none, errW_some] <;> rfl), (by first | exact Kd.V_nil _ _ _ _ _ | exact Kd.V_mono (Kd.R_V (by first | exact Kd.R_nil _ _ _ _ _ | exact Kd.N_nil _ _ _ _ _ | exact Kd.V_nil _ _ _ _ _ | exact Kd.Q_nil _ _ _ _ _ | exact Kd.S_nil _ _ _ _ _)) (fun k_ hk => by first | exact ⟨(.inr (hk.1)), hk.2⟩ | exact (.inr (hk)))), by repeat (first | (with_reducible first | exact HB.out | apply below_alloc | apply pw_below_drewN | apply below_drew1 | refine below_set ?_ GE143.out) | exact HB.out)⟩
     ·rw [if_neg c5] at H
      exact absurd H (by simp)
    ·rw [if_neg c4] at H
     exact absurd H (by simp)
   ·rw [if_neg c3] at H
    have c3b0 : decide (x12_1 < (l1.length : Int)) = false := decide_eq_false c3
    clear c3
    as_aux_lemma =>
     simp only [Option.some.injEq, Prod.mk.injEq] at H
     obtain ⟨rfl, rfl⟩ := H
     go_wp2
     go_ret2
     exact ⟨_, by first | rfl | (simp [errW_none, errW_some] <;> rfl) | (simp [*, errW_none, errW_some] <;> rfl), by (with_reducible repeat (first | apply Kd.V_alloc | apply Kd.V_drewN | apply Kd.V_drew)); exact HO_0.out, below_y HB.out⟩

end Go.Proofs.Ytkkikdjfigffhab.XDir
