-- By a program of this work (xprint.py) over the translation; Lean checks it.
import Derived.Test.YtkkikdjfigffhabXDirx0
import Derived.Test.YtkkikdjfigffhabXDirx31
namespace Go.Proofs.Ytkkikdjfigffhab.XDir
open Go.RowKit Go.Proofs.YtkkikdjfigffhabW.PrintWords Go.Proofs.YtkkikdjfigffhabW.PrintLast Go.Proofs.YtkkikdjfigffhabW.PrintMore
attribute [local go_sem] max2_int min2_int max_two min_two max_three min_three max_four min_four   -- for this text's walks alone
set_option linter.unusedVariables false
set_option linter.unusedSimpArgs false

/-! ### newsreelref10_All: function 99 -/
def newsreelref10_All.l0 : Nat → List (S77) → List (S69) → Int → Option ((List (S77)) × Bool)
 | 0, _, _, _ => none
 | k + 1, x0, x1, x6 => if x6 < (x1.length : Int) then (if 0 ≤ x6 then ((newsreelref10_Done.f k x0 ((rd_T69 x1 x6).f0) ((rd_T69 x1 x6).f1) ((rd_T69 x1 x6).f2) ((rd_T69 x1 x6).f3)).bind fun bt310 => (if bt310.2 = 0 then (newsreelref10_All.l0 k bt310.1 x1 (wrap64 (x6 + 1))) else (some (([] : List (S77)), false)))) else (none)) else (some (x0, true))
def newsreelref10_All.f (k : Nat) (l0 : List (S77)) (l1 : List (S69)) : Option ((List (S77)) × Bool) := newsreelref10_All.l0 k l0 l1 0
theorem newsreelref10_All.mono_l : ∀ k, (∀ y0 y1 y2, LeO (newsreelref10_All.l0 k y0 y1 y2) (newsreelref10_All.l0 (k + 1) y0 y1 y2))
 | 0 => fun _ _ _ r h => by simp [newsreelref10_All.l0] at h
 | k + 1 => by
  have ih0 := newsreelref10_All.mono_l k
  ·intro y0 y1 y2
   unfold newsreelref10_All.l0
   repeat' first
   | (with_reducible exact ih0 _ _ _)
   | (with_reducible exact newsreelref10_Done.mono _ _ _ _ _ _)
   | (with_reducible exact LeO.refl _)
   | (with_reducible exact LeO.none _)
   | (with_reducible refine LeO.ite ?_ ?_)
   | (with_reducible refine LeO.bind ?_ (fun _ => ?_))
   | exact ih0 _ _ _
   | exact newsreelref10_Done.mono _ _ _ _ _ _
   | exact LeO.none _
   | refine LeO.ite ?_ ?_
   | refine LeO.bind ?_ (fun _ => ?_)
theorem newsreelref10_All.mono : ∀ a0 a1 k, LeO (newsreelref10_All.f k a0 a1) (newsreelref10_All.f (k + 1) a0 a1) := by
 intro a0 a1 k
 have ih0 := newsreelref10_All.mono_l k
 unfold newsreelref10_All.f
 repeat' first
   | (with_reducible exact ih0 _ _ _)
   | (with_reducible exact newsreelref10_Done.mono _ _ _ _ _ _)
   | (with_reducible exact LeO.refl _)
   | (with_reducible exact LeO.none _)
   | (with_reducible refine LeO.ite ?_ ?_)
   | (with_reducible refine LeO.bind ?_ (fun _ => ?_))
   | exact ih0 _ _ _
   | exact newsreelref10_Done.mono _ _ _ _ _ _
   | exact LeO.none _
   | refine LeO.ite ?_ ?_
   | refine LeO.bind ?_ (fun _ => ?_)
set_option maxHeartbeats 8000000 in
set_option maxRecDepth 100000 in
theorem newsreelref10_All.calls (k : Nat) (P0_ : Nat → Prop) (A0 : Option Addr) (c0 : Nat) (l0 : List (S77)) (A1 : Option Addr) (c1 : Nat) (l1 : List (S69)) (r1 : List (S77)) (r2 : Bool) (w : World) (hs0 : Kd.V k77 77 w w.heap.size (fun k_ => P0_ k_) (.slice A0 l0.length c0) l0) (hr1 : Kd.C k69 w A1 l1.length l1) (hc1 : l1.length ≤ c1) (h : newsreelref10_All.f k l0 l1 = some (r1, r2)) :
  Calls Try.prog 99 #[.slice A0 l0.length c0, .slice A1 l1.length c1] w fun e w' => ∃ v0_ : Value, e = .returned (.tuple #[v0_, .bool r2]) ∧ Kd.V k77 77 w' w.heap.size (fun k_ => (P0_ k_ ∨ w.heap.size ≤ k_)) v0_ r1 ∧ Below w.heap.size w w' := by
 have hu69 := Try.underlying69
 have HO0 := mkA (show Kd.V k77 77 w w.heap.size (fun k_ => (P0_ k_ ∨ w.heap.size ≤ k_)) (.slice A0 l0.length c0) l0 from Kd.V_mono hs0 (fun k_ hk => .inl hk))
 have HR1 := mkA hr1
 have HC1 := mkA hc1
 clear hr1 hc1
 have HB := mkA (Below.refl w.heap.size w)
 have H : (newsreelref10_All.l0 k l0 l1 0) = some (r1, r2) := h
 clear h
 have H' := mkA H
 clear H
 go_enter Try.func99, Try.ntmps99
 go_wp2
 go_loopg [0, 6] k (fun kq v0 v6 w' => ∃ (x0_1 : List (S77)) (x6_1 : Int), v6 = .int .i64 x6_1 ∧ Aside0 (newsreelref10_All.l0 kq x0_1 l1 x6_1 = some (r1, r2)) ∧ Aside0 (kq ≤ k) ∧ Aside0 (Kd.V k77 77 w' w.heap.size (fun k_ => (P0_ k_ ∨ w.heap.size ≤ k_)) v0 x0_1) ∧ Aside0 (Below w.heap.size w w'))
 case atStart => exact ⟨(l0), (0), (by first | rfl | (simp; done) | (simp [*]; done)), H', ⟨Nat.le_refl _⟩, ⟨by (with_reducible repeat (first | apply Kd.V_alloc | apply Kd.V_drewN | apply Kd.V_drew)); exact HO0.out⟩, ⟨below_y HB.out⟩⟩
 case round =>
  clear H'
  try clear c1
  try clear p2
  obtain ⟨x0_1, x6_1, rfl, HA, HK1, HO_0, HB⟩ := hrel
  cases gk with
  | zero => exact absurd HA.out (by simp [newsreelref10_All.l0])
  | succ k1 =>
   have H := HA.out
   clear HA
   simp only [newsreelref10_All.l0] at H
   by_cases c3 : x6_1 < (l1.length : Int)
   ·rw [if_pos c3] at H
    have c3b0 : decide (x6_1 < (l1.length : Int)) = true := decide_eq_true c3
    clear c3
    by_cases c4 : 0 ≤ x6_1
    ·rw [if_pos c4] at H
     have c4b0 : decide (0 ≤ x6_1) = true := decide_eq_true c4
     clear c4
     replace H := Option.bind_eq_some_iff.mp H
     obtain ⟨⟨t310, t313⟩, A50, H⟩ := H
     replace H : (if t313 = 0 then (newsreelref10_All.l0 k1 t310 l1 (wrap64 (x6_1 + 1))) else (some (([] : List (S77)), false))) = some (r1, r2) := H
     have A5 := mkA A50
     clear A50
     by_cases c6 : t313 = 0
     ·rw [if_pos c6] at H
      have c6b0 : (t313 == 0) = true := beq_iff_eq.mpr c6
      have c6b1 : (t313 != 0) = false := bne_eq_false_iff_eq.mpr c6
      clear c6
      as_aux_lemma =>
       have H' := mkA H
       clear H
       have p309 : 0 ≤ (x6_1 : Int) := odt
       have q309 : x6_1 < (l1.length : Int) := odt
       obtain ⟨ad309, e309, hx309_0, hx309_1, hx309_2, hx309_3⟩ := at_T69 HR1.out x6_1 p309 q309
       cases e309
       replace hx309_0 := (cb HB.out hx309_0).trans hx309_0
       replace hx309_1 := (cb HB.out hx309_1).trans hx309_1
       replace hx309_2 := (cb HB.out hx309_2).trans hx309_2
       replace hx309_3 := (cb HB.out hx309_3).trans hx309_3
       replace p309 := eq_true p309
       replace q309 := eq_true q309
       obtain ⟨Ao7, co7, eo7⟩ := Kd.V_slice HO_0.out
       subst eo7
       go_wp2_with (first | ((with_reducible refine gate_load (t := 69) rfl ?_); refine load_at2 (t := 69) ?hg ?ho (c0 := _) (cs := [_, _, _]) Try.underlying69 rfl (by kernel_rfl) hx309_0 ⟨hx309_1, hx309_2, hx309_3, trivial⟩ ?_; (case hg => rfl); (case ho => refine ⟨_, rfl, ?_⟩; first | (with_reducible rfl) | (go_simp; done))) | ((with_reducible refine gate_callee (f := 93) rfl ?_); refine goesL_ (some 21) rfl rfl Try.func93 (by kernel_rfl) rfl #[.slice Ao7 x0_1.length co7, .agg #[.int .i64 ((rd_T69 l1 x6_1).f0), .string ((rd_T69 l1 x6_1).f1), .string ((rd_T69 l1 x6_1).f2), .int .i64 ((rd_T69 l1 x6_1).f3)]] rfl ca ?_; (with_reducible refine (newsreelref10_Done.calls k1 _ _ x0_1 ((rd_T69 l1 x6_1).f0) ((rd_T69 l1 x6_1).f1) ((rd_T69 l1 x6_1).f2) ((rd_T69 l1 x6_1).f3) t310 t313 _ ?side1 ?side2 A5.out).mono ?_); (case side1 => exact Kd.C_y (Kd.V_reads' HO_0.out).2.2); (case side2 => exact (Kd.V_reads' HO_0.out).2.1); rintro e w8 ⟨v311, rfl, ho0, hb⟩; refine ⟨_, rfl, ?_⟩; have n0_ := mkA (Kd.V_elder' (Kd.V_y HO_0.out) (Kd.R_base ho0) hb); have n1_ := mkA (Kd.R_lower (Kd.R_newM (M := fun k_ => (w.heap.size ≤ k_)) ho0 (below_size (below_y HB.out)) (fun k_ h_ => h_)) (below_size (below_y HB.out))); have n2_ := mkA (below_step (below_y HB.out) hb); clear HO_0; clear HB; have HO_0 := n0_; have HO312 := n1_; have HB := n2_; clear n0_ n1_ n2_; (try clear hb); (try clear hb2); (try clear hk); (try clear hi); (try clear ho0)))
       go_roundg k1
       case measure => have := HK1.out; omega
       case rel => exact ⟨(t310), (wrap64 (x6_1 + 1)), (by first | rfl | (simp; done) | (simp [*]; done)), H', ⟨by have := HK1.out; omega⟩, ⟨Kd.V_mono (Kd.R_V (by (with_reducible repeat (first | apply Kd.R_alloc | apply Kd.R_drewN | apply Kd.R_drew)); exact Kd.R_mono HO312.out (fun _ hk => hk.1))) (fun k_ hk => by first | exact ⟨(.inr (hk.1)), hk.2⟩ | exact (.inr (hk)))⟩, ⟨below_y HB.out⟩⟩
     ·rw [if_neg c6] at H
      have c6b0 : (t313 == 0) = false := beq_eq_false_iff_ne.mpr c6
      have c6b1 : (t313 != 0) = true := bne_iff_ne.mpr c6
      as_aux_lemma =>
       simp only [Option.some.injEq, Prod.mk.injEq] at H
       obtain ⟨rfl, rfl⟩ := H
       have p309 : 0 ≤ (x6_1 : Int) := odt
       have q309 : x6_1 < (l1.length : Int) := odt
       obtain ⟨ad309, e309, hx309_0, hx309_1, hx309_2, hx309_3⟩ := at_T69 HR1.out x6_1 p309 q309
       cases e309
       replace hx309_0 := (cb HB.out hx309_0).trans hx309_0
       replace hx309_1 := (cb HB.out hx309_1).trans hx309_1
       replace hx309_2 := (cb HB.out hx309_2).trans hx309_2
       replace hx309_3 := (cb HB.out hx309_3).trans hx309_3
       replace p309 := eq_true p309
       replace q309 := eq_true q309
       obtain ⟨Ao9, co9, eo9⟩ := Kd.V_slice HO_0.out
       subst eo9
       go_wp2_with (first | ((with_reducible refine gate_load (t := 69) rfl ?_); refine load_at2 (t := 69) ?hg ?ho (c0 := _) (cs := [_, _, _]) Try.underlying69 rfl (by kernel_rfl) hx309_0 ⟨hx309_1, hx309_2, hx309_3, trivial⟩ ?_; (case hg => rfl); (case ho => refine ⟨_, rfl, ?_⟩; first | (with_reducible rfl) | (go_simp; done))) | ((with_reducible refine gate_callee (f := 93) rfl ?_); refine goesL_ (some 21) rfl rfl Try.func93 (by kernel_rfl) rfl #[.slice Ao9 x0_1.length co9, .agg #[.int .i64 ((rd_T69 l1 x6_1).f0), .string ((rd_T69 l1 x6_1).f1), .string ((rd_T69 l1 x6_1).f2), .int .i64 ((rd_T69 l1 x6_1).f3)]] rfl ca ?_; (with_reducible refine (newsreelref10_Done.calls k1 _ _ x0_1 ((rd_T69 l1 x6_1).f0) ((rd_T69 l1 x6_1).f1) ((rd_T69 l1 x6_1).f2) ((rd_T69 l1 x6_1).f3) t310 t313 _ ?side1 ?side2 A5.out).mono ?_); (case side1 => exact Kd.C_y (Kd.V_reads' HO_0.out).2.2); (case side2 => exact (Kd.V_reads' HO_0.out).2.1); rintro e w10 ⟨v311, rfl, ho0, hb⟩; refine ⟨_, rfl, ?_⟩; have n0_ := mkA (Kd.V_elder' (Kd.V_y HO_0.out) (Kd.R_base ho0) hb); have n1_ := mkA (Kd.R_lower (Kd.R_newM (M := fun k_ => (w.heap.size ≤ k_)) ho0 (below_size (below_y HB.out)) (fun k_ h_ => h_)) (below_size (below_y HB.out))); have n2_ := mkA (below_step (below_y HB.out) hb); clear HO_0; clear HB; have HO_0 := n0_; have HO312 := n1_; have HB := n2_; clear n0_ n1_ n2_; (try clear hb); (try clear hb2); (try clear hk); (try clear hi); (try clear ho0)))
       go_ret2
       exact ⟨_, by first | rfl | (simp [errW_none, errW_some] <;> rfl) | (simp [*, errW_none, errW_some] <;> rfl), (by first | exact Kd.V_nil _ _ _ _ _ | exact Kd.V_mono (Kd.R_V (by first | exact Kd.R_nil _ _ _ _ _ | exact Kd.N_nil _ _ _ _ _ | exact Kd.V_nil _ _ _ _ _ | exact Kd.Q_nil _ _ _ _ _ | exact Kd.S_nil _ _ _ _ _)) (fun k_ hk => by first | exact ⟨(.inr (hk.1)), hk.2⟩ | exact (.inr (hk)))), below_y HB.out⟩
    ·rw [if_neg c4] at H
     exact absurd H (by simp)
   ·rw [if_neg c3] at H
    have c3b0 : decide (x6_1 < (l1.length : Int)) = false := decide_eq_false c3
    clear c3
    as_aux_lemma =>
     simp only [Option.some.injEq, Prod.mk.injEq] at H
     obtain ⟨rfl, rfl⟩ := H
     go_wp2
     go_ret2
     exact ⟨_, by first | rfl | (simp [errW_none, errW_some] <;> rfl) | (simp [*, errW_none, errW_some] <;> rfl), by (with_reducible repeat (first | apply Kd.V_alloc | apply Kd.V_drewN | apply Kd.V_drew)); exact HO_0.out, below_y HB.out⟩

end Go.Proofs.Ytkkikdjfigffhab.XDir
