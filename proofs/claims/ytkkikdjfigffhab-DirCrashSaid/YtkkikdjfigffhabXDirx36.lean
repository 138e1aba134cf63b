-- By a program of this work (xprint.py) over the translation; Lean checks it.
import Derived.Test.YtkkikdjfigffhabXDirx0
import Derived.Test.YtkkikdjfigffhabXDirx8
import Derived.Test.YtkkikdjfigffhabXDirx19
namespace Go.Proofs.Ytkkikdjfigffhab.XDir
open Go.RowKit Go.Proofs.YtkkikdjfigffhabW.PrintWords Go.Proofs.YtkkikdjfigffhabW.PrintLast Go.Proofs.YtkkikdjfigffhabW.PrintMore
attribute [local go_sem] max2_int min2_int max_two min_two max_three min_three max_four min_four   -- for this text's walks alone
set_option linter.unusedVariables false
set_option linter.unusedSimpArgs false

/-! ### dir_Sync: function 51 -/
def dir_Sync.f (k : Nat) (l0_0 : List (S77)) (l0_1 : List (S77)) (l0_2 : List (S69)) : Option ((List (S77)) × (List (S77)) × (List (S69))) := (dir_Right.f k l0_0 l0_1 l0_2).bind fun t352 => (if t352 = true then ((api_Entry_91.f l0_0).bind fun t353 => ((api_Entry_91.f l0_0).bind fun t356 => (some (t353, t356, ([] : List (S69)))))) else (some (([] : List (S77)), ([] : List (S77)), ([] : List (S69)))))
theorem dir_Sync.mono : ∀ a0 a1 a2 k, LeO (dir_Sync.f k a0 a1 a2) (dir_Sync.f (k + 1) a0 a1 a2) := by
 intro a0 a1 a2 k
 unfold dir_Sync.f
 repeat' first
   | (with_reducible exact dir_Right.mono _ _ _ _)
   | (with_reducible exact LeO.refl _)
   | (with_reducible exact LeO.none _)
   | (with_reducible refine LeO.ite ?_ ?_)
   | (with_reducible refine LeO.bind ?_ (fun _ => ?_))
   | exact dir_Right.mono _ _ _ _
   | exact LeO.none _
   | refine LeO.ite ?_ ?_
   | refine LeO.bind ?_ (fun _ => ?_)
def dir_Sync.T3 : Bool × List (List Nat × List Nat) := (true, [([], []), ([0], [0]), ([1], [1]), ([], []), ([3], [3]), ([4, 2], [4]), ([2, 5], [2, 5]), ([6, 5, 0, 1, 2, 3, 4, 5, 6], [6])])
def dir_Sync.B3 : List Nat := [0, 1, 3, 0, 8, 31, 63, 127]
theorem dir_Sync.tab3 : rtab .any (opsOf Try.f51 3) = dir_Sync.T3 := by kernel_rfl
theorem dir_Sync.bits3 : waitsOk dir_Sync.T3.2 dir_Sync.B3 = true := by kernel_rfl
set_option maxHeartbeats 8000000 in
set_option maxRecDepth 100000 in
theorem dir_Sync.calls (k : Nat) (A0_0 : Option Addr) (c0_0 : Nat) (l0_0 : List (S77)) (A0_1 : Option Addr) (c0_1 : Nat) (l0_1 : List (S77)) (A0_2 : Option Addr) (c0_2 : Nat) (l0_2 : List (S69)) (r1 : List (S77)) (r2 : List (S77)) (r3 : List (S69)) (w : World) (hr0_0 : Kd.C k77 w A0_0 l0_0.length l0_0) (hc0_0 : l0_0.length ≤ c0_0) (hr0_1 : Kd.C k77 w A0_1 l0_1.length l0_1) (hc0_1 : l0_1.length ≤ c0_1) (hr0_2 : Kd.C k69 w A0_2 l0_2.length l0_2) (hc0_2 : l0_2.length ≤ c0_2) (h : dir_Sync.f k l0_0 l0_1 l0_2 = some (r1, r2, r3)) :
  Calls Try.prog 51 #[.agg #[.slice A0_0 l0_0.length c0_0, .slice A0_1 l0_1.length c0_1, .slice A0_2 l0_2.length c0_2]] w fun e w' => ∃ v0_ v1_ v2_ : Value, e = .returned (.agg #[v0_, v1_, v2_]) ∧ Kd.R k77 77 w' w.heap.size (fun k_ => some k_ ≠ (v1_ : Value).ownBlock) v0_ r1 ∧ Kd.R k77 77 w' w.heap.size (fun k_ => some k_ ≠ (v0_ : Value).ownBlock) v1_ r2 ∧ Kd.R k69 69 w' w.heap.size (fun _ => True) v2_ r3 ∧ Below w.heap.size w w' := by
 have hu67 := Try.underlying67
 have HR0_0 := mkA hr0_0
 have HC0_0 := mkA hc0_0
 clear hr0_0 hc0_0
 have HR0_1 := mkA hr0_1
 have HC0_1 := mkA hc0_1
 clear hr0_1 hc0_1
 have HR0_2 := mkA hr0_2
 have HC0_2 := mkA hc0_2
 clear hr0_2 hc0_2
 have HB := mkA (Below.refl w.heap.size w)
 have H : ((dir_Right.f k l0_0 l0_1 l0_2).bind fun t352 => (if t352 = true then ((api_Entry_91.f l0_0).bind fun t353 => ((api_Entry_91.f l0_0).bind fun t356 => (some (t353, t356, ([] : List (S69)))))) else (some (([] : List (S77)), ([] : List (S77)), ([] : List (S69)))))) = some (r1, r2, r3) := h
 clear h
 replace H := Option.bind_eq_some_iff.mp H
 obtain ⟨t352, A20, H⟩ := H
 replace H : (if t352 = true then ((api_Entry_91.f l0_0).bind fun t353 => ((api_Entry_91.f l0_0).bind fun t356 => (some (t353, t356, ([] : List (S69)))))) else (some (([] : List (S77)), ([] : List (S77)), ([] : List (S69))))) = some (r1, r2, r3) := H
 have A2 := mkA A20
 clear A20
 by_cases c3 : t352 = true
 ·subst c3
  have H1 : ((api_Entry_91.f l0_0).bind fun t353 => ((api_Entry_91.f l0_0).bind fun t356 => (some (t353, t356, ([] : List (S69)))))) = some (r1, r2, r3) := by rw [if_pos rfl] at H; exact H
  clear H
  have H := H1
  clear H1
  replace H := Option.bind_eq_some_iff.mp H
  obtain ⟨t353, A40, H⟩ := H
  replace H : ((api_Entry_91.f l0_0).bind fun t356 => (some (t353, t356, ([] : List (S69))))) = some (r1, r2, r3) := H
  have A4 := mkA A40
  clear A40
  replace H := Option.bind_eq_some_iff.mp H
  obtain ⟨t356, A50, H⟩ := H
  replace H : (some (t353, t356, ([] : List (S69)))) = some (r1, r2, r3) := H
  have A5 := mkA A50
  clear A50
  obtain rfl : t353 = t356 := Option.some.inj (A4.out.symm.trans A5.out)
  as_aux_lemma =>
   simp only [Option.some.injEq, Prod.mk.injEq] at H
   obtain ⟨rfl, rfl, rfl⟩ := H
   go_enter Try.func51, Try.ntmps51
   try go_wp2_with (first | ((with_reducible refine gate_dst (N := 1) rfl ?_); refine box_event ?hg (N := 1) ?hd (cs := #[.slice A0_0 l0_0.length c0_0, .slice A0_1 l0_1.length c0_1, .slice A0_2 l0_2.length c0_2]) (t := 67) ?hr ?_; (case hd => rfl); (case hg => rfl); (case hr => first | (go_simp; done) | (go_simp; rfl)); intro gb350 hg w6 hbox hb; have n0_ := mkA (below_step (below_y HB.out) hb); have n1_ := mkA (hbox); have n2_ := mkA ((gz hg HB.out : w.heap.size ≤ gb350)); have n3_ := mkA ((gz hg HB.out : w.heap.size ≤ gb350)); clear HB; have HB := n0_; have BK350 := n1_; have GW350 := n2_; have GE350 := n3_; clear n0_ n1_ n2_ n3_; clear hb hbox hg) | ((with_reducible refine gate_dst (N := 2) rfl ?_); refine box_event ?hg (N := 2) ?hd (cs := #[.slice none 0 0, .slice none 0 0, .slice none 0 0]) (t := 67) ?hr ?_; (case hd => rfl); (case hg => rfl); (case hr => first | (go_simp; done) | (go_simp; rfl)); intro gb351 hg w7 hbox hb; have n0_ := mkA (blk_below (blk_y BK350.out) hb); have n1_ := mkA (below_step (below_y HB.out) hb); have n2_ := mkA (hbox); have n3_ := mkA ((gz hg HB.out : w.heap.size ≤ gb351)); have n4_ := mkA ((gz hg HB.out : w.heap.size ≤ gb351)); have n5_ := mkA ((gn hg BK350.out : gb350 ≠ gb351)); have n6_ := mkA ((gm hg BK350.out : gb351 ≠ gb350)); clear BK350; clear HB; have BK350 := n0_; have HB := n1_; have BK351 := n2_; have GW351 := n3_; have GE351 := n4_; have NB350_351 := n5_; have NB351_350 := n6_; clear n0_ n1_ n2_ n3_ n4_ n5_ n6_; clear hb hbox hg; have hnb8 := NB350_351.out; have hnc8 := NB351_350.out; have hcz9_0 := bc BK350.out 0 (.slice A0_0 l0_0.length c0_0) rfl; have hcz9_1 := bc BK350.out 1 (.slice A0_1 l0_1.length c0_1) rfl; have hcz9_2 := bc BK350.out 2 (.slice A0_2 l0_2.length c0_2) rfl; have hfz9_0 := blk_frozen BK350.out 0; have hfz9_1 := blk_frozen BK350.out 1; have hfz9_2 := blk_frozen BK350.out 2) | ((with_reducible refine gate_callee (f := 48) rfl ?_); refine goesL_ (some 4) rfl rfl Try.func48 (by kernel_rfl) rfl #[.agg #[.slice A0_0 l0_0.length c0_0, .slice A0_1 l0_1.length c0_1, .slice A0_2 l0_2.length c0_2]] rfl ca ?_; (with_reducible refine (dir_Right.calls k _ _ l0_0 _ _ l0_1 _ _ l0_2 true _ ?side1 ?side2 ?side3 ?side4 ?side5 ?side6 A2.out).mono ?_); (case side1 => exact cz HR0_0.out HB.out); (case side2 => exact HC0_0.out); (case side3 => exact cz HR0_1.out HB.out); (case side4 => exact HC0_1.out); (case side5 => exact cz HR0_2.out HB.out); (case side6 => exact HC0_2.out); rintro e w10 ⟨rfl, hb⟩; refine ⟨_, rfl, ?_⟩; have n0_ := mkA (blk_below (blk_y BK350.out) hb); have n1_ := mkA (blk_below (blk_y BK351.out) hb); have n2_ := mkA (below_step (below_y HB.out) hb); clear BK350; clear BK351; clear HB; have BK350 := n0_; have BK351 := n1_; have HB := n2_; clear n0_ n1_ n2_; (try clear hb); (try clear hb2); (try clear hk); (try clear hi)))
   have n0_ := mkA (blk_drew BK350.out)
   have n1_ := mkA (blk_drew BK351.out)
   have n2_ := mkA (below_drew1 HB.out)
   clear BK350 BK351 HB
   have BK350 := n0_
   have BK351 := n1_
   have HB := n2_
   clear n0_ n1_ n2_
   refine start_ (n := 8) (S := fun w' => w'.cell? ⟨gb350, 0, none⟩ = some (.slice A0_0 l0_0.length c0_0) ∧ w'.cell? ⟨gb350, 1, none⟩ = some (.slice A0_1 l0_1.length c0_1) ∧ w'.cell? ⟨gb350, 2, none⟩ = some (.slice A0_2 l0_2.length c0_2)) (ds := []) #[false, false, false, false, false, false, false, false] (by kernel_rfl) rfl rfl ⟨(blk_cell BK350.out 0).trans rfl, (blk_cell BK350.out 1).trans rfl, (blk_cell BK350.out 2).trans rfl⟩ (fun hHeld => ?_); refine with_tabW dir_Sync.tab3 dir_Sync.bits3 (fun HT_ HW_ => ?_)
   generalize w10.drew = w11 at BK350 BK351 HB hHeld ⊢
   refine pure_ (i := 0) (N := some 7) (v := ?_) (a' := ?_) #[true, false, false, false, false, false, false, false] rfl rfl (any_of HT_.out (by kernel_rfl)) (fun _ _ _ h => h) (Or.inl ⟨by rfl, ?_⟩) ?_ ?_
   rotate_left
   ·intro w'
    go_simp
    with_reducible rfl
   rotate_left
   ·simp only [Act.put, sA, s0, sS, i64_w, i32_w]
    rfl
   refine pure_ (i := 3) (N := some 10) (v := ?_) (a' := ?_) #[true, false, false, true, false, false, false, false] rfl rfl (any_of HT_.out (by kernel_rfl)) (fun _ _ _ h => h) (Or.inl ⟨by rfl, ?_⟩) ?_ ?_
   rotate_left
   ·intro w'
    go_simp
    with_reducible rfl
   rotate_left
   ·simp only [Act.put, sA, s0, sS, i64_w, i32_w]
    rfl
   refine take_ (i := 1) (N := some 8) (v := ?_) (a' := ?_) #[true, true, false, true, false, false, false, false] rfl rfl (take_ofW HT_.out HW_.out (by kernel_rfl)) (fun _ _ _ h => h) (Or.inl ⟨by rfl, ?_⟩) hHeld ?_ ?_
   rotate_left
   ·rintro w' ⟨s0, s1, s2⟩
    go_simp
    with_reducible rfl
   rotate_left
   ·simp only [Act.put, sA, s0, sS, i64_w, i32_w]
    rfl
   refine take_ (i := 4) (N := some 11) (v := ?_) (a' := ?_) #[true, true, false, true, true, false, false, false] rfl rfl (take_ofW HT_.out HW_.out (by kernel_rfl)) (fun _ _ _ h => h) (Or.inl ⟨by rfl, ?_⟩) hHeld ?_ ?_
   rotate_left
   ·rintro w' ⟨s0, s1, s2⟩
    go_simp
    with_reducible rfl
   rotate_left
   ·simp only [Act.put, sA, s0, sS, i64_w, i32_w]
    rfl
   refine one_ (i := 2) (N := some 9) #[true, true, true, true, true, false, false, false] rfl rfl (one_of HT_.out (by kernel_rfl)) (by decide) (fun K hK => ?_)
   refine goes_ Try.func91 (by kernel_rfl) rfl #[.slice A0_0 l0_0.length c0_0] (by rfl) rfl rfl ca ?_
   with_reducible refine (api_Entry_91.calls _ _ l0_0 t353 _ ?side1 ?side2 A4.out).mono ?_
   (case side1 => exact cz HR0_0.out HB.out)
   (case side2 => exact HC0_0.out)
   rintro e w12 ⟨v354, rfl, ho0, hb⟩
   refine ⟨_, rfl, ?_⟩
   have n0_ := mkA (Kd.R_lower ho0 (below_size (below_y HB.out)))
   have n1_ := mkA (blk_below (blk_y BK350.out) hb)
   have n2_ := mkA (blk_below (blk_y BK351.out) hb)
   have n3_ := mkA (below_step (below_y HB.out) hb)
   clear BK350 BK351 HB
   have HO355 := n0_
   have BK350 := n1_
   have BK351 := n2_
   have HB := n3_
   clear n0_ n1_ n2_ n3_
   (try clear hb)
   (try clear hb2)
   (try clear hk)
   (try clear hi)
   (try clear ho0)
   refine hK.out _ _ ⟨(blk_cell BK350.out 0).trans rfl, (blk_cell BK350.out 1).trans rfl, (blk_cell BK350.out 2).trans rfl⟩ (fun hHeld => ?_)
   clear hK K
   refine norm_ (a' := ?_) ?_ ?_
   rotate_left
   ·show Act.put _ (some 9) _ = _
    simp only [Act.put, sA, s0, sS, i64_w, i32_w]
    rfl
   refine one_ (i := 5) (N := some 12) #[true, true, true, true, true, true, false, false] rfl rfl (one_of HT_.out (by kernel_rfl)) (by decide) (fun K hK => ?_)
   refine goes_ Try.func91 (by kernel_rfl) rfl #[.slice A0_0 l0_0.length c0_0] (by rfl) rfl rfl ca ?_
   with_reducible refine (api_Entry_91.calls _ _ l0_0 t353 _ ?side1 ?side2 A5.out).mono ?_
   (case side1 => exact cz HR0_0.out HB.out)
   (case side2 => exact HC0_0.out)
   rintro e w13 ⟨v357, rfl, ho0, hb⟩
   refine ⟨_, rfl, ?_⟩
   have n0_ := mkA (Kd.R_elder' (Kd.R_y HO355.out) (Kd.R_base ho0) hb)
   have n1_ := mkA (Kd.R_lower (Kd.R_new' ho0 (Kd.R_lt (Kd.R_y HO355.out))) (below_size (below_y HB.out)))
   have n2_ := mkA (blk_below (blk_y BK350.out) hb)
   have n3_ := mkA (blk_below (blk_y BK351.out) hb)
   have n4_ := mkA (below_step (below_y HB.out) hb)
   clear HO355 BK350 BK351 HB
   have HO355 := n0_
   have HO358 := n1_
   have BK350 := n2_
   have BK351 := n3_
   have HB := n4_
   clear n0_ n1_ n2_ n3_ n4_
   (try clear hb)
   (try clear hb2)
   (try clear hk)
   (try clear hi)
   (try clear ho0)
   obtain ⟨Ao14, co14, eo14⟩ := Kd.R_slice HO358.out
   (first | subst eo14 | (injection eo14 with f1_ f2_ f3_; have f4_ := f1_.symm; have f5_ := f3_.symm; clear f1_ f2_ f3_; subst f4_; subst f5_))
   obtain ⟨Ao15, co15, eo15⟩ := Kd.R_slice HO355.out
   (first | subst eo15 | (injection eo15 with f1_ f2_ f3_; have f4_ := f1_.symm; have f5_ := f3_.symm; clear f1_ f2_ f3_; subst f4_; subst f5_))
   refine hK.out _ _ ⟨(blk_cell BK350.out 0).trans rfl, (blk_cell BK350.out 1).trans rfl, (blk_cell BK350.out 2).trans rfl⟩ (fun hHeld => ?_)
   clear hK K
   refine norm_ (a' := ?_) ?_ ?_
   rotate_left
   ·show Act.put _ (some 12) _ = _
    simp only [Act.put, sA, s0, sS, i64_w, i32_w]
    rfl
   refine pure_ (i := 6) (N := some 13) (v := ?_) (a' := ?_) #[true, true, true, true, true, true, true, false] rfl rfl (any_of HT_.out (by kernel_rfl)) (fun _ _ _ h => h) (Or.inl ⟨by rfl, ?_⟩) ?_ ?_
   rotate_left
   ·intro w'
    go_simp
    with_reducible rfl
   rotate_left
   ·simp only [Act.put, sA, s0, sS, i64_w, i32_w]
    rfl
   refine one_ (i := 7) (N := none) #[true, true, true, true, true, true, true, true] rfl rfl (one_of HT_.out (by kernel_rfl)) (by decide) (fun K hK => ?_)
   have hs16 : w13.cell? ⟨gb351, 0, none⟩ = some (.slice none 0 0) := (blk_cell BK351.out 0).trans rfl
   have hfs16 := blk_frozen BK351.out 0
   have hns16_0 := NB350_351.out
   have hms16_0 := NB351_350.out
   have hs17 : w13.cell? ⟨gb351, 1, none⟩ = some (.slice none 0 0) := (blk_cell BK351.out 1).trans rfl
   have hfs17 := blk_frozen BK351.out 1
   have hns17_0 := NB350_351.out
   have hms17_0 := NB351_350.out
   have hs18 : w13.cell? ⟨gb351, 2, none⟩ = some (.slice none 0 0) := (blk_cell BK351.out 2).trans rfl
   have hfs18 := blk_frozen BK351.out 2
   have hns18_0 := NB350_351.out
   have hms18_0 := NB351_350.out
   refine skip_ (w1 := ?_) (by rfl) rfl ?_ ?_
   rotate_left
   ·go_simp
    rfl
   refine hK.out _ _ ⟨((cell_far (p := ⟨gb351, _, none⟩) NB350_351.out _).trans (((cell_far (p := ⟨gb351, _, none⟩) NB350_351.out _).trans (((cell_far (p := ⟨gb351, _, none⟩) NB350_351.out _).trans (hHeld.1)))))), ((cell_far (p := ⟨gb351, _, none⟩) NB350_351.out _).trans (((cell_far (p := ⟨gb351, _, none⟩) NB350_351.out _).trans (((cell_far (p := ⟨gb351, _, none⟩) NB350_351.out _).trans (hHeld.2.1)))))), ((cell_far (p := ⟨gb351, _, none⟩) NB350_351.out _).trans (((cell_far (p := ⟨gb351, _, none⟩) NB350_351.out _).trans (((cell_far (p := ⟨gb351, _, none⟩) NB350_351.out _).trans (hHeld.2.2))))))⟩ (fun hHeld => ?_)
   clear hK K
   refine done_ (done_of HT_.out (by kernel_rfl)) ?_
   try go_wp2
   refine bodyPost_ret (results_cell_row rfl _ _ gb351 67 #[.slice Ao15 t353.length co15, .slice Ao14 t353.length co14, .slice none 0 0] (0, 0) _ rfl (by (with_reducible repeat (first | refine blk_drewN ?_ _ | refine blk_drew ?_ | refine blk_alloc ?_ _)); refine blk_put (cs := #[.slice Ao15 t353.length co15, .slice Ao14 t353.length co14, .slice none 0 0]) ?_ 2 _ rfl; (with_reducible repeat (first | refine blk_drewN ?_ _ | refine blk_drew ?_ | refine blk_alloc ?_ _)); refine blk_put (cs := #[.slice Ao15 t353.length co15, .slice none 0 0, .slice none 0 0]) ?_ 1 _ rfl; (with_reducible repeat (first | refine blk_drewN ?_ _ | refine blk_drew ?_ | refine blk_alloc ?_ _)); refine blk_put (cs := #[.slice none 0 0, .slice none 0 0, .slice none 0 0]) ?_ 0 _ rfl; (with_reducible repeat (first | refine blk_drewN ?_ _ | refine blk_drew ?_ | refine blk_alloc ?_ _)); exact BK351.out) Try.underlying67 rfl (by kernel_rfl)) rfl ?_
   exact ⟨_, _, _, by first | rfl | (simp [errW_none, errW_some] <;> rfl) | (simp [*, errW_none, errW_some] <;> rfl), by (with_reducible repeat (first | apply Kd.R_alloc | apply Kd.R_drewN | apply Kd.R_drew)); exact Kd.R_mono (Kd.R_far (p := ⟨gb351, 2, none⟩) (Kd.R_far (p := ⟨gb351, 1, none⟩) (Kd.R_far (p := ⟨gb351, 0, none⟩) (Kd.R_types HO355.out BK351.out (by decide)) (fun _ hk => hk.2) (.slice Ao15 t353.length co15)) (fun _ hk => hk.2) (.slice Ao14 t353.length co14)) (fun _ hk => hk.2) (.slice none 0 0)) (fun _ hk => hk.1.2), by (with_reducible repeat (first | apply Kd.R_alloc | apply Kd.R_drewN | apply Kd.R_drew)); exact Kd.R_mono (Kd.R_far (p := ⟨gb351, 2, none⟩) (Kd.R_far (p := ⟨gb351, 1, none⟩) (Kd.R_far (p := ⟨gb351, 0, none⟩) (Kd.R_types HO358.out BK351.out (by decide)) (fun _ hk => hk.2) (.slice Ao15 t353.length co15)) (fun _ hk => hk.2) (.slice Ao14 t353.length co14)) (fun _ hk => hk.2) (.slice none 0 0)) (fun _ hk => hk.1.2), by first | exact Kd.R_nil _ _ _ _ _ | exact Kd.N_nil _ _ _ _ _ | exact Kd.V_nil _ _ _ _ _ | exact Kd.Q_nil _ _ _ _ _ | exact Kd.S_nil _ _ _ _ _, by repeat (first | (with_reducible first | exact HB.out | apply below_alloc | apply pw_below_drewN | apply below_drew1 | refine below_set ?_ GE350.out | refine below_set ?_ GE351.out) | exact HB.out)⟩
 ·replace c3 := Bool.eq_false_iff.mpr c3
  subst c3
  have H1 : (some (([] : List (S77)), ([] : List (S77)), ([] : List (S69)))) = some (r1, r2, r3) := by rw [if_neg (show ¬ (false = true) by decide)] at H; exact H
  clear H
  have H := H1
  clear H1
  as_aux_lemma =>
   simp only [Option.some.injEq, Prod.mk.injEq] at H
   obtain ⟨rfl, rfl, rfl⟩ := H
   go_enter Try.func51, Try.ntmps51
   go_wp2_with (first | ((with_reducible refine gate_dst (N := 1) rfl ?_); refine box_event ?hg (N := 1) ?hd (cs := #[.slice A0_0 l0_0.length c0_0, .slice A0_1 l0_1.length c0_1, .slice A0_2 l0_2.length c0_2]) (t := 67) ?hr ?_; (case hd => rfl); (case hg => rfl); (case hr => first | (go_simp; done) | (go_simp; rfl)); intro gb350 hg w19 hbox hb; have n0_ := mkA (below_step (below_y HB.out) hb); have n1_ := mkA (hbox); have n2_ := mkA ((gz hg HB.out : w.heap.size ≤ gb350)); have n3_ := mkA ((gz hg HB.out : w.heap.size ≤ gb350)); clear HB; have HB := n0_; have BK350 := n1_; have GW350 := n2_; have GE350 := n3_; clear n0_ n1_ n2_ n3_; clear hb hbox hg) | ((with_reducible refine gate_dst (N := 2) rfl ?_); refine box_event ?hg (N := 2) ?hd (cs := #[.slice none 0 0, .slice none 0 0, .slice none 0 0]) (t := 67) ?hr ?_; (case hd => rfl); (case hg => rfl); (case hr => first | (go_simp; done) | (go_simp; rfl)); intro gb351 hg w20 hbox hb; have n0_ := mkA (blk_below (blk_y BK350.out) hb); have n1_ := mkA (below_step (below_y HB.out) hb); have n2_ := mkA (hbox); have n3_ := mkA ((gz hg HB.out : w.heap.size ≤ gb351)); have n4_ := mkA ((gz hg HB.out : w.heap.size ≤ gb351)); have n5_ := mkA ((gn hg BK350.out : gb350 ≠ gb351)); have n6_ := mkA ((gm hg BK350.out : gb351 ≠ gb350)); clear BK350; clear HB; have BK350 := n0_; have HB := n1_; have BK351 := n2_; have GW351 := n3_; have GE351 := n4_; have NB350_351 := n5_; have NB351_350 := n6_; clear n0_ n1_ n2_ n3_ n4_ n5_ n6_; clear hb hbox hg; have hnb21 := NB350_351.out; have hnc21 := NB351_350.out; have hcz22_0 := bc BK350.out 0 (.slice A0_0 l0_0.length c0_0) rfl; have hcz22_1 := bc BK350.out 1 (.slice A0_1 l0_1.length c0_1) rfl; have hcz22_2 := bc BK350.out 2 (.slice A0_2 l0_2.length c0_2) rfl; have hfz22_0 := blk_frozen BK350.out 0; have hfz22_1 := blk_frozen BK350.out 1; have hfz22_2 := blk_frozen BK350.out 2) | ((with_reducible refine gate_callee (f := 48) rfl ?_); refine goesL_ (some 4) rfl rfl Try.func48 (by kernel_rfl) rfl #[.agg #[.slice A0_0 l0_0.length c0_0, .slice A0_1 l0_1.length c0_1, .slice A0_2 l0_2.length c0_2]] rfl ca ?_; (with_reducible refine (dir_Right.calls k _ _ l0_0 _ _ l0_1 _ _ l0_2 false _ ?side1 ?side2 ?side3 ?side4 ?side5 ?side6 A2.out).mono ?_); (case side1 => exact cz HR0_0.out HB.out); (case side2 => exact HC0_0.out); (case side3 => exact cz HR0_1.out HB.out); (case side4 => exact HC0_1.out); (case side5 => exact cz HR0_2.out HB.out); (case side6 => exact HC0_2.out); rintro e w23 ⟨rfl, hb⟩; refine ⟨_, rfl, ?_⟩; have n0_ := mkA (blk_below (blk_y BK350.out) hb); have n1_ := mkA (blk_below (blk_y BK351.out) hb); have n2_ := mkA (below_step (below_y HB.out) hb); clear BK350; clear BK351; clear HB; have BK350 := n0_; have BK351 := n1_; have HB := n2_; clear n0_ n1_ n2_; (try clear hb); (try clear hb2); (try clear hk); (try clear hi); have hcz24_0 := bc BK351.out 0 (.slice none 0 0) rfl; have hcz24_1 := bc BK351.out 1 (.slice none 0 0) rfl; have hcz24_2 := bc BK351.out 2 (.slice none 0 0) rfl; have hfz24_0 := blk_frozen BK351.out 0; have hfz24_1 := blk_frozen BK351.out 1; have hfz24_2 := blk_frozen BK351.out 2))
   refine bodyPost_ret (results_cell_row rfl _ _ gb351 67 #[.slice none 0 0, .slice none 0 0, .slice none 0 0] (0, 0) _ rfl (by (with_reducible repeat (first | refine blk_drewN ?_ _ | refine blk_drew ?_ | refine blk_alloc ?_ _)); refine blk_put (cs := #[.slice none 0 0, .slice none 0 0, .slice none 0 0]) ?_ 2 _ rfl; (with_reducible repeat (first | refine blk_drewN ?_ _ | refine blk_drew ?_ | refine blk_alloc ?_ _)); refine blk_put (cs := #[.slice none 0 0, .slice none 0 0, .slice none 0 0]) ?_ 1 _ rfl; (with_reducible repeat (first | refine blk_drewN ?_ _ | refine blk_drew ?_ | refine blk_alloc ?_ _)); refine blk_put (cs := #[.slice none 0 0, .slice none 0 0, .slice none 0 0]) ?_ 0 _ rfl; (with_reducible repeat (first | refine blk_drewN ?_ _ | refine blk_drew ?_ | refine blk_alloc ?_ _)); exact BK351.out) Try.underlying67 rfl (by kernel_rfl)) rfl ?_
   exact ⟨_, _, _, by first | rfl | (simp [errW_none, errW_some] <;> rfl) | (simp [*, errW_none, errW_some] <;> rfl), by first | exact Kd.R_nil _ _ _ _ _ | exact Kd.N_nil _ _ _ _ _ | exact Kd.V_nil _ _ _ _ _ | exact Kd.Q_nil _ _ _ _ _ | exact Kd.S_nil _ _ _ _ _, by first | exact Kd.R_nil _ _ _ _ _ | exact Kd.N_nil _ _ _ _ _ | exact Kd.V_nil _ _ _ _ _ | exact Kd.Q_nil _ _ _ _ _ | exact Kd.S_nil _ _ _ _ _, by first | exact Kd.R_nil _ _ _ _ _ | exact Kd.N_nil _ _ _ _ _ | exact Kd.V_nil _ _ _ _ _ | exact Kd.Q_nil _ _ _ _ _ | exact Kd.S_nil _ _ _ _ _, by repeat (first | (with_reducible first | exact HB.out | apply below_alloc | apply pw_below_drewN | apply below_drew1 | refine below_set ?_ GE350.out | refine below_set ?_ GE351.out) | exact HB.out)⟩

end Go.Proofs.Ytkkikdjfigffhab.XDir
