-- By a program of this work (xprint.py) over the translation; Lean checks it.
import Derived.Test.YtkkikdjfigffhaaXPitx0
import Derived.Test.YtkkikdjfigffhaaXPitx6
namespace Go.Proofs.Ytkkikdjfigffhaa.XPit
open Go.RowKit Go.Proofs.YtkkikdjfigffhaaW.PrintWords Go.Proofs.YtkkikdjfigffhaaW.PrintLast Go.Proofs.YtkkikdjfigffhaaW.PrintMore
attribute [local go_sem] max2_int min2_int max_two min_two max_three min_three max_four min_four   -- for this text's walks alone
set_option linter.unusedVariables false
set_option linter.unusedSimpArgs false

/-! ### pick_When: function 41 -/
def pick_When.tk (p : Int × Bool) (n : Int) : Int × Bool := if p.2 = false ∨ n < p.1 then (n, true) else p
def pick_When.te (p : Int × Bool) (x : S68) : Int × Bool := if x.f7 = 1 ∨ x.f7 = 2 then pick_When.tk p x.f12 else p
def pick_When.all (l0_4 : List S66) (l0_5 : List S68) : Int × Bool := l0_5.foldl pick_When.te (l0_4.foldl (fun p x => pick_When.tk p x.f3) (0, false))
def pick_When.f (a0_0 : Int) (a0_1 : Int) (a0_2 : Int) (a0_3 : Int) (l0_4 : List S66) (l0_5 : List S68) : Option (Int × Bool) := some (pick_When.all l0_4 l0_5)
/-- What the closure does to the world. -/
def pick_When.stepW (W : World) (gs ga : Nat) (s : Bool) (a n : Int) : World := if s = false ∨ n < a then (W.setCell ⟨ga, 0, none⟩ (.int .i64 n)).setCell ⟨gs, 0, none⟩ (.bool true) else W
theorem pick_When.step_s {W : World} {gs ga : Nat} {s : Bool} {a : Int} (n : Int) (hs : W.heap[gs]? = some (.cells #[.bool s] 4 (0, 0))) (hne : gs ≠ ga) : (pick_When.stepW W gs ga s a n).heap[gs]? = some (.cells #[.bool (pick_When.tk (a, s) n).2] 4 (0, 0)) := by
  unfold pick_When.stepW pick_When.tk
  by_cases h : s = false ∨ n < a
  · rw [if_pos h, if_pos h]
    exact blk_put (cs := #[.bool s]) (blk_far hs hne _) 0 _ rfl
  · rw [if_neg h, if_neg h]
    exact hs
theorem pick_When.step_a {W : World} {gs ga : Nat} {s : Bool} {a : Int} (n : Int) (ha : W.heap[ga]? = some (.cells #[.int .i64 a] 2 (0, 0))) (hne : gs ≠ ga) : (pick_When.stepW W gs ga s a n).heap[ga]? = some (.cells #[.int .i64 (pick_When.tk (a, s) n).1] 2 (0, 0)) := by
  unfold pick_When.stepW pick_When.tk
  by_cases h : s = false ∨ n < a
  · rw [if_pos h, if_pos h]
    exact blk_far (blk_put (cs := #[.int .i64 a]) ha 0 _ rfl) hne.symm _
  · rw [if_neg h, if_neg h]
    exact ha
theorem pick_When.step_o {W : World} {gs ga g : Nat} {s : Bool} {a : Int} {o : Obj} (n : Int) (h : W.heap[g]? = some o) (h1 : g ≠ gs) (h2 : g ≠ ga) : (pick_When.stepW W gs ga s a n).heap[g]? = some o := by
  unfold pick_When.stepW
  split
  · exact ((Below.heap_setCell _ _ _ g h1).trans (Below.heap_setCell _ _ _ g h2)).trans h
  · exact h
theorem pick_When.step_b {w W : World} {gs ga : Nat} {s : Bool} {a : Int} (n : Int) (h : Below w.heap.size w W) (h1 : w.heap.size ≤ gs) (h2 : w.heap.size ≤ ga) : Below w.heap.size w (pick_When.stepW W gs ga s a n) := by
  unfold pick_When.stepW
  split
  · exact below_set (below_set h h2) h1
  · exact h
set_option maxHeartbeats 1000000 in
theorem pick_When.take_calls (W : World) (gs ga : Nat) (s : Bool) (a n : Int) (hs : W.heap[gs]? = some (.cells #[.bool s] 4 (0, 0))) (ha : W.heap[ga]? = some (.cells #[.int .i64 a] 2 (0, 0))) (hne : gs ≠ ga) :
    Calls Try.prog 76 #[.int .i64 n, .pointer (some ⟨gs, 0, none⟩), .pointer (some ⟨ga, 0, none⟩)] W fun e w' => e = .returned (.tuple #[]) ∧ w' = pick_When.stepW W gs ga s a n := by
  have hcs : W.cell? ⟨gs, 0, none⟩ = some (.bool s) := (blk_cell hs 0).trans rfl
  have hca : W.cell? ⟨ga, 0, none⟩ = some (.int .i64 a) := (blk_cell ha 0).trans rfl
  have hfs := blk_frozen hs 0
  have hfa := blk_frozen ha 0
  have hne' := hne.symm
  have hfs2 : ∀ u, (W.setCell ⟨ga, 0, none⟩ u).frozen? ⟨gs, 0, none⟩ = false := fun u => blk_frozen (blk_far hs hne u) 0
  have hcs2 : ∀ u, (W.setCell ⟨ga, 0, none⟩ u).cell? ⟨gs, 0, none⟩ = some (.bool s) := fun u => (blk_cell (blk_far hs hne u) 0).trans rfl
  clear hs ha
  unfold pick_When.stepW
  by_cases hlt : n < a
  · have hd : decide (n < a) = true := decide_eq_true hlt
    rw [if_pos (.inr hlt)]
    cases s
    all_goals
      go_enter Try.func76, Try.ntmps76
      go_wp2
      first | go_end0 | ((try simp only [Exit.inBlock, Exit.then]); refine bodyPost_ret (results_none rfl _ _ _) rfl ?_)
      exact ⟨rfl, rfl⟩
  · have hd : decide (n < a) = false := decide_eq_false hlt
    cases s with
    | false =>
      rw [if_pos (.inl rfl)]
      go_enter Try.func76, Try.ntmps76
      go_wp2
      first | go_end0 | ((try simp only [Exit.inBlock, Exit.then]); refine bodyPost_ret (results_none rfl _ _ _) rfl ?_)
      exact ⟨rfl, rfl⟩
    | true =>
      rw [if_neg (fun h => h.elim (fun h => by cases h) hlt)]
      go_enter Try.func76, Try.ntmps76
      go_wp2
      first | go_end0 | ((try simp only [Exit.inBlock, Exit.then]); refine bodyPost_ret (results_none rfl _ _ _) rfl ?_)
      exact ⟨rfl, rfl⟩
set_option maxHeartbeats 8000000 in
set_option maxRecDepth 100000 in
theorem pick_When.calls (a0_0 : Int) (a0_1 : Int) (a0_2 : Int) (a0_3 : Int) (A0_4 : Option Addr) (c0_4 : Nat) (l0_4 : List S66) (A0_5 : Option Addr) (c0_5 : Nat) (l0_5 : List S68) (r1 : Int) (r2 : Bool) (w : World) (hr0_4 : Kd.C k66 w A0_4 l0_4.length l0_4) (hc0_4 : l0_4.length ≤ c0_4) (hr0_5 : Kd.C k68 w A0_5 l0_5.length l0_5) (hc0_5 : l0_5.length ≤ c0_5) (h : pick_When.f a0_0 a0_1 a0_2 a0_3 l0_4 l0_5 = some (r1, r2)) :
    Calls Try.prog 41 #[.agg #[.int .i64 a0_0, .int .i64 a0_1, .int .i64 a0_2, .int .i64 a0_3, .slice A0_4 l0_4.length c0_4, .slice A0_5 l0_5.length c0_5]] w fun e w' => e = .returned (.tuple #[.int .i64 r1, .bool r2]) ∧ Below w.heap.size w w' := by
  have hall : pick_When.all l0_4 l0_5 = (r1, r2) := Option.some.inj h
  have HALL := Aside0.mk hall
  have HR4 := Aside0.mk hr0_4
  have HR5 := Aside0.mk hr0_5
  have HL4 := hr0_4.2.1
  have HL5 := hr0_5.2.1
  have HX := Aside0.mk Try.func76
  clear h hall hr0_4 hr0_5 hc0_4 hc0_5
  have hu56 := Try.underlying56
  have hu66 := Try.underlying66
  have hu68 := Try.underlying68
  have HB := Aside0.mk (Below.refl w.heap.size w)
  go_enter Try.func41, Try.ntmps41
  go_wp2_with (first | ((with_reducible refine gate_dst (N := 1) rfl ?_); refine box_event ?hg (N := 1) ?hd (cs := #[.int .i64 a0_0, .int .i64 a0_1, .int .i64 a0_2, .int .i64 a0_3, .slice A0_4 l0_4.length c0_4, .slice A0_5 l0_5.length c0_5]) (t := 56) ?hr ?_; (case hd => rfl); (case hg => rfl); (case hr => first | (go_simp; done) | (go_simp; rfl)); intro gb hg w1 hbox hb; have BKb := Aside0.mk hbox; have GB := Aside0.mk (show w.heap.size ≤ gb by rw [hg]; exact Nat.le_refl _); have HB1 := Aside0.mk (below_step (below_y HB.out) hb); clear HB hbox hb hg; have HB := HB1; clear HB1) | ((with_reducible refine gate_dst (N := 4) rfl ?_); refine box_event ?hg (N := 4) ?hd (cs := #[.int .i64 0]) (t := 2) ?hr ?_; (case hd => rfl); (case hg => rfl); (case hr => first | (go_simp; done) | (go_simp; rfl)); intro ga hg w2 hbox hb; have BKa := Aside0.mk hbox; have NBA := Aside0.mk (show gb ≠ ga by rw [hg]; exact Nat.ne_of_lt (blk_lt (blk_y BKb.out))); have GA := Aside0.mk (show w.heap.size ≤ ga by rw [hg]; exact below_size (below_y HB.out)); have BKb1 := Aside0.mk (blk_below (blk_y BKb.out) hb); have HB1 := Aside0.mk (below_step (below_y HB.out) hb); clear HB BKb hbox hb hg; have HB := HB1; have BKb := BKb1; clear HB1 BKb1) | ((with_reducible refine gate_dst (N := 5) rfl ?_); refine box_event ?hg (N := 5) ?hd (cs := #[.bool false]) (t := 4) ?hr ?_; (case hd => rfl); (case hg => rfl); (case hr => first | (go_simp; done) | (go_simp; rfl)); intro gs hg w3 hbox hb; have BKs := Aside0.mk hbox; have NBS := Aside0.mk (show gb ≠ gs by rw [hg]; exact Nat.ne_of_lt (blk_lt (blk_y BKb.out))); have NAS := Aside0.mk (show ga ≠ gs by rw [hg]; exact Nat.ne_of_lt (blk_lt (blk_y BKa.out))); have GS := Aside0.mk (show w.heap.size ≤ gs by rw [hg]; exact below_size (below_y HB.out)); have BKb1 := Aside0.mk (blk_below (blk_y BKb.out) hb); have BKa1 := Aside0.mk (blk_below (blk_y BKa.out) hb); have HB1 := Aside0.mk (below_step (below_y HB.out) hb); clear HB BKb BKa hbox hb hg; have HB := HB1; have BKb := BKb1; have BKa := BKa1; clear HB1 BKb1 BKa1; have hn1 := NBA.out; have hn2 := NBA.out.symm; have hn3 := NBS.out; have hn4 := NBS.out.symm; have hn5 := NAS.out; have hn6 := NAS.out.symm; have hcb4 : w3.cell? ⟨gb, 4, none⟩ = some (.slice A0_4 l0_4.length c0_4) := (blk_cell BKb.out 4).trans rfl; have hca : w3.cell? ⟨ga, 0, none⟩ = some (.int .i64 0) := (blk_cell BKa.out 0).trans rfl; have hcs : w3.cell? ⟨gs, 0, none⟩ = some (.bool false) := (blk_cell BKs.out 0).trans rfl; have hfb := fun i => blk_frozen BKb.out i; have hfa := blk_frozen BKa.out 0; have hfs := blk_frozen BKs.out 0; have hfs2 : ∀ u, (w3.setCell ⟨ga, 0, none⟩ u).frozen? ⟨gs, 0, none⟩ = false := fun u => blk_frozen (blk_far BKs.out NAS.out.symm u) 0; have hcb2 : ∀ u v, ((w3.setCell ⟨ga, 0, none⟩ u).setCell ⟨gs, 0, none⟩ v).cell? ⟨gb, 4, none⟩ = some (.slice A0_4 l0_4.length c0_4) := fun u v => (blk_cell (blk_far (blk_far BKb.out NBA.out u) NBS.out v) 4).trans rfl))
  have BKb2 := Aside0.mk (blk_far (blk_far (p := ⟨ga, 0, none⟩) BKb.out NBA.out (.int .i64 0)) (p := ⟨gs, 0, none⟩) NBS.out (.bool false))
  have BKa2 := Aside0.mk (blk_far (blk_put (cs := #[.int .i64 0]) BKa.out 0 (.int .i64 0) rfl) (p := ⟨gs, 0, none⟩) NAS.out (.bool false))
  have BKs2 := Aside0.mk (blk_put (cs := #[.bool false]) (blk_far BKs.out (p := ⟨ga, 0, none⟩) NAS.out.symm (.int .i64 0)) 0 (.bool false) rfl)
  have HB2 := Aside0.mk (below_set (j := 0) (v := .bool false) (below_set (j := 0) (v := .int .i64 0) HB.out GA.out) GS.out)
  clear BKb BKa BKs HB hcb4 hca hcs hfb hfa hfs hfs2 hcb2
  go_loopw [15] (fun v15 wr => ∃ (x15 : Int) (a : Int) (s : Bool), v15 = .int .i64 x15 ∧ Aside0 (0 ≤ x15 ∧ x15 ≤ (l0_4.length : Int) ∧ l0_5.foldl pick_When.te ((l0_4.drop x15.toNat).foldl (fun p x => pick_When.tk p x.f3) (a, s)) = (r1, r2)) ∧ Aside0 (wr.heap[gb]? = some (.cells #[.int .i64 a0_0, .int .i64 a0_1, .int .i64 a0_2, .int .i64 a0_3, .slice A0_4 l0_4.length c0_4, .slice A0_5 l0_5.length c0_5] 56 (0, 0))) ∧ Aside0 (wr.heap[ga]? = some (.cells #[.int .i64 a] 2 (0, 0))) ∧ Aside0 (wr.heap[gs]? = some (.cells #[.bool s] 4 (0, 0))) ∧ Aside0 (Below w.heap.size w wr)) (fun v15 _ => l0_4.length - (intOf v15).toNat)
  case atStart => exact ⟨0, 0, false, rfl, ⟨Int.le_refl _, by omega, HALL.out⟩, BKb2, BKa2, BKs2, HB2⟩
  case round =>
    clear BKb2 BKa2 BKs2 HB2 HALL
    obtain ⟨x15, a, s, rfl, HP, BKb, BKa, BKs, HB⟩ := hrel
    obtain ⟨h0, h1, hfold⟩ := HP.out
    have HF := Aside0.mk hfold
    clear HP hfold
    by_cases hlt : x15 < (l0_4.length : Int)
    · obtain ⟨ad, e, hx0, hx1, hx2, hx3, hx4⟩ := at_T66 HR4.out x15 h0 hlt
      cases e
      replace hx0 := (HB.out.cell (World.block_lt_of_cell? w _ hx0)).trans hx0
      replace hx1 := (HB.out.cell (World.block_lt_of_cell? w _ hx1)).trans hx1
      replace hx2 := (HB.out.cell (World.block_lt_of_cell? w _ hx2)).trans hx2
      replace hx3 := (HB.out.cell (World.block_lt_of_cell? w _ hx3)).trans hx3
      replace hx4 := (HB.out.cell (World.block_lt_of_cell? w _ hx4)).trans hx4
      have hget : l0_4.drop x15.toNat = rd_T66 l0_4 x15 :: l0_4.drop (x15.toNat + 1) := by
        unfold rd_T66
        rw [List.drop_eq_getElem_cons (by omega), List.getD_eq_getElem?_getD, List.getElem?_eq_getElem (by omega)]
        rfl
      have HG := Aside0.mk hget
      clear hget
      have hlt0 : decide (x15 < (l0_4.length : Int)) = true := decide_eq_true hlt
      have HLT := Aside0.mk hlt
      generalize rd_T66 l0_4 x15 = p at *
      as_aux_lemma =>
        go_wp2_with ((with_reducible refine gate_dst (N := 22) rfl ?_); (refine goesV_ (some 22) rfl rfl (.tmp 19) #[.pointer (some ⟨gs, 0, none⟩), .pointer (some ⟨ga, 0, none⟩)] #[.int .i64 p.f3] rfl rfl ?ha Try.func76 (by kernel_rfl) rfl ?_); (case ha => (try simp only [List.map_toArray, List.map_cons, List.map_nil]); rfl); refine (pick_When.take_calls _ gs ga s a p.f3 ?s1 ?s2 NAS.out.symm).mono ?_; (case s1 => exact blk_y BKs.out); (case s2 => exact blk_y BKa.out); rintro e w9 ⟨rfl, hw9⟩; refine ⟨_, rfl, ?_⟩; have BKs1 := Aside0.mk (show w9.heap[gs]? = some (.cells #[.bool (pick_When.tk (a, s) p.f3).2] 4 (0, 0)) by rw [hw9]; exact pick_When.step_s p.f3 (blk_y BKs.out) NAS.out.symm); have BKa1 := Aside0.mk (show w9.heap[ga]? = some (.cells #[.int .i64 (pick_When.tk (a, s) p.f3).1] 2 (0, 0)) by rw [hw9]; exact pick_When.step_a p.f3 (blk_y BKa.out) NAS.out.symm); have BKb1 := Aside0.mk (show w9.heap[gb]? = some (.cells _ 56 (0, 0)) by rw [hw9]; exact pick_When.step_o p.f3 (blk_y BKb.out) NBS.out NBA.out); have HB1 := Aside0.mk (show Below w.heap.size w w9 by rw [hw9]; exact pick_When.step_b p.f3 (below_y HB.out) GS.out GA.out); clear hw9 BKb BKa BKs HB)
        go_roundw
        case rel => exact ⟨x15 + 1, _, _, by first | rfl | (simp; done), ⟨by omega, by have := HLT.out; omega, by
            have e := HF.out
            rw [HG.out, List.foldl_cons] at e
            rw [show (x15 + 1).toNat = x15.toNat + 1 by omega]
            exact e⟩, BKb1, BKa1, BKs1, HB1⟩
        case measure => have := HLT.out; simp [intOf]; omega
    · have hlt0 : decide (x15 < (l0_4.length : Int)) = false := decide_eq_false hlt
      have HF2 := Aside0.mk (show l0_5.foldl pick_When.te (a, s) = (r1, r2) by have e := HF.out; rwa [List.drop_of_length_le (by omega)] at e)
      have hcb5 : wr.cell? ⟨gb, 5, none⟩ = some (.slice A0_5 l0_5.length c0_5) := (blk_cell BKb.out 5).trans rfl
      clear HF hlt
      go_wp2
      go_loopw [27] (fun v27 wr => ∃ (x27 : Int) (a : Int) (s : Bool), v27 = .int .i64 x27 ∧ Aside0 (0 ≤ x27 ∧ x27 ≤ (l0_5.length : Int) ∧ (l0_5.drop x27.toNat).foldl pick_When.te (a, s) = (r1, r2)) ∧ Aside0 (wr.heap[ga]? = some (.cells #[.int .i64 a] 2 (0, 0))) ∧ Aside0 (wr.heap[gs]? = some (.cells #[.bool s] 4 (0, 0))) ∧ Aside0 (Below w.heap.size w wr)) (fun v27 _ => l0_5.length - (intOf v27).toNat)
      case atStart => exact ⟨0, a, s, rfl, ⟨Int.le_refl _, by omega, HF2.out⟩, BKa, BKs, HB⟩
      case round =>
      clear HF2 BKa BKs HB hcb5 BKb
      obtain ⟨x27, a, s, rfl, HP, BKa, BKs, HB⟩ := hrel
      obtain ⟨h2, h3, hfold⟩ := HP.out
      have HF := Aside0.mk hfold
      clear HP hfold
      by_cases hlt : x27 < (l0_5.length : Int)
      · obtain ⟨ad, e, hx0, hx1, hx2, hx3, hx4, hx5, hx6, hx7, hx8, hx9, hx10, hx11, hx12, hx13, hx14, hx15, hx16, hx17, hx18, hx19⟩ := at_T68 HR5.out x27 h2 hlt
        cases e
        replace hx0 := (HB.out.cell (World.block_lt_of_cell? w _ hx0)).trans hx0
        replace hx1 := (HB.out.cell (World.block_lt_of_cell? w _ hx1)).trans hx1
        replace hx2 := (HB.out.cell (World.block_lt_of_cell? w _ hx2)).trans hx2
        replace hx3 := (HB.out.cell (World.block_lt_of_cell? w _ hx3)).trans hx3
        replace hx4 := (HB.out.cell (World.block_lt_of_cell? w _ hx4)).trans hx4
        replace hx5 := (HB.out.cell (World.block_lt_of_cell? w _ hx5)).trans hx5
        replace hx6 := (HB.out.cell (World.block_lt_of_cell? w _ hx6)).trans hx6
        replace hx7 := (HB.out.cell (World.block_lt_of_cell? w _ hx7)).trans hx7
        replace hx8 := (HB.out.cell (World.block_lt_of_cell? w _ hx8)).trans hx8
        replace hx9 := (HB.out.cell (World.block_lt_of_cell? w _ hx9)).trans hx9
        replace hx10 := (HB.out.cell (World.block_lt_of_cell? w _ hx10)).trans hx10
        replace hx11 := (HB.out.cell (World.block_lt_of_cell? w _ hx11)).trans hx11
        replace hx12 := (HB.out.cell (World.block_lt_of_cell? w _ hx12)).trans hx12
        replace hx13 := (HB.out.cell (World.block_lt_of_cell? w _ hx13)).trans hx13
        replace hx14 := (HB.out.cell (World.block_lt_of_cell? w _ hx14)).trans hx14
        replace hx15 := (HB.out.cell (World.block_lt_of_cell? w _ hx15)).trans hx15
        replace hx16 := (HB.out.cell (World.block_lt_of_cell? w _ hx16)).trans hx16
        replace hx17 := (HB.out.cell (World.block_lt_of_cell? w _ hx17)).trans hx17
        replace hx18 := (HB.out.cell (World.block_lt_of_cell? w _ hx18)).trans hx18
        replace hx19 := (HB.out.cell (World.block_lt_of_cell? w _ hx19)).trans hx19
        have hget : l0_5.drop x27.toNat = rd_T68 l0_5 x27 :: l0_5.drop (x27.toNat + 1) := by
          unfold rd_T68
          rw [List.drop_eq_getElem_cons (by omega), List.getD_eq_getElem?_getD, List.getElem?_eq_getElem (by omega)]
          rfl
        have HG := Aside0.mk hget
        clear hget
        have hlt0 : decide (x27 < (l0_5.length : Int)) = true := decide_eq_true hlt
        have HLT := Aside0.mk hlt
        generalize rd_T68 l0_5 x27 = p at *
        have hwt : pick_waits.f p.f0 p.f1 p.f2 p.f3 p.f4 p.f5 p.f6 p.f7 p.f8 p.f9 p.f10 p.f11 p.f12 p.f13 p.f14 p.f15 p.f16 p.f17 p.f18 p.f19 = some (decide (p.f7 = 1 ∨ p.f7 = 2)) := by
          unfold pick_waits.f
          by_cases q : p.f7 = 1
          · rw [if_pos q, decide_eq_true (.inl q)]
          · rw [if_neg q]
            congr 1
            rw [Bool.eq_iff_iff, beq_iff_eq, decide_eq_true_iff]
            exact ⟨.inr, fun h => h.resolve_left q⟩
        by_cases hq : p.f7 = 1 ∨ p.f7 = 2
        · rw [decide_eq_true hq] at hwt
          have HWT := Aside0.mk hwt
          have HQ := Aside0.mk hq
          clear hwt hq
          as_aux_lemma =>
            go_wp2_with (first | ((with_reducible refine gate_dst (N := 30) rfl ?_); refine load_at (t := 68) (x := .tmp 29) ?hg ?ho (q := ad.add (x27.toNat * 20)) (c0 := .int .i64 p.f0) (cs := [.int .i64 p.f1, .string p.f2, .string p.f3, .string p.f4, .int .i64 p.f5, .int .i64 p.f6, .int .i64 p.f7, .int .i64 p.f8, .bool p.f9, .int .i64 p.f10, .int .i64 p.f11, .int .i64 p.f12, .string p.f13, .int .i64 p.f14, .int .i64 p.f15, .string p.f16, .int .i64 p.f17, .int .i64 p.f18, .string p.f19]) ?hx hu68 rfl (by kernel_rfl) hx0 ⟨hx1, hx2, hx3, hx4, hx5, hx6, hx7, hx8, hx9, hx10, hx11, hx12, hx13, hx14, hx15, hx16, hx17, hx18, hx19, trivial⟩ ?_; (case hg => rfl); (case ho => rfl); (case hx => first | rfl | (go_simp; done)); clear hx0 hx1 hx2 hx3 hx4 hx5 hx6 hx7 hx8 hx9 hx10 hx11 hx12 hx13 hx14 hx15 hx16 hx17 hx18 hx19) | ((with_reducible refine gate_dst (N := 10) rfl ?_); refine box_event ?hg (N := 10) ?hd (cs := #[.int .i64 0, .int .i64 0, .string (⟨#[]⟩ : ByteArray), .string (⟨#[]⟩ : ByteArray), .string (⟨#[]⟩ : ByteArray), .int .i64 0, .int .i64 0, .int .i64 0, .int .i64 0, .bool false, .int .i64 0, .int .i64 0, .int .i64 0, .string (⟨#[]⟩ : ByteArray), .int .i64 0, .int .i64 0, .string (⟨#[]⟩ : ByteArray), .int .i64 0, .int .i64 0, .string (⟨#[]⟩ : ByteArray)]) (t := 68) ?hr ?_; (case hd => rfl); (case hg => rfl); (case hr => first | (go_simp; done) | (go_simp; rfl)); intro gx hg w6 hbox hb; have BKx := Aside0.mk hbox; have GX := Aside0.mk (show w.heap.size ≤ gx by rw [hg]; exact below_size (below_y HB.out)); have NSX := Aside0.mk (show gs ≠ gx by rw [hg]; exact Nat.ne_of_lt (blk_lt (blk_y BKs.out))); have NAX := Aside0.mk (show ga ≠ gx by rw [hg]; exact Nat.ne_of_lt (blk_lt (blk_y BKa.out))); have BKs5 := Aside0.mk (blk_below (blk_y BKs.out) hb); have BKa5 := Aside0.mk (blk_below (blk_y BKa.out) hb); have HB5 := Aside0.mk (below_step (below_y HB.out) hb); clear HB BKs BKa hbox hb hg; have BKs := BKs5; have BKa := BKa5; have HB := HB5; clear BKs5 BKa5 HB5) | ((with_reducible refine gate_store (t := 68) (p := 10) rfl ?_); refine store_whole (t := 68) (x := .tmp 10) (y := .tmp 30) ?hg ?hn ?ho (cells := #[.int .i64 p.f0, .int .i64 p.f1, .string p.f2, .string p.f3, .string p.f4, .int .i64 p.f5, .int .i64 p.f6, .int .i64 p.f7, .int .i64 p.f8, .bool p.f9, .int .i64 p.f10, .int .i64 p.f11, .int .i64 p.f12, .string p.f13, .int .i64 p.f14, .int .i64 p.f15, .string p.f16, .int .i64 p.f17, .int .i64 p.f18, .string p.f19]) (blk_y BKx.out) ?hx ?hy (by kernel_rfl) rfl ?h1 ?_; (case ho => rfl); (case hg => rfl); (case hn => rfl); (case hx => first | rfl | (go_simp; done)); (case hy => first | rfl | (go_simp; done) | (go_simp; rfl)); (case h1 => first | rfl | simp [Value.oneCell']); intro w7 hw7; have BKs6 := Aside0.mk (show w7.heap[gs]? = some (.cells _ 4 (0, 0)) by rw [hw7]; exact (setRow_other _ _ _ _ NSX.out).trans (blk_y BKs.out)); have BKa6 := Aside0.mk (show w7.heap[ga]? = some (.cells _ 2 (0, 0)) by rw [hw7]; exact (setRow_other _ _ _ _ NAX.out).trans (blk_y BKa.out)); have BKx6 := Aside0.mk (show w7.heap[gx]? = some (.cells #[.int .i64 p.f0, .int .i64 p.f1, .string p.f2, .string p.f3, .string p.f4, .int .i64 p.f5, .int .i64 p.f6, .int .i64 p.f7, .int .i64 p.f8, .bool p.f9, .int .i64 p.f10, .int .i64 p.f11, .int .i64 p.f12, .string p.f13, .int .i64 p.f14, .int .i64 p.f15, .string p.f16, .int .i64 p.f17, .int .i64 p.f18, .string p.f19] 68 (0, 0)) by rw [hw7]; exact setRow_heap _ _ _ _ _ _ (blk_y BKx.out)); have HB6 := Aside0.mk (show Below w.heap.size w w7 by rw [hw7]; exact below_setRow (below_y HB.out) GX.out _); clear hw7 BKs BKa BKx HB; have BKs := BKs6; have BKa := BKa6; have BKx := BKx6; have HB := HB6; clear BKs6 BKa6 BKx6 HB6) | ((with_reducible refine gate_dst (N := 31) rfl ?_); refine wpList_load_row ?hg 68 (.tmp 10) ?ho gx ?hx 68 #[.int .i64 p.f0, .int .i64 p.f1, .string p.f2, .string p.f3, .string p.f4, .int .i64 p.f5, .int .i64 p.f6, .int .i64 p.f7, .int .i64 p.f8, .bool p.f9, .int .i64 p.f10, .int .i64 p.f11, .int .i64 p.f12, .string p.f13, .int .i64 p.f14, .int .i64 p.f15, .string p.f16, .int .i64 p.f17, .int .i64 p.f18, .string p.f19] (0, 0) _ (blk_y BKx.out) hu68 rfl (by kernel_rfl) ?_; (case hg => rfl); (case ho => rfl); (case hx => first | rfl | (go_simp; done))) | (go_at_call 74; refine (pick_waits.calls _ _ _ _ _ _ _ _ _ _ _ _ _ _ _ _ _ _ _ _ true _ HWT.out).mono ?_; rintro e w8 ⟨rfl, hb8⟩; have BKx8 := Aside0.mk (blk_below (blk_y BKx.out) hb8); have hc12 : w8.cell? ⟨gx, 12, none⟩ = some (.int .i64 p.f12) := (blk_cell BKx8.out 12).trans rfl; have BKs8 := Aside0.mk (blk_below (blk_y BKs.out) hb8); have BKa8 := Aside0.mk (blk_below (blk_y BKa.out) hb8); have HB8 := Aside0.mk (below_step (below_y HB.out) hb8); clear hb8 BKs BKa HB; have BKs := BKs8; have BKa := BKa8; have HB := HB8; clear BKs8 BKa8 HB8) | ((with_reducible refine gate_dst (N := 36) rfl ?_); (refine goesV_ (some 36) rfl rfl (.tmp 33) #[.pointer (some ⟨gs, 0, none⟩), .pointer (some ⟨ga, 0, none⟩)] #[.int .i64 p.f12] rfl rfl ?ha Try.func76 (by kernel_rfl) rfl ?_); (case ha => (try simp only [List.map_toArray, List.map_cons, List.map_nil]); rfl); refine (pick_When.take_calls _ gs ga s a p.f12 ?s1 ?s2 NAS.out.symm).mono ?_; (case s1 => exact blk_y BKs.out); (case s2 => exact blk_y BKa.out); rintro e w9 ⟨rfl, hw9⟩; refine ⟨_, rfl, ?_⟩; have BKs1 := Aside0.mk (show w9.heap[gs]? = some (.cells #[.bool (pick_When.tk (a, s) p.f12).2] 4 (0, 0)) by rw [hw9]; exact pick_When.step_s p.f12 (blk_y BKs.out) NAS.out.symm); have BKa1 := Aside0.mk (show w9.heap[ga]? = some (.cells #[.int .i64 (pick_When.tk (a, s) p.f12).1] 2 (0, 0)) by rw [hw9]; exact pick_When.step_a p.f12 (blk_y BKa.out) NAS.out.symm); have HB1 := Aside0.mk (show Below w.heap.size w w9 by rw [hw9]; exact pick_When.step_b p.f12 (below_y HB.out) GS.out GA.out); clear hw9 BKa BKs HB))
            go_roundw
            case rel => exact ⟨x27 + 1, _, _, by first | rfl | (simp; done), ⟨by omega, by have := HLT.out; omega, by
                have e := HF.out
                rw [HG.out, List.foldl_cons] at e
                rw [show (x27 + 1).toNat = x27.toNat + 1 by omega]
                have et : pick_When.te (a, s) p = pick_When.tk (a, s) p.f12 := by unfold pick_When.te; rw [if_pos HQ.out]
                rw [et] at e
                exact e⟩, BKa1, BKs1, HB1⟩
            case measure => have := HLT.out; simp [intOf]; omega
        · rw [decide_eq_false hq] at hwt
          have HWT := Aside0.mk hwt
          have HQ := Aside0.mk hq
          clear hwt hq
          as_aux_lemma =>
            go_wp2_with (first | ((with_reducible refine gate_dst (N := 30) rfl ?_); refine load_at (t := 68) (x := .tmp 29) ?hg ?ho (q := ad.add (x27.toNat * 20)) (c0 := .int .i64 p.f0) (cs := [.int .i64 p.f1, .string p.f2, .string p.f3, .string p.f4, .int .i64 p.f5, .int .i64 p.f6, .int .i64 p.f7, .int .i64 p.f8, .bool p.f9, .int .i64 p.f10, .int .i64 p.f11, .int .i64 p.f12, .string p.f13, .int .i64 p.f14, .int .i64 p.f15, .string p.f16, .int .i64 p.f17, .int .i64 p.f18, .string p.f19]) ?hx hu68 rfl (by kernel_rfl) hx0 ⟨hx1, hx2, hx3, hx4, hx5, hx6, hx7, hx8, hx9, hx10, hx11, hx12, hx13, hx14, hx15, hx16, hx17, hx18, hx19, trivial⟩ ?_; (case hg => rfl); (case ho => rfl); (case hx => first | rfl | (go_simp; done)); clear hx0 hx1 hx2 hx3 hx4 hx5 hx6 hx7 hx8 hx9 hx10 hx11 hx12 hx13 hx14 hx15 hx16 hx17 hx18 hx19) | ((with_reducible refine gate_dst (N := 10) rfl ?_); refine box_event ?hg (N := 10) ?hd (cs := #[.int .i64 0, .int .i64 0, .string (⟨#[]⟩ : ByteArray), .string (⟨#[]⟩ : ByteArray), .string (⟨#[]⟩ : ByteArray), .int .i64 0, .int .i64 0, .int .i64 0, .int .i64 0, .bool false, .int .i64 0, .int .i64 0, .int .i64 0, .string (⟨#[]⟩ : ByteArray), .int .i64 0, .int .i64 0, .string (⟨#[]⟩ : ByteArray), .int .i64 0, .int .i64 0, .string (⟨#[]⟩ : ByteArray)]) (t := 68) ?hr ?_; (case hd => rfl); (case hg => rfl); (case hr => first | (go_simp; done) | (go_simp; rfl)); intro gx hg w6 hbox hb; have BKx := Aside0.mk hbox; have GX := Aside0.mk (show w.heap.size ≤ gx by rw [hg]; exact below_size (below_y HB.out)); have NSX := Aside0.mk (show gs ≠ gx by rw [hg]; exact Nat.ne_of_lt (blk_lt (blk_y BKs.out))); have NAX := Aside0.mk (show ga ≠ gx by rw [hg]; exact Nat.ne_of_lt (blk_lt (blk_y BKa.out))); have BKs5 := Aside0.mk (blk_below (blk_y BKs.out) hb); have BKa5 := Aside0.mk (blk_below (blk_y BKa.out) hb); have HB5 := Aside0.mk (below_step (below_y HB.out) hb); clear HB BKs BKa hbox hb hg; have BKs := BKs5; have BKa := BKa5; have HB := HB5; clear BKs5 BKa5 HB5) | ((with_reducible refine gate_store (t := 68) (p := 10) rfl ?_); refine store_whole (t := 68) (x := .tmp 10) (y := .tmp 30) ?hg ?hn ?ho (cells := #[.int .i64 p.f0, .int .i64 p.f1, .string p.f2, .string p.f3, .string p.f4, .int .i64 p.f5, .int .i64 p.f6, .int .i64 p.f7, .int .i64 p.f8, .bool p.f9, .int .i64 p.f10, .int .i64 p.f11, .int .i64 p.f12, .string p.f13, .int .i64 p.f14, .int .i64 p.f15, .string p.f16, .int .i64 p.f17, .int .i64 p.f18, .string p.f19]) (blk_y BKx.out) ?hx ?hy (by kernel_rfl) rfl ?h1 ?_; (case ho => rfl); (case hg => rfl); (case hn => rfl); (case hx => first | rfl | (go_simp; done)); (case hy => first | rfl | (go_simp; done) | (go_simp; rfl)); (case h1 => first | rfl | simp [Value.oneCell']); intro w7 hw7; have BKs6 := Aside0.mk (show w7.heap[gs]? = some (.cells _ 4 (0, 0)) by rw [hw7]; exact (setRow_other _ _ _ _ NSX.out).trans (blk_y BKs.out)); have BKa6 := Aside0.mk (show w7.heap[ga]? = some (.cells _ 2 (0, 0)) by rw [hw7]; exact (setRow_other _ _ _ _ NAX.out).trans (blk_y BKa.out)); have BKx6 := Aside0.mk (show w7.heap[gx]? = some (.cells #[.int .i64 p.f0, .int .i64 p.f1, .string p.f2, .string p.f3, .string p.f4, .int .i64 p.f5, .int .i64 p.f6, .int .i64 p.f7, .int .i64 p.f8, .bool p.f9, .int .i64 p.f10, .int .i64 p.f11, .int .i64 p.f12, .string p.f13, .int .i64 p.f14, .int .i64 p.f15, .string p.f16, .int .i64 p.f17, .int .i64 p.f18, .string p.f19] 68 (0, 0)) by rw [hw7]; exact setRow_heap _ _ _ _ _ _ (blk_y BKx.out)); have HB6 := Aside0.mk (show Below w.heap.size w w7 by rw [hw7]; exact below_setRow (below_y HB.out) GX.out _); clear hw7 BKs BKa BKx HB; have BKs := BKs6; have BKa := BKa6; have BKx := BKx6; have HB := HB6; clear BKs6 BKa6 BKx6 HB6) | ((with_reducible refine gate_dst (N := 31) rfl ?_); refine wpList_load_row ?hg 68 (.tmp 10) ?ho gx ?hx 68 #[.int .i64 p.f0, .int .i64 p.f1, .string p.f2, .string p.f3, .string p.f4, .int .i64 p.f5, .int .i64 p.f6, .int .i64 p.f7, .int .i64 p.f8, .bool p.f9, .int .i64 p.f10, .int .i64 p.f11, .int .i64 p.f12, .string p.f13, .int .i64 p.f14, .int .i64 p.f15, .string p.f16, .int .i64 p.f17, .int .i64 p.f18, .string p.f19] (0, 0) _ (blk_y BKx.out) hu68 rfl (by kernel_rfl) ?_; (case hg => rfl); (case ho => rfl); (case hx => first | rfl | (go_simp; done))) | (go_at_call 74; refine (pick_waits.calls _ _ _ _ _ _ _ _ _ _ _ _ _ _ _ _ _ _ _ _ false _ HWT.out).mono ?_; rintro e w8 ⟨rfl, hb8⟩; have BKs8 := Aside0.mk (blk_below (blk_y BKs.out) hb8); have BKa8 := Aside0.mk (blk_below (blk_y BKa.out) hb8); have HB8 := Aside0.mk (below_step (below_y HB.out) hb8); clear hb8 BKs BKa HB; have BKs := BKs8; have BKa := BKa8; have HB := HB8; clear BKs8 BKa8 HB8))
            go_roundw
            case rel => exact ⟨x27 + 1, a, s, by first | rfl | (simp; done), ⟨by omega, by have := HLT.out; omega, by
                have e := HF.out
                rw [HG.out, List.foldl_cons] at e
                rw [show (x27 + 1).toNat = x27.toNat + 1 by omega]
                have et : pick_When.te (a, s) p = (a, s) := by unfold pick_When.te; rw [if_neg HQ.out]
                rw [et] at e
                exact e⟩, BKa, BKs, HB⟩
            case measure => have := HLT.out; simp [intOf]; omega
      · have hlt0 : decide (x27 < (l0_5.length : Int)) = false := decide_eq_false hlt
        have hend : (a, s) = (r1, r2) := by have e := HF.out; rwa [List.drop_of_length_le (by omega)] at e
        obtain ⟨rfl, rfl⟩ := Prod.mk.inj hend
        have hca : wr.cell? ⟨ga, 0, none⟩ = some (.int .i64 a) := (blk_cell BKa.out 0).trans rfl
        have hcs : wr.cell? ⟨gs, 0, none⟩ = some (.bool s) := (blk_cell BKs.out 0).trans rfl
        clear HF hlt hend
        as_aux_lemma =>
          go_wp2
          have HBd := Aside0.mk (below_drew1 HB.out)
          refine start_ (n := 4) (S := fun w' => w'.cell? ⟨ga, 0, none⟩ = some (.int .i64 a) ∧ w'.cell? ⟨gs, 0, none⟩ = some (.bool s)) (ds := []) #[false, false, false, false] (by kernel_rfl) rfl rfl ⟨hca, hcs⟩ (fun hHeld => ?_)
          generalize wr.drew = w14 at HBd hHeld ⊢
          refine take_ (i := 0) (N := some 38) (v := ?_) (a' := ?_) #[true, false, false, false] rfl rfl (by kernel_rfl) (fun _ _ _ h => h) (Or.inl ⟨by rfl, ?_⟩) hHeld ?_ ?_
          rotate_left
          · rintro w' ⟨s0, s1⟩
            go_simp
            with_reducible rfl
          rotate_left
          · simp only [Act.put, List.setIfInBounds_toArray, List.set_cons_zero, List.set_cons_succ, i64_w, i32_w]
            rfl
          refine take_ (i := 1) (N := some 39) (v := ?_) (a' := ?_) #[true, true, false, false] rfl rfl (by kernel_rfl) (fun _ _ _ h => h) (Or.inl ⟨by rfl, ?_⟩) hHeld ?_ ?_
          rotate_left
          · rintro w' ⟨s0, s1⟩
            go_simp
            with_reducible rfl
          rotate_left
          · simp only [Act.put, List.setIfInBounds_toArray, List.set_cons_zero, List.set_cons_succ, i64_w, i32_w]
            rfl
          refine pure_ (i := 2) (N := some 2) (v := ?_) (a' := ?_) #[true, true, true, false] rfl rfl (by kernel_rfl) (fun _ _ _ h => h) (Or.inl ⟨by rfl, ?_⟩) ?_ ?_
          rotate_left
          · intro w'
            go_simp
            with_reducible rfl
          rotate_left
          · simp only [Act.put, List.setIfInBounds_toArray, List.set_cons_zero, List.set_cons_succ, i64_w, i32_w]
            rfl
          refine pure_ (i := 3) (N := some 3) (v := ?_) (a' := ?_) #[true, true, true, true] rfl rfl (by kernel_rfl) (fun _ _ _ h => h) (Or.inl ⟨by rfl, ?_⟩) ?_ ?_
          rotate_left
          · intro w'
            go_simp
            with_reducible rfl
          rotate_left
          · simp only [Act.put, List.setIfInBounds_toArray, List.set_cons_zero, List.set_cons_succ, i64_w, i32_w]
            rfl
          refine done_ (by kernel_rfl) ?_
          go_wp2
          go_ret2
          exact ⟨by first | rfl | (simp; done), below_y HBd.out⟩

end Go.Proofs.Ytkkikdjfigffhaa.XPit
