-- By a program of this work (xprint.py) over the translation; Lean checks it.
import Derived.Test.YtkkikdjfigffhaaXFilx0
import Derived.Test.YtkkikdjfigffhaaXFilx1
namespace Go.Proofs.Ytkkikdjfigffhaa.XFil
open Go.RowKit Go.Proofs.YtkkikdjfigffhaaW.PrintWords Go.Proofs.YtkkikdjfigffhaaW.PrintLast Go.Proofs.YtkkikdjfigffhaaW.PrintMore
attribute [local go_sem] max2_int min2_int max_two min_two max_three min_three max_four min_four   -- for this text's walks alone
set_option linter.unusedVariables false
set_option linter.unusedSimpArgs false

/-! ### block_Lay: function 35 -/
def block_Lay.rightB (p : S46) : Bool := decide (0 ≤ p.f0) && decide (p.f0 < 65536) && decide (0 < p.f1.length) && decide ((p.f1.length : Int) ≤ 16 - p.f0 % 16)
def block_Lay.one (out : List Int) (p : S46) : List Int :=
  if block_Lay.rightB p = true then (out ++ List.replicate (p.f0.toNat + p.f1.length - out.length) 0).take p.f0.toNat ++ p.f1 ++ (out ++ List.replicate (p.f0.toNat + p.f1.length - out.length) 0).drop (p.f0.toNat + p.f1.length) else out
def block_Lay.f (l0 : List Int) (l1 : List S46) : Option (List Int) := if l0.length < 1000000000000 then some (l1.foldl block_Lay.one l0) else none
theorem block_Lay.right_f (p : S46) : block_Right.f p.f0 p.f1 = some (block_Lay.rightB p) := by
  unfold block_Right.f block_Lay.rightB
  by_cases h1 : p.f0 < 0
  · rw [if_pos h1, decide_eq_false (by omega : ¬ 0 ≤ p.f0)]; rfl
  · rw [if_neg h1, decide_eq_true (by omega : 0 ≤ p.f0)]
    by_cases h2 : p.f0 ≥ 65536
    · rw [if_pos h2, decide_eq_false (by omega : ¬ p.f0 < 65536)]; rfl
    · rw [if_neg h2, decide_eq_true (by omega : p.f0 < 65536)]
      by_cases h3 : (p.f1.length : Int) = 0
      · rw [if_pos h3, decide_eq_false (by omega : ¬ 0 < p.f1.length)]; rfl
      · rw [if_neg h3, decide_eq_true (by omega : 0 < p.f1.length), Int.tmod_eq_emod_of_nonneg (by omega)]
        have e : wrap64 (16 - p.f0 % 16) = 16 - p.f0 % 16 := by unfold wrap64; omega
        rw [e]
        rfl
theorem block_Lay.right_b {p : S46} (h : block_Lay.rightB p = true) : 0 ≤ p.f0 ∧ p.f0 < 65536 ∧ 0 < p.f1.length ∧ (p.f1.length : Int) ≤ 16 - p.f0 % 16 := by
  unfold block_Lay.rightB at h
  simp only [Bool.and_eq_true, decide_eq_true_eq] at h
  obtain ⟨⟨⟨h1, h2⟩, h3⟩, h4⟩ := h
  exact ⟨h1, h2, h3, h4⟩
theorem block_Lay.one_len (out : List Int) (p : S46) : (block_Lay.one out p).length ≤ max out.length 65552 := by
  unfold block_Lay.one
  split
  · rename_i h
    obtain ⟨h1, h2, h3, h4⟩ := block_Lay.right_b h
    simp only [List.length_append, List.length_take, List.length_drop, List.length_replicate]
    omega
  · omega
theorem block_Lay.fold_len (l : List S46) (out : List Int) (h : out.length < 1000000000000) : (l.foldl block_Lay.one out).length < 1000000000000 := by
  induction l generalizing out with
  | nil => exact h
  | cons p l ih => exact ih _ (by have := block_Lay.one_len out p; omega)
set_option maxHeartbeats 4000000 in
set_option maxRecDepth 100000 in
theorem block_Lay.calls (A0 : Option Addr) (c0 : Nat) (l0 : List Int) (A1 : Option Addr) (c1 : Nat) (l1 : List S46) (r : List Int) (w : World) (hr0 : Kd.C (Kd.int .u8) w A0 l0.length l0) (hc0 : l0.length ≤ c0) (hr1 : Kd.C k46 w A1 l1.length l1) (hc1 : l1.length ≤ c1) (h : block_Lay.f l0 l1 = some r) :
    Calls Try.prog 35 #[.slice A0 l0.length c0, .slice A1 l1.length c1] w fun e w' => ∃ v0_ : Value, e = .returned (v0_) ∧ Kd.R (Kd.int .u8) 5 w' w.heap.size (fun _ => True) v0_ r ∧ Below w.heap.size w w' := by
  unfold block_Lay.f at h
  by_cases hl : l0.length < 1000000000000
  · rw [if_pos hl] at h
    obtain rfl := Option.some.inj h
    have HCl := Aside0.mk (bytes_Clone.calls A0 c0 l0 l0 w hr0 hc0 (by unfold bytes_Clone.f; rw [if_pos (by omega)]))
    have HR := Aside0.mk hr1
    have HN := Aside0.mk hr1.2.1
    have HL := Aside0.mk hl
    clear hr0 hc0 hr1 hc1 hl h
    have hu := Try.underlying46
    go_enter Try.func35, Try.ntmps35
    go_wp2_with (go_at_call 68; refine HCl.out.mono ?_; rintro e w1 ⟨v0, rfl, ho, hb⟩; have HO := Aside0.mk ho; have HB := Aside0.mk hb; clear ho hb)
    go_loopw [5, 13] (fun v5 v13 wr => ∃ (x13 : Int) (xs : List Int), v13 = .int .i64 x13 ∧ Aside0 (0 ≤ x13 ∧ x13 ≤ (l1.length : Int) ∧ xs.length < 1000000000000 ∧ (l1.drop x13.toNat).foldl block_Lay.one xs = l1.foldl block_Lay.one l0) ∧ Aside0 (Kd.R (Kd.int .u8) 5 wr w.heap.size (fun _ => True) v5 xs) ∧ Aside0 (Below w.heap.size w wr)) (fun _ v13 _ => l1.length - (intOf v13).toNat)
    case atStart => exact ⟨0, l0, rfl, ⟨Int.le_refl _, by omega, HL.out, rfl⟩, HO, HB⟩
    case round =>
      clear HO HB HCl
      obtain ⟨x13, xs, rfl, HP, HO, HB⟩ := hrel
      obtain ⟨h0, h1, hxl, hfold⟩ := HP.out
      have HF := Aside0.mk hfold
      have HXL := Aside0.mk hxl
      clear HP hfold hxl
      by_cases hlt : x13 < (l1.length : Int)
      · obtain ⟨ad, A2, c2, e, hx0, hx1, hl2, hi2⟩ := at_T46 HR.out x13 h0 hlt
        cases e
        replace hx0 := (HB.out.cell (World.block_lt_of_cell? w _ hx0)).trans hx0
        replace hx1 := (HB.out.cell (World.block_lt_of_cell? w _ hx1)).trans hx1
        have hget : l1.drop x13.toNat = rd_T46 l1 x13 :: l1.drop (x13.toNat + 1) := by
          unfold rd_T46
          rw [List.drop_eq_getElem_cons (by omega), List.getD_eq_getElem?_getD, List.getElem?_eq_getElem (by omega)]
          rfl
        have HG := Aside0.mk hget
        clear hget
        have hlt0 : decide (x13 < (l1.length : Int)) = true := decide_eq_true hlt
        have HLT := Aside0.mk hlt
        have HNN := HN.out
        generalize rd_T46 l1 x13 = p at *
        have hrt := block_Lay.right_f p
        cases hrb : block_Lay.rightB p with
        | false =>
          rw [hrb] at hrt
          have HRT := Aside0.mk hrt
          have HRB := Aside0.mk hrb
          have HI := Aside0.mk hi2
          have HI2 := Aside0.mk hl2
          clear hrt hrb hi2 hl2
          go_wp2_with (go_at_call 32; refine (block_Right.calls _ _ _ _ false _ ?s1 HI2.out HRT.out).mono ?_; (case s1 => exact Kd.C_below HI.out (below_y HB.out)); rintro e w2 ⟨rfl, hb⟩; have HB2 := Aside0.mk (below_step (below_y HB.out) hb); have HO2 := Aside0.mk (Kd.R_below (Kd.R_y HO.out) hb); clear hb)
          go_roundw
          case rel => exact ⟨x13 + 1, xs, by first | rfl | (simp; done), ⟨by omega, by have := HLT.out; omega, HXL.out, by
              have e := HF.out
              rw [HG.out, List.foldl_cons] at e
              have e2 : block_Lay.one xs p = xs := by unfold block_Lay.one; rw [HRB.out]; rfl
              rw [e2] at e
              rw [show (x13 + 1).toNat = x13.toNat + 1 by omega]
              exact e⟩, HO2, HB2⟩
          case measure => have := HLT.out; simp [intOf]; omega
        | true =>
          rw [hrb] at hrt
          obtain ⟨q1, q2, q3, q4⟩ := block_Lay.right_b hrb
          have q5 : p.f1.length ≤ 16 := by omega
          have HRT := Aside0.mk hrt
          have HRB := Aside0.mk hrb
          have HI := Aside0.mk hi2
          have HI2 := Aside0.mk hl2
          clear hrt hrb hi2 hl2 q4
          obtain ⟨Ao, co, eo⟩ := Kd.R_slice HO.out
          subst eo
          have HXX := HXL.out
          by_cases hgr : (xs.length : Int) < p.f0 + (p.f1.length : Int)
          · have hgr0 : decide ((xs.length : Int) < p.f0 + (p.f1.length : Int)) = true := decide_eq_true hgr
            go_wp2_with (first | (go_at_call 32; refine (block_Right.calls _ _ _ _ true _ ?s1 HI2.out HRT.out).mono ?_; (case s1 => exact Kd.C_below HI.out (below_y HB.out)); rintro e w2 ⟨rfl, hb⟩; have HB2 := Aside0.mk (below_step (below_y HB.out) hb); have HO2 := Aside0.mk (Kd.R_below (Kd.R_y HO.out) hb); have bk := (hb.block wr.heap.size (by simp)).trans (heap_alloc_new _ _); have BK := Aside0.mk bk; have hc0 := (blk_cell bk 0).trans rfl; have hc1 := (blk_cell bk 1).trans rfl; clear hb bk) | ((with_reducible refine gate_builtin (b := .append) (xs := #[.tmp 30, .tmp 34]) rfl ?_); at_builtin; refine Kd.R_append_zeros (Kd.int .u8) (w0 := w) w.heap.size rfl (.tmp 30) (.tmp 34) 27 3 5 (.int .u8 0) 1 rfl Try.underlying27 Try.underlying3 info5 rfl (by decide) (by omega) _ xs (0 : Int) (p.f0 + (p.f1.length : Int) - (xs.length : Int)) (fun _ => True) rfl rfl rfl (fun _ _ => trivial) HO2.out ?g0 HB2.out HB2.out.size ?g1 ?_; (case g0 => omega); (case g1 => omega); intro v3 w3 ho3 hb3 hg3 hat3; have HO3 := Aside0.mk ho3; have HB3 := Aside0.mk hb3; have BK3 := Aside0.mk (blk_grown BK.out hg3 (Kd.R_ne HO2.out BK.out (by decide))); clear ho3 hb3 hg3 hat3))
            obtain ⟨xs3, hx3⟩ : ∃ l : List Int, l = xs ++ List.replicate (p.f0.toNat + p.f1.length - xs.length) 0 := ⟨_, rfl⟩
            have HO3' := HO3.out
            rw [show (p.f0 + (p.f1.length : Int) - (xs.length : Int)).toNat = p.f0.toNat + p.f1.length - xs.length by omega, ← hx3] at HO3'
            clear HO3
            have HO3 := Aside0.mk HO3'
            clear HO3'
            have hl3 : xs3.length = p.f0.toNat + p.f1.length := by rw [hx3, List.length_append, List.length_replicate]; omega
            have HX3 := Aside0.mk hx3
            have HL3 := Aside0.mk hl3
            have hl3a : xs3.length < 1000000 := by omega
            have hl3b : p.f0 + (p.f1.length : Int) ≤ (xs3.length : Int) := by omega
            clear hx3 hl3
            obtain ⟨Ao3, co3, eo3⟩ := Kd.R_slice HO3.out
            subst eo3
            clear hc0 hc1
            have hc0 := (blk_cell BK3.out 0).trans rfl
            have hc1 := (blk_cell BK3.out 1).trans rfl
            obtain ⟨g, rfl, hgc⟩ := R_addr HO3.out (by omega)
            obtain ⟨i0, hi0, hiz, hsz, _⟩ := info_parts info5
            have hcut : ∀ W : World, (Instr.slice 27 (.slice (some ⟨g, 0, none⟩) xs3.length co3) (some (.int .i64 p.f0)) none none).run Try.prog W = .ok (.slice (some ⟨g, p.f0.toNat, none⟩) (xs3.length - p.f0.toNat) (co3 - p.f0.toNat)) W := fun W => by
              rw [cut_from (P := Try.prog) 27 5 .i64 Try.underlying27 hi0 1 hsz (some ⟨g, 0, none⟩) xs3.length co3 p.f0 q1 (by omega) W, if_neg (by omega)]
              simp only [Option.map_some, add_plain, Nat.mul_one]
            obtain ⟨cur, hcur, hcl, hbg, hspl⟩ := R_spliced (lo := p.f0.toNat) (ys := p.f1) HO3.out (by omega)
            have HCUR := Aside0.mk hcur
            have HSP := Aside0.mk hspl
            have HBG := Aside0.mk hbg
            have HCL := Aside0.mk hcl
            clear hcur hspl hbg hi0 hiz hsz hcl
            have hmin : (p.f1.map (Value.int .u8)).length = Nat.min p.f1.length (xs3.length - p.f0.toNat) := by
              rw [List.length_map]; exact (Nat.min_eq_left (by omega)).symm
            have HMIN := Aside0.mk hmin
            clear hmin
            have hsrc : ∃ adx, A2 = some adx ∧ ∀ j v, (p.f1.map (Value.int .u8))[j]? = some v → w3.cell? (adx.add j) = some v := by
              obtain ⟨adx, e, hcx⟩ := (Kd.reads_of_C (enc := Value.int .u8) (d := (0 : Int)) (h1 := fun _ => rfl) (Kd.C_below HI.out HB3.out)).2.2 q3
              refine ⟨adx, e, fun j v hv => ?_⟩
              rw [List.getElem?_map] at hv
              obtain ⟨y, hy, rfl⟩ := Option.map_eq_some_iff.1 hv
              have hj := (List.getElem?_eq_some_iff.1 hy).1
              rw [hcx j hj, List.getD_eq_getElem?_getD, hy]
              rfl
            have HSRC := Aside0.mk hsrc
            clear hsrc
            have hsub : p.f0.toNat + p.f1.length ≤ xs3.length := by omega
            have HSUB := Aside0.mk hsub
            clear hsub
            go_region_law (refine step_copy_splice rfl (.tmp 39) (.tmp 41) 27 27 rfl 5 Try.underlying27 (by kernel_rfl) (some ⟨g, p.f0.toNat, none⟩) A2 (xs3.length - p.f0.toNat) (co3 - p.f0.toNat) p.f1.length c2 rfl rfl g p.f0.toNat cur 5 HCUR.out (p.f1.map (Value.int .u8)) HMIN.out (fun _ => ⟨rfl, HSRC.out⟩) (by rw [List.length_map]; have := HSUB.out; have := HCL.out; omega) (by intro v hv; obtain ⟨y, _, rfl⟩ := List.mem_map.1 hv; rfl) w.heap.size w (below_drew HB3.out) HBG.out ?_; intro w4 hg4 hb4; have HR4 := Aside0.mk (HSP.out w4 hg4.out); have HB4 := Aside0.mk hb4; clear hg4 hb4)
            all_goals
              go_wp2
              go_roundw
              case rel => exact ⟨x13 + 1, xs3.take p.f0.toNat ++ p.f1 ++ xs3.drop (p.f0.toNat + p.f1.length), by first | rfl | (simp; done), ⟨by omega, by have := HLT.out; omega, by simp only [List.length_append, List.length_take, List.length_drop]; have := HXL.out; have := HL3.out; have := HSUB.out; omega, by
                  have e := HF.out
                  rw [HG.out, List.foldl_cons] at e
                  rw [← e, show (x13 + 1).toNat = x13.toNat + 1 by omega]
                  congr 1
                  unfold block_Lay.one
                  rw [if_pos HRB.out, ← HX3.out]⟩, HR4, HB4⟩
              case measure => have := HLT.out; simp [intOf]; omega
          · have hgr0 : decide ((xs.length : Int) < p.f0 + (p.f1.length : Int)) = false := decide_eq_false hgr
            go_wp2_with (go_at_call 32; refine (block_Right.calls _ _ _ _ true _ ?s1 HI2.out HRT.out).mono ?_; (case s1 => exact Kd.C_below HI.out (below_y HB.out)); rintro e w2 ⟨rfl, hb⟩; have HB2 := Aside0.mk (below_step (below_y HB.out) hb); have HO2 := Aside0.mk (Kd.R_below (Kd.R_y HO.out) hb); have bk := (hb.block wr.heap.size (by simp)).trans (heap_alloc_new _ _); have BK := Aside0.mk bk; have hc0 := (blk_cell bk 0).trans rfl; have hc1 := (blk_cell bk 1).trans rfl; clear hb bk)
            obtain ⟨g, rfl, hgc⟩ := R_addr HO2.out (by omega)
            obtain ⟨i0, hi0, hiz, hsz, _⟩ := info_parts info5
            have hcut : ∀ W : World, (Instr.slice 27 (.slice (some ⟨g, 0, none⟩) xs.length co) (some (.int .i64 p.f0)) none none).run Try.prog W = .ok (.slice (some ⟨g, p.f0.toNat, none⟩) (xs.length - p.f0.toNat) (co - p.f0.toNat)) W := fun W => by
              rw [cut_from (P := Try.prog) 27 5 .i64 Try.underlying27 hi0 1 hsz (some ⟨g, 0, none⟩) xs.length co p.f0 q1 (by omega) W, if_neg (by omega)]
              simp only [Option.map_some, add_plain, Nat.mul_one]
            obtain ⟨cur, hcur, hcl, hbg, hspl⟩ := R_spliced (lo := p.f0.toNat) (ys := p.f1) HO2.out (by omega)
            have HCUR := Aside0.mk hcur
            have HSP := Aside0.mk hspl
            have HBG := Aside0.mk hbg
            have HCL := Aside0.mk hcl
            clear hcur hspl hbg hi0 hiz hsz hcl
            have hmin : (p.f1.map (Value.int .u8)).length = Nat.min p.f1.length (xs.length - p.f0.toNat) := by
              rw [List.length_map]; exact (Nat.min_eq_left (by omega)).symm
            have HMIN := Aside0.mk hmin
            clear hmin
            have hsrc : ∃ adx, A2 = some adx ∧ ∀ j v, (p.f1.map (Value.int .u8))[j]? = some v → w2.cell? (adx.add j) = some v := by
              obtain ⟨adx, e, hcx⟩ := (Kd.reads_of_C (enc := Value.int .u8) (d := (0 : Int)) (h1 := fun _ => rfl) (Kd.C_below HI.out HB2.out)).2.2 q3
              refine ⟨adx, e, fun j v hv => ?_⟩
              rw [List.getElem?_map] at hv
              obtain ⟨y, hy, rfl⟩ := Option.map_eq_some_iff.1 hv
              have hj := (List.getElem?_eq_some_iff.1 hy).1
              rw [hcx j hj, List.getD_eq_getElem?_getD, hy]
              rfl
            have HSRC := Aside0.mk hsrc
            clear hsrc
            have hsub : p.f0.toNat + p.f1.length ≤ xs.length := by omega
            have HSUB := Aside0.mk hsub
            clear hsub
            go_region_law (refine step_copy_splice rfl (.tmp 39) (.tmp 41) 27 27 rfl 5 Try.underlying27 (by kernel_rfl) (some ⟨g, p.f0.toNat, none⟩) A2 (xs.length - p.f0.toNat) (co - p.f0.toNat) p.f1.length c2 rfl rfl g p.f0.toNat cur 5 HCUR.out (p.f1.map (Value.int .u8)) HMIN.out (fun _ => ⟨rfl, HSRC.out⟩) (by rw [List.length_map]; have := HSUB.out; have := HCL.out; omega) (by intro v hv; obtain ⟨y, _, rfl⟩ := List.mem_map.1 hv; rfl) w.heap.size w (below_drew HB2.out) HBG.out ?_; intro w4 hg4 hb4; have HR4 := Aside0.mk (HSP.out w4 hg4.out); have HB4 := Aside0.mk hb4; clear hg4 hb4)
            all_goals
              go_wp2
              go_roundw
              case rel => exact ⟨x13 + 1, xs.take p.f0.toNat ++ p.f1 ++ xs.drop (p.f0.toNat + p.f1.length), by first | rfl | (simp; done), ⟨by omega, by have := HLT.out; omega, by simp only [List.length_append, List.length_take, List.length_drop]; have := HXL.out; have := HSUB.out; omega, by
                  have e := HF.out
                  rw [HG.out, List.foldl_cons] at e
                  rw [← e, show (x13 + 1).toNat = x13.toNat + 1 by omega]
                  congr 1
                  unfold block_Lay.one
                  rw [if_pos HRB.out, show p.f0.toNat + p.f1.length - xs.length = 0 by omega, List.replicate_zero, List.append_nil]⟩, HR4, HB4⟩
              case measure => have := HLT.out; simp [intOf]; omega
      · have hlt0 : decide (x13 < (l1.length : Int)) = false := decide_eq_false hlt
        have HLT := Aside0.mk hlt
        clear hlt
        go_wp2
        go_ret
        exact ⟨_, rfl, by
          have e := HF.out
          rw [List.drop_of_length_le (by have := HLT.out; omega)] at e
          rw [← e]
          exact HO.out, HB.out⟩
  · rw [if_neg hl] at h
    cases h

/-! ### api_Piece_88: function 88 -/
set_option maxHeartbeats 8000000 in
set_option maxRecDepth 100000 in
theorem api_Piece_88.calls {f : FuncId} {fn : Func} (caps : Array Value) (hf : Try.prog.funcs[f]? = some fn) (hname : (fn.name == "runtime.NumGoroutine") = false) (hb : fn.body.isSome = true) (p : S46 → Bool)
    (A0 : Option Addr) (c0 : Nat) (l0 : List S46) (w : World) (hr0 : Kd.C k46 w A0 l0.length l0) (hc0 : l0.length ≤ c0)
    (hcall : ∀ (W : World) (x : S46) (cs : List Value), x ∈ l0 → Below w.heap.size w W → k46.K W x cs → Calls Try.prog f (#[.agg cs.toArray] ++ caps) W fun e w' => e = .returned (.bool (p x)) ∧ Below W.heap.size W w') :
    Calls Try.prog 88 #[.slice A0 l0.length c0, .func (.func f) #[] caps] w fun e w' => e = .returned (.int .i64 (findI p l0)) ∧ Below w.heap.size w w' := by
  have HR := Aside0.mk hr0
  have HL := hr0.2.1
  have HF := Aside0.mk hcall
  have HX := Aside0.mk hf
  have HY := Aside0.mk hname
  have HZ := Aside0.mk hb
  have HB0 := Aside0.mk (Below.refl w.heap.size w)
  clear hr0 hcall hf hname hb
  go_enter Try.func88, Try.ntmps88
  go_wp2
  go_loopw [8] (fun v8 wr => ∃ x8 : Int, v8 = .int .i64 x8 ∧ Aside0 (0 ≤ x8 ∧ x8 ≤ (l0.length : Int) ∧ ∀ j (hj : j < l0.length), (j : Int) < x8 → p l0[j] = false) ∧ Aside0 (Below w.heap.size w wr)) (fun v8 _ => l0.length - (intOf v8).toNat)
  case atStart => exact ⟨0, rfl, ⟨Int.le_refl _, by omega, fun j _ h => by omega⟩, HB0⟩
  case round =>
    obtain ⟨x8, rfl, HP, HB⟩ := hrel
    obtain ⟨h0, h1, hp⟩ := HP.out
    have HPP := Aside0.mk hp
    clear HP hp
    by_cases hlt : x8 < (l0.length : Int)
    · obtain ⟨ad, A1, c1, e, hx0, hx1, hl1, hi1⟩ := at_T46 HR.out x8 h0 hlt
      cases e
      have HK := Aside0.mk (k46_mk w (rd_T46 l0 x8) hl1 hi1)
      clear hl1 hi1
      replace hx0 := (HB.out.cell (World.block_lt_of_cell? w _ hx0)).trans hx0
      replace hx1 := (HB.out.cell (World.block_lt_of_cell? w _ hx1)).trans hx1
      have hget : (rd_T46 l0 x8) = l0[x8.toNat]'(by omega) := by
        unfold rd_T46
        rw [List.getD_eq_getElem?_getD, List.getElem?_eq_getElem (by omega)]
        rfl
      have HG := Aside0.mk hget
      have HM := Aside0.mk (show (rd_T46 l0 x8) ∈ l0 by rw [hget]; exact List.getElem_mem _)
      clear hget
      have hlt0 : decide (x8 < (l0.length : Int)) = true := decide_eq_true hlt
      have HLT := Aside0.mk hlt
      by_cases hq : p (rd_T46 l0 x8) = true
      · have HQ := Aside0.mk hq
        clear hq
        go_wp2_with ((with_reducible refine gate_dst (N := 16) rfl ?_); (refine goesV_ (some 16) rfl rfl (.tmp 11) caps #[.agg #[.int .i64 (rd_T46 l0 x8).f0, .slice A1 (rd_T46 l0 x8).f1.length c1]] rfl rfl ?ha HX.out HY.out HZ.out ?_); (case ha => (try simp only [List.map_toArray, List.map_cons, List.map_nil]); rfl); refine (HF.out _ _ _ HM.out HB.out (Kd.K_below _ HB.out HK.out)).mono ?_; rintro e w' ⟨rfl, hb'⟩; refine ⟨_, rfl, ?_⟩; rw [HQ.out]; have HB' := Aside0.mk (below_step HB.out hb'); clear hb')
        go_ret
        exact ⟨by rw [findI_at (i := x8.toNat) (by have := HLT.out; omega) (fun j hj hlt2 => HPP.out j hj (by omega)) (by rw [← HG.out]; exact HQ.out), Int.toNat_of_nonneg h0]; rfl, HB'.out⟩
      · have hq' : p (rd_T46 l0 x8) = false := by simpa using hq
        have HQ := Aside0.mk hq'
        clear hq hq'
        go_wp2_with ((with_reducible refine gate_dst (N := 16) rfl ?_); (refine goesV_ (some 16) rfl rfl (.tmp 11) caps #[.agg #[.int .i64 (rd_T46 l0 x8).f0, .slice A1 (rd_T46 l0 x8).f1.length c1]] rfl rfl ?ha HX.out HY.out HZ.out ?_); (case ha => (try simp only [List.map_toArray, List.map_cons, List.map_nil]); rfl); refine (HF.out _ _ _ HM.out HB.out (Kd.K_below _ HB.out HK.out)).mono ?_; rintro e w' ⟨rfl, hb'⟩; refine ⟨_, rfl, ?_⟩; rw [HQ.out]; have HB' := Aside0.mk (below_step HB.out hb'); clear hb')
        go_roundw
        case rel => exact ⟨x8 + 1, by first | rfl | (simp; done), ⟨by omega, by have := HLT.out; omega, fun j hj hlt2 => by
            rcases Int.lt_or_eq_of_le (Int.lt_add_one_iff.1 hlt2) with h | h
            · exact HPP.out j hj h
            · have e : x8.toNat = j := by omega
              subst e
              rw [← HG.out]
              exact HQ.out⟩, HB'⟩
        case measure => have := HLT.out; simp [intOf]; omega
    · have hlt0 : decide (x8 < (l0.length : Int)) = false := decide_eq_false hlt
      have HLT := Aside0.mk hlt
      clear hlt
      go_wp2
      go_ret
      exact ⟨by rw [findI_none (fun j hj => HPP.out j hj (by have := HLT.out; omega))]; rfl, HB.out⟩

/-! ### api_Piece_80: function 80 -/
set_option maxHeartbeats 8000000 in
set_option maxRecDepth 100000 in
theorem api_Piece_80.calls {f : FuncId} {fn : Func} (caps : Array Value) (hf : Try.prog.funcs[f]? = some fn) (hname : (fn.name == "runtime.NumGoroutine") = false) (hb : fn.body.isSome = true) (p : S46 → Bool)
    (A0 : Option Addr) (c0 : Nat) (l0 : List S46) (w : World) (hr0 : Kd.C k46 w A0 l0.length l0) (hc0 : l0.length ≤ c0)
    (hcall : ∀ (W : World) (x : S46) (cs : List Value), x ∈ l0 → Below w.heap.size w W → k46.K W x cs → Calls Try.prog f (#[.agg cs.toArray] ++ caps) W fun e w' => e = .returned (.bool (p x)) ∧ Below W.heap.size W w') :
    Calls Try.prog 80 #[.slice A0 l0.length c0, .func (.func f) #[] caps] w fun e w' => e = .returned (.bool (l0.any p)) ∧ Below w.heap.size w w' := by
  have HF := Aside0.mk (api_Piece_88.calls caps hf hname hb p A0 c0 l0 w hr0 hc0 hcall)
  clear hr0 hcall hf hname hb
  have e1 : decide (0 ≤ findI p l0) = l0.any p := by
    rw [Bool.eq_iff_iff, decide_eq_true_iff]
    exact findI_any p l0
  have E1 := Aside0.mk e1
  clear e1
  go_enter Try.func80, Try.ntmps80
  go_wp2_with (go_at_call 88; refine HF.out.mono ?_; rintro e w' ⟨rfl, hb'⟩; have HB' := Aside0.mk hb'; clear hb'; generalize hv : findI p l0 = v at E1 ⊢; have HV := Aside0.mk hv; clear hv)
  go_ret
  exact ⟨by rw [← E1.out]; rfl, HB'.out⟩

/-! ### file_Right_1: function 81 -/
def file_Right_1.f (a0_0 : Int) (l0_1 : List Int) : Option (Bool) := (block_Right.f a0_0 l0_1).bind fun t127 => (some (!t127))
set_option maxHeartbeats 8000000 in
set_option maxRecDepth 100000 in
theorem file_Right_1.calls (a0_0 : Int) (A0_1 : Option Addr) (c0_1 : Nat) (l0_1 : List Int) (r : Bool) (w : World) (hr0_1 : Kd.C (Kd.int .u8) w A0_1 l0_1.length l0_1) (hc0_1 : l0_1.length ≤ c0_1) (h : file_Right_1.f a0_0 l0_1 = some r) :
    Calls Try.prog 81 #[.agg #[.int .i64 a0_0, .slice A0_1 l0_1.length c0_1]] w fun e w' => e = .returned (.bool r) ∧ Below w.heap.size w w' := by
  have hu46 := Try.underlying46
  have HR0_1 := Aside0.mk hr0_1
  have HC0_1 := Aside0.mk hc0_1
  clear hr0_1 hc0_1
  have HB := Aside0.mk (Below.refl w.heap.size w)
  have H : ((block_Right.f a0_0 l0_1).bind fun t127 => (some (!t127))) = some r := h
  clear h
  replace H := Option.bind_eq_some_iff.mp H
  obtain ⟨t127, A20, H⟩ := H
  replace H : (some (!t127)) = some r := H
  have A2 := Aside0.mk A20
  clear A20
  obtain rfl := Option.some.inj H
  go_enter Try.func81, Try.ntmps81
  go_wp2_with (first | ((with_reducible refine gate_dst (N := 1) rfl ?_); refine box_event ?hg (N := 1) ?hd (cs := #[.int .i64 a0_0, .slice A0_1 l0_1.length c0_1]) (t := 46) ?hr ?_; (case hd => rfl); (case hg => rfl); (case hr => first | (go_simp; done) | (go_simp; rfl)); intro gb126 hg w3 hbox hb; have n0_ := Aside0.mk (below_step (below_y HB.out) hb); have n1_ := Aside0.mk (hbox); have n2_ := Aside0.mk ((by rw [hg]; exact (below_size (below_y HB.out)) : w.heap.size ≤ gb126)); have n3_ := Aside0.mk ((by rw [hg]; exact (below_size (below_y HB.out)) : w.heap.size ≤ gb126)); clear HB; have HB := n0_; have BK126 := n1_; have GW126 := n2_; have GE126 := n3_; clear n0_ n1_ n2_ n3_; clear hb hbox hg; have hcz4_0 : w3.cell? ⟨gb126, 0, none⟩ = some (.int .i64 a0_0) := (blk_cell BK126.out 0).trans rfl; have hcz4_1 : w3.cell? ⟨gb126, 1, none⟩ = some (.slice A0_1 l0_1.length c0_1) := (blk_cell BK126.out 1).trans rfl; have hfz4_0 := blk_frozen BK126.out 0; have hfz4_1 := blk_frozen BK126.out 1) | ((with_reducible refine gate_callee (f := 32) rfl ?_); refine goesL_ (some 4) rfl rfl Try.func32 (by kernel_rfl) rfl #[.agg #[.int .i64 a0_0, .slice A0_1 l0_1.length c0_1]] rfl (by (try simp only [List.map_toArray, List.map_cons, List.map_nil]); first | done | rfl | (simp only [List.length_drop, List.length_take]; rfl)) ?_; (with_reducible refine (block_Right.calls a0_0 _ _ l0_1 t127 _ ?side1 ?side2 A2.out).mono ?_); (case side1 => repeat (first | exact (Kd.C_below HR0_1.out HB.out) | exact HR0_1.out | (with_reducible refine Kd.C_alloc ?_ _) | (with_reducible refine Kd.C_drewN ?_ _) | (with_reducible refine Kd.C_drew ?_))); (case side2 => exact HC0_1.out); rintro e w5 ⟨rfl, hb⟩; refine ⟨_, rfl, ?_⟩; have n0_ := Aside0.mk (blk_below (g := gb126) (o := .cells #[.int .i64 a0_0, .slice A0_1 l0_1.length c0_1] 46 (0, 0)) (blk_y BK126.out) hb); have n1_ := Aside0.mk (below_step (below_y HB.out) hb); clear BK126; clear HB; have BK126 := n0_; have HB := n1_; clear n0_ n1_; (try clear hb); (try clear hb2); (try clear hk); (try clear hi)))
  go_ret
  exact ⟨by first | rfl | (simp [errW_none, errW_some] <;> rfl) | (simp [*, errW_none, errW_some] <;> rfl), by repeat (first | (with_reducible first | exact HB.out | apply below_alloc | apply pw_below_drewN | apply below_drew1 | refine below_set ?_ GE126.out) | exact HB.out)⟩

/-! ### bytes_Equal: function 82 -/
def bytes_Equal.f (l0 : List Int) (l1 : List Int) : Option (Bool) := some ((strOfNums l0).toList == (strOfNums l1).toList)
set_option maxHeartbeats 8000000 in
set_option maxRecDepth 100000 in
theorem bytes_Equal.calls (A0 : Option Addr) (c0 : Nat) (l0 : List Int) (A1 : Option Addr) (c1 : Nat) (l1 : List Int) (r : Bool) (w : World) (hr0 : Kd.C (Kd.int .u8) w A0 l0.length l0) (hc0 : l0.length ≤ c0) (hr1 : Kd.C (Kd.int .u8) w A1 l1.length l1) (hc1 : l1.length ≤ c1) (h : bytes_Equal.f l0 l1 = some r) :
    Calls Try.prog 82 #[.slice A0 l0.length c0, .slice A1 l1.length c1] w fun e w' => e = .returned (.bool r) ∧ Drawn0 w w' := by
  have HR0 := Aside0.mk hr0
  have HC0 := Aside0.mk hc0
  clear hr0 hc0
  have HR1 := Aside0.mk hr1
  have HC1 := Aside0.mk hc1
  clear hr1 hc1
  have H : (some ((strOfNums l0).toList == (strOfNums l1).toList)) = some r := h
  clear h
  obtain rfl := Option.some.inj H
  have hcv3 := Kd.C_string (P := Try.prog) (A := A0) (c := c0) Try.underlying27 Try.underlying5 Try.underlying9 HR0.out
  have hcw3 := fun (m_ n_ : Nat) => Kd.C_string (P := Try.prog) (A := A0) (c := c0) Try.underlying27 Try.underlying5 Try.underlying9 (Kd.C_drewN (Kd.C_drewN HR0.out m_) n_)
  have hcx3 := fun (m_ : Nat) => Kd.C_string (P := Try.prog) (A := A0) (c := c0) Try.underlying27 Try.underlying5 Try.underlying9 (Kd.C_drewN HR0.out m_)
  have hcv4 := Kd.C_string (P := Try.prog) (A := A1) (c := c1) Try.underlying27 Try.underlying5 Try.underlying9 HR1.out
  have hcw4 := fun (m_ n_ : Nat) => Kd.C_string (P := Try.prog) (A := A1) (c := c1) Try.underlying27 Try.underlying5 Try.underlying9 (Kd.C_drewN (Kd.C_drewN HR1.out m_) n_)
  have hcx4 := fun (m_ : Nat) => Kd.C_string (P := Try.prog) (A := A1) (c := c1) Try.underlying27 Try.underlying5 Try.underlying9 (Kd.C_drewN HR1.out m_)
  go_enter Try.func82, Try.ntmps82
  go_wp2
  go_ret
  exact ⟨by first | rfl | (simp; done) | (simp [*]; done), by repeat (first | exact Drawn0.refl _ | apply Drawn0.step)⟩

/-! ### file_Right_1_ContainsFunc: slices.ContainsFunc[[]newsreel/api.Piece,newsreel/api.Piece] with newsreel/file.Right$1 -/
def file_Right_1_ContainsFunc.p (x : S46) : Option Bool := file_Right_1.f x.f0 x.f1
def file_Right_1_ContainsFunc.f (l0 : List S46) : Option Bool := if (l0.all fun x => (file_Right_1_ContainsFunc.p x).isSome) = true then some (l0.any fun x => file_Right_1_ContainsFunc.p x == some true) else none
set_option maxHeartbeats 1000000 in
set_option maxRecDepth 100000 in
theorem file_Right_1_ContainsFunc.calls (A0 : Option Addr) (c0 : Nat) (l0 : List S46) (r : Bool) (w : World) (hr0 : Kd.C k46 w A0 l0.length l0) (hc0 : l0.length ≤ c0) (h : file_Right_1_ContainsFunc.f l0 = some r) :
    Calls Try.prog 80 #[.slice A0 l0.length c0, .func (.func 81) #[] #[]] w fun e w' => e = .returned (.bool r) ∧ Below w.heap.size w w' := by
  unfold file_Right_1_ContainsFunc.f at h
  by_cases ha : (l0.all fun x => (file_Right_1_ContainsFunc.p x).isSome) = true
  · rw [if_pos ha] at h
    obtain rfl := Option.some.inj h
    refine api_Piece_80.calls #[] Try.func81 (by kernel_rfl) rfl (fun x => file_Right_1_ContainsFunc.p x == some true) A0 c0 l0 w hr0 hc0 (fun W x cs hm hb hK => ?_)
    obtain ⟨b, hpb⟩ := Option.isSome_iff_exists.1 (List.all_eq_true.1 ha x hm)
    have hv : (file_Right_1_ContainsFunc.p x == some true) = b := by rw [hpb]; cases b <;> rfl
    rw [hv]
    obtain ⟨A1, c1, rfl, l1, g1⟩ := k46_open hK
    exact (file_Right_1.calls _ _ _ _ _ _ g1 l1 hpb).mono fun e w' h => ⟨h.1, h.2⟩
  · rw [if_neg ha] at h
    cases h

/-! ### file_Right: function 56 -/
def file_Right.j0 : Nat → Bool → List Int → List Int → List (S46) → Option (Bool)
  | 0, _, _, _, _ => none
  | k + 1, x11, x129000, x129001, x129002 => if x11 = true then (some false) else ((block_Lay.f x129001 x129002).bind fun t130 => ((bytes_Equal.f x129000 t130).bind fun t133 => (some t133)))
def file_Right.f (k : Nat) (l0_0 : List Int) (l0_1 : List Int) (l0_2 : List (S46)) : Option (Bool) := if (l0_1.length : Int) > 65536 then (file_Right.j0 k true l0_0 l0_1 l0_2) else ((file_Right_1_ContainsFunc.f l0_2).bind fun t129 => (file_Right.j0 k t129 l0_0 l0_1 l0_2))
theorem file_Right.mono_l : ∀ k, (∀ y0 y1 y2 y3, LeO (file_Right.j0 k y0 y1 y2 y3) (file_Right.j0 (k + 1) y0 y1 y2 y3))
  | 0 => fun _ _ _ _ r h => by simp [file_Right.j0] at h
  | k + 1 => by
    have ih0 := file_Right.mono_l k
    · intro y0 y1 y2 y3
      unfold file_Right.j0
      repeat' first
      | (with_reducible exact ih0 _ _ _ _)
      | (with_reducible exact LeO.refl _)
      | (with_reducible exact LeO.none _)
      | (with_reducible refine LeO.ite ?_ ?_)
      | (with_reducible refine LeO.bind ?_ (fun _ => ?_))
      | exact ih0 _ _ _ _
      | exact LeO.none _
      | refine LeO.ite ?_ ?_
      | refine LeO.bind ?_ (fun _ => ?_)
theorem file_Right.mono : ∀ a0 a1 a2 k, LeO (file_Right.f k a0 a1 a2) (file_Right.f (k + 1) a0 a1 a2) := by
  intro a0 a1 a2 k
  have ih0 := file_Right.mono_l k
  unfold file_Right.f
  repeat' first
      | (with_reducible exact ih0 _ _ _ _)
      | (with_reducible exact LeO.refl _)
      | (with_reducible exact LeO.none _)
      | (with_reducible refine LeO.ite ?_ ?_)
      | (with_reducible refine LeO.bind ?_ (fun _ => ?_))
      | exact ih0 _ _ _ _
      | exact LeO.none _
      | refine LeO.ite ?_ ?_
      | refine LeO.bind ?_ (fun _ => ?_)
def file_Right.T3 : Bool × List (List Nat × List Nat) := (true, [([], []), ([0], [0]), ([], []), ([2], [2]), ([], []), ([4], [4]), ([3, 5], [3, 5]), ([1, 6, 6], [1, 6]), ([7, 7, 0, 1, 2, 3, 4, 5, 6, 7], [7])])
def file_Right.B3 : List Nat := [0, 1, 0, 4, 0, 16, 60, 127, 255]
theorem file_Right.tab3 : rtab .any (opsOf Try.f56 3) = file_Right.T3 := by kernel_rfl
theorem file_Right.bits3 : waitsOk file_Right.T3.2 file_Right.B3 = true := by kernel_rfl
set_option maxHeartbeats 8000000 in
set_option maxRecDepth 100000 in
theorem file_Right.calls (k : Nat) (A0_0 : Option Addr) (c0_0 : Nat) (l0_0 : List Int) (A0_1 : Option Addr) (c0_1 : Nat) (l0_1 : List Int) (A0_2 : Option Addr) (c0_2 : Nat) (l0_2 : List (S46)) (r : Bool) (w : World) (hr0_0 : Kd.C (Kd.int .u8) w A0_0 l0_0.length l0_0) (hc0_0 : l0_0.length ≤ c0_0) (hr0_1 : Kd.C (Kd.int .u8) w A0_1 l0_1.length l0_1) (hc0_1 : l0_1.length ≤ c0_1) (hr0_2 : Kd.C k46 w A0_2 l0_2.length l0_2) (hc0_2 : l0_2.length ≤ c0_2) (h : file_Right.f k l0_0 l0_1 l0_2 = some r) :
    Calls Try.prog 56 #[.agg #[.slice A0_0 l0_0.length c0_0, .slice A0_1 l0_1.length c0_1, .slice A0_2 l0_2.length c0_2]] w fun e w' => e = .returned (.bool r) ∧ Below w.heap.size w w' := by
  have hu76 := Try.underlying76
  have HR0_0 := Aside0.mk hr0_0
  have HC0_0 := Aside0.mk hc0_0
  clear hr0_0 hc0_0
  have HR0_1 := Aside0.mk hr0_1
  have HC0_1 := Aside0.mk hc0_1
  clear hr0_1 hc0_1
  have HR0_2 := Aside0.mk hr0_2
  have HC0_2 := Aside0.mk hc0_2
  clear hr0_2 hc0_2
  have HB := Aside0.mk (Below.refl w.heap.size w)
  have H : (if (l0_1.length : Int) > 65536 then (file_Right.j0 k true l0_0 l0_1 l0_2) else ((file_Right_1_ContainsFunc.f l0_2).bind fun t129 => (file_Right.j0 k t129 l0_0 l0_1 l0_2))) = some r := h
  clear h
  have HC2 := Aside0.mk H
  clear H
  go_enter Try.func56, Try.ntmps56
  go_upto_region 1 with (first | ((with_reducible refine gate_dst (N := 1) rfl ?_); refine box_event ?hg (N := 1) ?hd (cs := #[.slice A0_0 l0_0.length c0_0, .slice A0_1 l0_1.length c0_1, .slice A0_2 l0_2.length c0_2]) (t := 76) ?hr ?_; (case hd => rfl); (case hg => rfl); (case hr => first | (go_simp; done) | (go_simp; rfl)); intro gb128 hg w3 hbox hb; have n0_ := Aside0.mk (below_step (below_y HB.out) hb); have n1_ := Aside0.mk (hbox); have n2_ := Aside0.mk ((by rw [hg]; exact (below_size (below_y HB.out)) : w.heap.size ≤ gb128)); have n3_ := Aside0.mk ((by rw [hg]; exact (below_size (below_y HB.out)) : w.heap.size ≤ gb128)); clear HB; have HB := n0_; have BK128 := n1_; have GW128 := n2_; have GE128 := n3_; clear n0_ n1_ n2_ n3_; clear hb hbox hg))
  (try simp only [Act.put, List.setIfInBounds_toArray, List.set_cons_zero, List.set_cons_succ])
  go_cut [11] (fun v11 wc => ∃ (kq : Nat) (x11_1 : Bool), v11 = .bool x11_1 ∧ Aside0 (file_Right.j0 kq x11_1 l0_0 l0_1 l0_2 = some r) ∧ Aside0 (kq ≤ k) ∧ Aside0 (wc.heap[gb128]? = some (.cells #[(.slice A0_0 l0_0.length c0_0), (.slice A0_1 l0_1.length c0_1), (.slice A0_2 l0_2.length c0_2)] 76 (0, 0))) ∧ Aside0 (Below w.heap.size w wc))
  case first =>
    have H := HC2.out
    clear HC2
    by_cases c4 : (l0_1.length : Int) > 65536
    · rw [if_pos c4] at H
      have c4b0 : decide (65536 < (l0_1.length : Int)) = true := decide_eq_true c4
      have c4b1 : decide (65536 < l0_1.length) = true := decide_eq_true (by omega)
      clear c4
      (first | rw [c4b0] | (simp only [i64_w, i32_w]; rw [c4b0]) | skip)
      have H' := Aside0.mk H
      clear H
      have hcz5_0 : w3.cell? ⟨gb128, 0, none⟩ = some (.slice A0_0 l0_0.length c0_0) := (blk_cell BK128.out 0).trans rfl
      have hcz5_1 : w3.cell? ⟨gb128, 1, none⟩ = some (.slice A0_1 l0_1.length c0_1) := (blk_cell BK128.out 1).trans rfl
      have hcz5_2 : w3.cell? ⟨gb128, 2, none⟩ = some (.slice A0_2 l0_2.length c0_2) := (blk_cell BK128.out 2).trans rfl
      have hfz5_0 := blk_frozen BK128.out 0
      have hfz5_1 := blk_frozen BK128.out 1
      have hfz5_2 := blk_frozen BK128.out 2
      go_wp2
      go_meet
      case rel => exact ⟨_, (true), (by first | rfl | (simp; done) | (simp [*]; done)), H', ⟨by first | omega | exact Nat.le_refl _⟩, ⟨by (with_reducible repeat (first | refine blk_drewN ?_ _ | refine blk_drew ?_ | refine blk_alloc ?_ _)); exact BK128.out⟩, ⟨by repeat (first | (with_reducible first | exact HB.out | apply below_alloc | apply pw_below_drewN | apply below_drew1 | refine below_set ?_ GE128.out) | exact HB.out)⟩⟩
    · rw [if_neg c4] at H
      have c4b0 : decide (65536 < (l0_1.length : Int)) = false := decide_eq_false c4
      have c4b1 : decide (65536 < l0_1.length) = false := decide_eq_false (by omega)
      clear c4
      (first | rw [c4b0] | (simp only [i64_w, i32_w]; rw [c4b0]) | skip)
      replace H := Option.bind_eq_some_iff.mp H
      obtain ⟨t129, A60, H⟩ := H
      replace H : (file_Right.j0 k t129 l0_0 l0_1 l0_2) = some r := H
      have A6 := Aside0.mk A60
      clear A60
      have H' := Aside0.mk H
      clear H
      have hcz7_0 : w3.cell? ⟨gb128, 0, none⟩ = some (.slice A0_0 l0_0.length c0_0) := (blk_cell BK128.out 0).trans rfl
      have hcz7_1 : w3.cell? ⟨gb128, 1, none⟩ = some (.slice A0_1 l0_1.length c0_1) := (blk_cell BK128.out 1).trans rfl
      have hcz7_2 : w3.cell? ⟨gb128, 2, none⟩ = some (.slice A0_2 l0_2.length c0_2) := (blk_cell BK128.out 2).trans rfl
      have hfz7_0 := blk_frozen BK128.out 0
      have hfz7_1 := blk_frozen BK128.out 1
      have hfz7_2 := blk_frozen BK128.out 2
      go_wp2_with (first | (go_at_call 80; (with_reducible refine (file_Right_1_ContainsFunc.calls _ _ l0_2 t129 _ ?side1 ?side2 A6.out).mono ?_); (case side1 => repeat (first | exact (Kd.C_below HR0_2.out HB.out) | exact HR0_2.out | (with_reducible refine Kd.C_alloc ?_ _) | (with_reducible refine Kd.C_drewN ?_ _) | (with_reducible refine Kd.C_drew ?_))); (case side2 => exact HC0_2.out); rintro e w8 ⟨rfl, hb⟩; have n0_ := Aside0.mk (blk_below (g := gb128) (o := .cells #[.slice A0_0 l0_0.length c0_0, .slice A0_1 l0_1.length c0_1, .slice A0_2 l0_2.length c0_2] 76 (0, 0)) (blk_y BK128.out) hb); have n1_ := Aside0.mk (below_step (below_y HB.out) hb); clear BK128; clear HB; have BK128 := n0_; have HB := n1_; clear n0_ n1_; (try clear hb); (try clear hb2); (try clear hk); (try clear hi)))
      go_meet
      case rel => exact ⟨_, (t129), (by first | rfl | (simp; done) | (simp [*]; done)), H', ⟨by first | omega | exact Nat.le_refl _⟩, ⟨by (with_reducible repeat (first | refine blk_drewN ?_ _ | refine blk_drew ?_ | refine blk_alloc ?_ _)); exact BK128.out⟩, ⟨by repeat (first | (with_reducible first | exact HB.out | apply below_alloc | apply pw_below_drewN | apply below_drew1 | refine below_set ?_ GE128.out) | exact HB.out)⟩⟩
  case rest =>
    clear HC2
    try clear p2
    try clear c4
    try clear c4b0
    try clear c4b1
    try clear c5
    try clear hcz5_0
    try clear hcz5_1
    try clear hcz5_2
    try clear hcz7_0
    try clear hcz7_1
    try clear hcz7_2
    try clear hfz5_0
    try clear hfz5_1
    try clear hfz5_2
    try clear hfz7_0
    try clear hfz7_1
    try clear hfz7_2
    obtain ⟨kq, x11_1, rfl, HA, HJ1, BK128, HB⟩ := hcut
    cases kq with
    | zero => exact absurd HA.out (by simp [file_Right.j0])
    | succ kj1 =>
      have H := HA.out
      clear HA
      simp only [file_Right.j0] at H
      by_cases c9 : x11_1 = true
      · subst c9
        have H1 : (some false) = some r := by rw [if_pos rfl] at H; exact H
        clear H
        have H := H1
        clear H1
        obtain rfl := Option.some.inj H
        go_wp2
        go_ret
        exact ⟨by first | rfl | (simp [errW_none, errW_some] <;> rfl) | (simp [*, errW_none, errW_some] <;> rfl), by repeat (first | (with_reducible first | exact HB.out | apply below_alloc | apply pw_below_drewN | apply below_drew1 | refine below_set ?_ GE128.out) | exact HB.out)⟩
      · replace c9 := Bool.eq_false_iff.mpr c9
        subst c9
        have H1 : ((block_Lay.f l0_1 l0_2).bind fun t130 => ((bytes_Equal.f l0_0 t130).bind fun t133 => (some t133))) = some r := by rw [if_neg (show ¬ (false = true) by decide)] at H; exact H
        clear H
        have H := H1
        clear H1
        replace H := Option.bind_eq_some_iff.mp H
        obtain ⟨t130, A100, H⟩ := H
        replace H : ((bytes_Equal.f l0_0 t130).bind fun t133 => (some t133)) = some r := H
        have A10 := Aside0.mk A100
        clear A100
        replace H := Option.bind_eq_some_iff.mp H
        obtain ⟨t133, A110, H⟩ := H
        replace H : (some t133) = some r := H
        have A11 := Aside0.mk A110
        clear A110
        obtain rfl := Option.some.inj H
        try go_wp2
        have n0_ := Aside0.mk (blk_drew BK128.out)
        have n1_ := Aside0.mk (below_drew1 HB.out)
        clear BK128
        clear HB
        have BK128 := n0_
        have HB := n1_
        clear n0_ n1_
        refine start_ (n := 9) (S := fun w' => w'.cell? ⟨gb128, 0, none⟩ = some (.slice A0_0 l0_0.length c0_0) ∧ w'.cell? ⟨gb128, 1, none⟩ = some (.slice A0_1 l0_1.length c0_1) ∧ w'.cell? ⟨gb128, 2, none⟩ = some (.slice A0_2 l0_2.length c0_2)) (ds := []) #[false, false, false, false, false, false, false, false, false] (by kernel_rfl) rfl rfl ⟨(blk_cell BK128.out 0).trans rfl, (blk_cell BK128.out 1).trans rfl, (blk_cell BK128.out 2).trans rfl⟩ (fun hHeld => ?_); refine with_tabW file_Right.tab3 file_Right.bits3 (fun HT_ HW_ => ?_)
        generalize wc.drew = w12 at BK128 HB hHeld ⊢
        refine pure_ (i := 0) (N := some 12) (v := ?_) (a' := ?_) #[true, false, false, false, false, false, false, false, false] rfl rfl (any_of HT_.out (by kernel_rfl)) (fun _ _ _ h => h) (Or.inl ⟨by rfl, ?_⟩) ?_ ?_
        rotate_left
        · intro w'
          go_simp
          with_reducible rfl
        rotate_left
        · simp only [Act.put, List.setIfInBounds_toArray, List.set_cons_zero, List.set_cons_succ, i64_w, i32_w]
          rfl
        refine pure_ (i := 2) (N := some 14) (v := ?_) (a' := ?_) #[true, false, true, false, false, false, false, false, false] rfl rfl (any_of HT_.out (by kernel_rfl)) (fun _ _ _ h => h) (Or.inl ⟨by rfl, ?_⟩) ?_ ?_
        rotate_left
        · intro w'
          go_simp
          with_reducible rfl
        rotate_left
        · simp only [Act.put, List.setIfInBounds_toArray, List.set_cons_zero, List.set_cons_succ, i64_w, i32_w]
          rfl
        refine pure_ (i := 4) (N := some 16) (v := ?_) (a' := ?_) #[true, false, true, false, true, false, false, false, false] rfl rfl (any_of HT_.out (by kernel_rfl)) (fun _ _ _ h => h) (Or.inl ⟨by rfl, ?_⟩) ?_ ?_
        rotate_left
        · intro w'
          go_simp
          with_reducible rfl
        rotate_left
        · simp only [Act.put, List.setIfInBounds_toArray, List.set_cons_zero, List.set_cons_succ, i64_w, i32_w]
          rfl
        refine take_ (i := 1) (N := some 13) (v := ?_) (a' := ?_) #[true, true, true, false, true, false, false, false, false] rfl rfl (take_ofW HT_.out HW_.out (by kernel_rfl)) (fun _ _ _ h => h) (Or.inl ⟨by rfl, ?_⟩) hHeld ?_ ?_
        rotate_left
        · rintro w' ⟨s0, s1, s2⟩
          go_simp
          with_reducible rfl
        rotate_left
        · simp only [Act.put, List.setIfInBounds_toArray, List.set_cons_zero, List.set_cons_succ, i64_w, i32_w]
          rfl
        refine take_ (i := 3) (N := some 15) (v := ?_) (a' := ?_) #[true, true, true, true, true, false, false, false, false] rfl rfl (take_ofW HT_.out HW_.out (by kernel_rfl)) (fun _ _ _ h => h) (Or.inl ⟨by rfl, ?_⟩) hHeld ?_ ?_
        rotate_left
        · rintro w' ⟨s0, s1, s2⟩
          go_simp
          with_reducible rfl
        rotate_left
        · simp only [Act.put, List.setIfInBounds_toArray, List.set_cons_zero, List.set_cons_succ, i64_w, i32_w]
          rfl
        refine take_ (i := 5) (N := some 17) (v := ?_) (a' := ?_) #[true, true, true, true, true, true, false, false, false] rfl rfl (take_ofW HT_.out HW_.out (by kernel_rfl)) (fun _ _ _ h => h) (Or.inl ⟨by rfl, ?_⟩) hHeld ?_ ?_
        rotate_left
        · rintro w' ⟨s0, s1, s2⟩
          go_simp
          with_reducible rfl
        rotate_left
        · simp only [Act.put, List.setIfInBounds_toArray, List.set_cons_zero, List.set_cons_succ, i64_w, i32_w]
          rfl
        refine one_ (i := 6) (N := some 18) #[true, true, true, true, true, true, true, false, false] rfl rfl (one_of HT_.out (by kernel_rfl)) (by decide) (fun K hK => ?_)
        refine goes_ Try.func35 (by kernel_rfl) rfl #[.slice A0_1 l0_1.length c0_1, .slice A0_2 l0_2.length c0_2] (by rfl) rfl rfl (by (try simp only [List.map_toArray, List.map_cons, List.map_nil]); first | done | rfl | (simp only [List.length_drop, List.length_take]; rfl)) ?_
        with_reducible refine (block_Lay.calls _ _ l0_1 _ _ l0_2 t130 _ ?side1 ?side2 ?side3 ?side4 A10.out).mono ?_
        (case side1 => repeat (first | exact (Kd.C_below HR0_1.out HB.out) | exact HR0_1.out | (with_reducible refine Kd.C_alloc ?_ _) | (with_reducible refine Kd.C_drewN ?_ _) | (with_reducible refine Kd.C_drew ?_)))
        (case side2 => exact HC0_1.out)
        (case side3 => repeat (first | exact (Kd.C_below HR0_2.out HB.out) | exact HR0_2.out | (with_reducible refine Kd.C_alloc ?_ _) | (with_reducible refine Kd.C_drewN ?_ _) | (with_reducible refine Kd.C_drew ?_)))
        (case side4 => exact HC0_2.out)
        rintro e w13 ⟨v131, rfl, ho0, hb⟩
        refine ⟨_, rfl, ?_⟩
        have n0_ := Aside0.mk (Kd.R_lower ho0 (below_size (below_y HB.out)))
        have n1_ := Aside0.mk (blk_below (g := gb128) (o := .cells #[.slice A0_0 l0_0.length c0_0, .slice A0_1 l0_1.length c0_1, .slice A0_2 l0_2.length c0_2] 76 (0, 0)) (blk_y BK128.out) hb)
        have n2_ := Aside0.mk (below_step (below_y HB.out) hb)
        clear BK128
        clear HB
        have HO132 := n0_
        have BK128 := n1_
        have HB := n2_
        clear n0_ n1_ n2_
        (try clear hb)
        (try clear hb2)
        (try clear hk)
        (try clear hi)
        (try clear ho0)
        obtain ⟨Ao14, co14, eo14⟩ := Kd.R_slice HO132.out
        (first | subst eo14 | (injection eo14 with f1_ f2_ f3_; have f4_ := f1_.symm; have f5_ := f3_.symm; clear f1_ f2_ f3_; subst f4_; subst f5_))
        refine hK.out _ _ ⟨(blk_cell BK128.out 0).trans rfl, (blk_cell BK128.out 1).trans rfl, (blk_cell BK128.out 2).trans rfl⟩ (fun hHeld => ?_)
        clear hK K
        refine norm_ (a' := ?_) ?_ ?_
        rotate_left
        · show Act.put _ (some 18) _ = _
          simp only [Act.put, List.setIfInBounds_toArray, List.set_cons_zero, List.set_cons_succ, i64_w, i32_w]
          rfl
        refine one_ (i := 7) (N := some 19) #[true, true, true, true, true, true, true, true, false] rfl rfl (one_of HT_.out (by kernel_rfl)) (by decide) (fun K hK => ?_)
        refine goes_ Try.func82 (by kernel_rfl) rfl #[.slice A0_0 l0_0.length c0_0, .slice Ao14 t130.length co14] (by rfl) rfl rfl (by (try simp only [List.map_toArray, List.map_cons, List.map_nil]); first | done | rfl | (simp only [List.length_drop, List.length_take]; rfl)) ?_
        with_reducible refine (bytes_Equal.calls _ _ l0_0 _ _ t130 t133 _ ?side1 ?side2 ?side3 ?side4 A11.out).mono ?_
        (case side1 => repeat (first | exact (Kd.C_below HR0_0.out HB.out) | exact HR0_0.out | (with_reducible refine Kd.C_alloc ?_ _) | (with_reducible refine Kd.C_drewN ?_ _) | (with_reducible refine Kd.C_drew ?_)))
        (case side2 => exact HC0_0.out)
        (case side3 => exact Kd.C_y (Kd.R_reads' HO132.out).2.2)
        (case side4 => exact (Kd.R_reads' HO132.out).2.1)
        rintro e w' ⟨rfl, ⟨nd, rfl⟩⟩
        refine ⟨_, rfl, ?_⟩
        refine hK.out _ _ ⟨(blk_cell BK128.out 0).trans rfl, (blk_cell BK128.out 1).trans rfl, (blk_cell BK128.out 2).trans rfl⟩ (fun hHeld => ?_)
        clear hK K
        refine norm_ (a' := ?_) ?_ ?_
        rotate_left
        · show Act.put _ (some 19) _ = _
          simp only [Act.put, List.setIfInBounds_toArray, List.set_cons_zero, List.set_cons_succ, i64_w, i32_w]
          rfl
        refine pure_ (i := 8) (N := some 2) (v := ?_) (a' := ?_) #[true, true, true, true, true, true, true, true, true] rfl rfl (any_of HT_.out (by kernel_rfl)) (fun _ _ _ h => h) (Or.inl ⟨by rfl, ?_⟩) ?_ ?_
        rotate_left
        · intro w'
          go_simp
          with_reducible rfl
        rotate_left
        · simp only [Act.put, List.setIfInBounds_toArray, List.set_cons_zero, List.set_cons_succ, i64_w, i32_w]
          rfl
        refine done_ (done_of HT_.out (by kernel_rfl)) ?_
        try go_wp2
        go_ret
        exact ⟨by first | rfl | (simp [errW_none, errW_some] <;> rfl) | (simp [*, errW_none, errW_some] <;> rfl), by repeat (first | (with_reducible first | exact HB.out | apply below_alloc | apply pw_below_drewN | apply below_drew1 | refine below_set ?_ GE128.out) | exact HB.out)⟩

end Go.Proofs.Ytkkikdjfigffhaa.XFil
