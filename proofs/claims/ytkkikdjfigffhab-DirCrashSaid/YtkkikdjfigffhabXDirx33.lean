-- By a program of this work (xprint.py) over the translation; Lean checks it.
import Derived.Test.YtkkikdjfigffhabXDirx0
import Derived.Test.YtkkikdjfigffhabXDirx26
import Derived.Test.YtkkikdjfigffhabXDirx27
import Derived.Test.YtkkikdjfigffhabXDirx32
namespace Go.Proofs.Ytkkikdjfigffhab.XDir
open Go.RowKit Go.Proofs.YtkkikdjfigffhabW.PrintWords Go.Proofs.YtkkikdjfigffhabW.PrintLast Go.Proofs.YtkkikdjfigffhabW.PrintMore
attribute [local go_sem] max2_int min2_int max_two min_two max_three min_three max_four min_four   -- for this text's walks alone
set_option linter.unusedVariables false
set_option linter.unusedSimpArgs false

/-! ### newsreelref10_Right: function 49 -/
def newsreelref10_Right.l0 : Nat → Int → List (S77) → List (S77) → List (S69) → Option (Bool)
 | 0, _, _, _, _ => none
 | k + 1, x3, x315000, x315001, x315002 => if x3 < (x315001.length : Int) then (if 0 ≤ x3 then ((newsreelref10_Name.f k ((rd_T77 x315001 x3).f0)).bind fun t316 => (if t316 = true then (if x3 > 0 then (if 0 ≤ (wrap64 (x3 - 1)) then (if (wrap64 (x3 - 1)) < (x315001.length : Int) then (if ((Op.bytesLess (((rd_T77 x315001 (wrap64 (x3 - 1))).f0).toList) (((rd_T77 x315001 x3).f0).toList)) = true) then (newsreelref10_Right.l0 k (wrap64 (x3 + 1)) x315000 x315001 x315002) else (some false)) else (none)) else (none)) else (newsreelref10_Right.l0 k (wrap64 (x3 + 1)) x315000 x315001 x315002)) else (some false))) else (none)) else (if (x315001.length : Int) > 100 then (some false) else ((newsreelref10_All.f k x315001 x315002).bind fun bt319 => (if bt319.2 = true then ((newsreelref10_Entries.f k bt319.1 x315000).bind fun t323 => (some t323)) else (some false))))
def newsreelref10_Right.f (k : Nat) (l0_0 : List (S77)) (l0_1 : List (S77)) (l0_2 : List (S69)) : Option (Bool) := newsreelref10_Right.l0 k 0 l0_0 l0_1 l0_2
theorem newsreelref10_Right.mono_l : ∀ k, (∀ y0 y1 y2 y3, LeO (newsreelref10_Right.l0 k y0 y1 y2 y3) (newsreelref10_Right.l0 (k + 1) y0 y1 y2 y3))
 | 0 => fun _ _ _ _ r h => by simp [newsreelref10_Right.l0] at h
 | k + 1 => by
  have ih0 := newsreelref10_Right.mono_l k
  ·intro y0 y1 y2 y3
   unfold newsreelref10_Right.l0
   repeat' first
   | (with_reducible exact ih0 _ _ _ _)
   | (with_reducible exact newsreelref10_All.mono _ _ _)
   | (with_reducible exact newsreelref10_Entries.mono _ _ _)
   | (with_reducible exact newsreelref10_Name.mono _ _)
   | (with_reducible exact LeO.refl _)
   | (with_reducible exact LeO.none _)
   | (with_reducible refine LeO.ite ?_ ?_)
   | (with_reducible refine LeO.bind ?_ (fun _ => ?_))
   | exact ih0 _ _ _ _
   | exact newsreelref10_All.mono _ _ _
   | exact newsreelref10_Entries.mono _ _ _
   | exact newsreelref10_Name.mono _ _
   | exact LeO.none _
   | refine LeO.ite ?_ ?_
   | refine LeO.bind ?_ (fun _ => ?_)
theorem newsreelref10_Right.mono : ∀ a0 a1 a2 k, LeO (newsreelref10_Right.f k a0 a1 a2) (newsreelref10_Right.f (k + 1) a0 a1 a2) := by
 intro a0 a1 a2 k
 have ih0 := newsreelref10_Right.mono_l k
 unfold newsreelref10_Right.f
 repeat' first
   | (with_reducible exact ih0 _ _ _ _)
   | (with_reducible exact newsreelref10_All.mono _ _ _)
   | (with_reducible exact newsreelref10_Entries.mono _ _ _)
   | (with_reducible exact newsreelref10_Name.mono _ _)
   | (with_reducible exact LeO.refl _)
   | (with_reducible exact LeO.none _)
   | (with_reducible refine LeO.ite ?_ ?_)
   | (with_reducible refine LeO.bind ?_ (fun _ => ?_))
   | exact ih0 _ _ _ _
   | exact newsreelref10_All.mono _ _ _
   | exact newsreelref10_Entries.mono _ _ _
   | exact newsreelref10_Name.mono _ _
   | exact LeO.none _
   | refine LeO.ite ?_ ?_
   | refine LeO.bind ?_ (fun _ => ?_)
set_option maxHeartbeats 8000000 in
set_option maxRecDepth 100000 in
theorem newsreelref10_Right.calls (k : Nat) (A0_0 : Option Addr) (c0_0 : Nat) (l0_0 : List (S77)) (A0_1 : Option Addr) (c0_1 : Nat) (l0_1 : List (S77)) (A0_2 : Option Addr) (c0_2 : Nat) (l0_2 : List (S69)) (r : Bool) (w : World) (hr0_0 : Kd.C k77 w A0_0 l0_0.length l0_0) (hc0_0 : l0_0.length ≤ c0_0) (hr0_1 : Kd.C k77 w A0_1 l0_1.length l0_1) (hc0_1 : l0_1.length ≤ c0_1) (hr0_2 : Kd.C k69 w A0_2 l0_2.length l0_2) (hc0_2 : l0_2.length ≤ c0_2) (h : newsreelref10_Right.f k l0_0 l0_1 l0_2 = some r) :
  Calls Try.prog 49 #[.agg #[.slice A0_0 l0_0.length c0_0, .slice A0_1 l0_1.length c0_1, .slice A0_2 l0_2.length c0_2]] w fun e w' => e = .returned (.bool r) ∧ Below w.heap.size w w' := by
 have hu67 := Try.underlying67
 have HR0_0 := mkA hr0_0
 have HC0_0 := mkA hc0_0
 clear hr0_0 hc0_0
 have HR0_1 := mkA hr0_1
 have HC0_1 := mkA hc0_1
 clear hr0_1 hc0_1
 have HR0_2 := mkA hr0_2
 have HC0_2 := mkA hc0_2
 clear hr0_2 hc0_2
 have HB := mkA (Below.refl w.heap.size w)
 have H : (newsreelref10_Right.l0 k 0 l0_0 l0_1 l0_2) = some r := h
 clear h
 have H' := mkA H
 clear H
 go_enter Try.func49, Try.ntmps49
 go_wp2_with (first | ((with_reducible refine gate_dst (N := 1) rfl ?_); refine box_event ?hg (N := 1) ?hd (cs := #[.slice A0_0 l0_0.length c0_0, .slice A0_1 l0_1.length c0_1, .slice A0_2 l0_2.length c0_2]) (t := 67) ?hr ?_; (case hd => rfl); (case hg => rfl); (case hr => first | (go_simp; done) | (go_simp; rfl)); intro gb314 hg w2 hbox hb; have n0_ := mkA (below_step (below_y HB.out) hb); have n1_ := mkA (hbox); have n2_ := mkA ((gz hg HB.out : w.heap.size ≤ gb314)); have n3_ := mkA ((gz hg HB.out : w.heap.size ≤ gb314)); clear HB; have HB := n0_; have BK314 := n1_; have GW314 := n2_; have GE314 := n3_; clear n0_ n1_ n2_ n3_; clear hb hbox hg))
 repeat (go_quiet (first | ((with_reducible refine gate_dst (N := 1) rfl ?_); refine box_event ?hg (N := 1) ?hd (cs := #[.slice A0_0 l0_0.length c0_0, .slice A0_1 l0_1.length c0_1, .slice A0_2 l0_2.length c0_2]) (t := 67) ?hr ?_; (case hd => rfl); (case hg => rfl); (case hr => first | (go_simp; done) | (go_simp; rfl)); intro gb314 hg w2 hbox hb; have n0_ := mkA (below_step (below_y HB.out) hb); have n1_ := mkA (hbox); have n2_ := mkA ((gz hg HB.out : w.heap.size ≤ gb314)); have n3_ := mkA ((gz hg HB.out : w.heap.size ≤ gb314)); clear HB; have HB := n0_; have BK314 := n1_; have GW314 := n2_; have GE314 := n3_; clear n0_ n1_ n2_ n3_; clear hb hbox hg)); try go_wp2_with (first | ((with_reducible refine gate_dst (N := 1) rfl ?_); refine box_event ?hg (N := 1) ?hd (cs := #[.slice A0_0 l0_0.length c0_0, .slice A0_1 l0_1.length c0_1, .slice A0_2 l0_2.length c0_2]) (t := 67) ?hr ?_; (case hd => rfl); (case hg => rfl); (case hr => first | (go_simp; done) | (go_simp; rfl)); intro gb314 hg w2 hbox hb; have n0_ := mkA (below_step (below_y HB.out) hb); have n1_ := mkA (hbox); have n2_ := mkA ((gz hg HB.out : w.heap.size ≤ gb314)); have n3_ := mkA ((gz hg HB.out : w.heap.size ≤ gb314)); clear HB; have HB := n0_; have BK314 := n1_; have GW314 := n2_; have GE314 := n3_; clear n0_ n1_ n2_ n3_; clear hb hbox hg)))
 go_loopg [3] k (fun kq v3 w' => ∃ (x3_1 : Int), v3 = .int .i64 x3_1 ∧ Aside0 (newsreelref10_Right.l0 kq x3_1 l0_0 l0_1 l0_2 = some r) ∧ Aside0 (kq ≤ k) ∧ Aside0 (w'.heap[gb314]? = some (.cells #[(.slice A0_0 l0_0.length c0_0), (.slice A0_1 l0_1.length c0_1), (.slice A0_2 l0_2.length c0_2)] 67 (0, 0))) ∧ Aside0 (Below w.heap.size w w'))
 case atStart => exact ⟨(0), (by first | rfl | (simp; done) | (simp [*]; done)), H', ⟨Nat.le_refl _⟩, ⟨by (with_reducible repeat (first | refine blk_drewN ?_ _ | refine blk_drew ?_ | refine blk_alloc ?_ _)); exact BK314.out⟩, ⟨by repeat (first | (with_reducible first | exact HB.out | apply below_alloc | apply pw_below_drewN | apply below_drew1 | refine below_set ?_ GE314.out) | exact HB.out)⟩⟩
 case round =>
  clear H'
  try clear p2
  obtain ⟨x3_1, rfl, HA, HK1, BK314, HB⟩ := hrel
  cases gk with
  | zero => exact absurd HA.out (by simp [newsreelref10_Right.l0])
  | succ k1 =>
   have H := HA.out
   clear HA
   simp only [newsreelref10_Right.l0] at H
   by_cases c3 : x3_1 < (l0_1.length : Int)
   ·rw [if_pos c3] at H
    have c3b0 : decide (x3_1 < (l0_1.length : Int)) = true := decide_eq_true c3
    clear c3
    by_cases c4 : 0 ≤ x3_1
    ·rw [if_pos c4] at H
     have c4b0 : decide (0 ≤ x3_1) = true := decide_eq_true c4
     clear c4
     replace H := Option.bind_eq_some_iff.mp H
     obtain ⟨t316, A50, H⟩ := H
     replace H : (if t316 = true then (if x3_1 > 0 then (if 0 ≤ (wrap64 (x3_1 - 1)) then (if (wrap64 (x3_1 - 1)) < (l0_1.length : Int) then (if ((Op.bytesLess (((rd_T77 l0_1 (wrap64 (x3_1 - 1))).f0).toList) (((rd_T77 l0_1 x3_1).f0).toList)) = true) then (newsreelref10_Right.l0 k1 (wrap64 (x3_1 + 1)) l0_0 l0_1 l0_2) else (some false)) else (none)) else (none)) else (newsreelref10_Right.l0 k1 (wrap64 (x3_1 + 1)) l0_0 l0_1 l0_2)) else (some false)) = some r := H
     have A5 := mkA A50
     clear A50
     by_cases c6 : t316 = true
     ·subst c6
      have H1 : (if x3_1 > 0 then (if 0 ≤ (wrap64 (x3_1 - 1)) then (if (wrap64 (x3_1 - 1)) < (l0_1.length : Int) then (if ((Op.bytesLess (((rd_T77 l0_1 (wrap64 (x3_1 - 1))).f0).toList) (((rd_T77 l0_1 x3_1).f0).toList)) = true) then (newsreelref10_Right.l0 k1 (wrap64 (x3_1 + 1)) l0_0 l0_1 l0_2) else (some false)) else (none)) else (none)) else (newsreelref10_Right.l0 k1 (wrap64 (x3_1 + 1)) l0_0 l0_1 l0_2)) = some r := by rw [if_pos rfl] at H; exact H
      clear H
      have H := H1
      clear H1
      by_cases c7 : x3_1 > 0
      ·rw [if_pos c7] at H
       have c7b0 : decide (0 < x3_1) = true := decide_eq_true c7
       clear c7
       obtain ⟨ji8, hji8⟩ : ∃ j_ : Int, (wrap64 (x3_1 - 1)) = j_ := ⟨_, rfl⟩
       replace H : (if 0 ≤ (ji8) then (if (ji8) < (l0_1.length : Int) then (if ((Op.bytesLess (((rd_T77 l0_1 (ji8)).f0).toList) (((rd_T77 l0_1 x3_1).f0).toList)) = true) then (newsreelref10_Right.l0 k1 (wrap64 (x3_1 + 1)) l0_0 l0_1 l0_2) else (some false)) else (none)) else (none)) = some r := by first | (rw [hji8] at H; exact H) | (simp only [hji8] at H ⊢; exact H)
       (try rw [hji8] at A5)
       have hji8w : (IntKind.i64.wrap (x3_1 - 1)) = ji8 := (i64_w _).trans hji8
       by_cases c9 : 0 ≤ (ji8)
       ·rw [if_pos c9] at H
        have c9b0 : decide (0 ≤ (ji8)) = true := decide_eq_true c9
        clear c9
        by_cases c10 : (ji8) < (l0_1.length : Int)
        ·rw [if_pos c10] at H
         have c10b0 : decide ((ji8) < (l0_1.length : Int)) = true := decide_eq_true c10
         clear c10
         by_cases c11 : ((Op.bytesLess (((rd_T77 l0_1 (ji8)).f0).toList) (((rd_T77 l0_1 x3_1).f0).toList)) = true)
         ·rw [if_pos c11] at H
          have c11b0 : (Op.bytesLess (((rd_T77 l0_1 (ji8)).f0).toList) (((rd_T77 l0_1 x3_1).f0).toList)) = true := c11
          have c11b7 := bl_gt1 c11b0
          have c11b8 := bl_gt2 c11b0
          clear c11
          as_aux_lemma =>
           have H' := mkA H
           clear H
           have hcz12_0 := bc BK314.out 0 (.slice A0_0 l0_0.length c0_0) rfl
           have hcz12_1 := bc BK314.out 1 (.slice A0_1 l0_1.length c0_1) rfl
           have hcz12_2 := bc BK314.out 2 (.slice A0_2 l0_2.length c0_2) rfl
           have hfz12_0 := blk_frozen BK314.out 0
           have hfz12_1 := blk_frozen BK314.out 1
           have hfz12_2 := blk_frozen BK314.out 2
           have p315 : 0 ≤ (x3_1 : Int) := odt
           have q315 : x3_1 < (l0_1.length : Int) := odt
           obtain ⟨ad315, e315, hx315_0, hx315_1⟩ := at_T77 HR0_1.out x3_1 p315 q315
           cases e315
           replace hx315_0 := (cb HB.out hx315_0).trans hx315_0
           replace hx315_1 := (cb HB.out hx315_1).trans hx315_1
           replace p315 := eq_true p315
           replace q315 := eq_true q315
           go_wp2_with (first | (go_at_call 47; (with_reducible refine (newsreelref10_Name.calls k1 ((rd_T77 l0_1 x3_1).f0) true _ A5.out).mono ?_); rintro e w' ⟨rfl, ⟨nd, rfl⟩⟩; (try first | exact ⟨rfl, _, World.drewN_drewN _ _ _⟩ | exact ⟨rfl, _, Eq.trans (World.drewN_drewN _ _ _) (congrArg (World.drewN _) (Nat.add_assoc _ _ _))⟩); have p317 : 0 ≤ ((ji8) : Int) := odt; have q317 : (ji8) < (l0_1.length : Int) := odt; obtain ⟨ad317, e317, hx317_0, hx317_1⟩ := at_T77 HR0_1.out (ji8) p317 q317; obtain rfl : ad315 = ad317 := (by injection e317); replace hx317_0 := (cb HB.out hx317_0).trans hx317_0; replace hx317_1 := (cb HB.out hx317_1).trans hx317_1; replace p317 := eq_true p317; replace q317 := eq_true q317; have p318 : 0 ≤ (x3_1 : Int) := odt; have q318 : x3_1 < (l0_1.length : Int) := odt; obtain ⟨ad318, e318, hx318_0, hx318_1⟩ := at_T77 HR0_1.out x3_1 p318 q318; obtain rfl : ad315 = ad318 := (by injection e318); replace hx318_0 := (cb HB.out hx318_0).trans hx318_0; replace hx318_1 := (cb HB.out hx318_1).trans hx318_1; replace p318 := eq_true p318; replace q318 := eq_true q318))
           repeat (go_quiet (first | (go_at_call 47; (with_reducible refine (newsreelref10_Name.calls k1 ((rd_T77 l0_1 x3_1).f0) true _ A5.out).mono ?_); rintro e w' ⟨rfl, ⟨nd, rfl⟩⟩; (try first | exact ⟨rfl, _, World.drewN_drewN _ _ _⟩ | exact ⟨rfl, _, Eq.trans (World.drewN_drewN _ _ _) (congrArg (World.drewN _) (Nat.add_assoc _ _ _))⟩); have p317 : 0 ≤ ((ji8) : Int) := odt; have q317 : (ji8) < (l0_1.length : Int) := odt; obtain ⟨ad317, e317, hx317_0, hx317_1⟩ := at_T77 HR0_1.out (ji8) p317 q317; obtain rfl : ad315 = ad317 := (by injection e317); replace hx317_0 := (cb HB.out hx317_0).trans hx317_0; replace hx317_1 := (cb HB.out hx317_1).trans hx317_1; replace p317 := eq_true p317; replace q317 := eq_true q317; have p318 : 0 ≤ (x3_1 : Int) := odt; have q318 : x3_1 < (l0_1.length : Int) := odt; obtain ⟨ad318, e318, hx318_0, hx318_1⟩ := at_T77 HR0_1.out x3_1 p318 q318; obtain rfl : ad315 = ad318 := (by injection e318); replace hx318_0 := (cb HB.out hx318_0).trans hx318_0; replace hx318_1 := (cb HB.out hx318_1).trans hx318_1; replace p318 := eq_true p318; replace q318 := eq_true q318)); try go_wp2_with (first | (go_at_call 47; (with_reducible refine (newsreelref10_Name.calls k1 ((rd_T77 l0_1 x3_1).f0) true _ A5.out).mono ?_); rintro e w' ⟨rfl, ⟨nd, rfl⟩⟩; (try first | exact ⟨rfl, _, World.drewN_drewN _ _ _⟩ | exact ⟨rfl, _, Eq.trans (World.drewN_drewN _ _ _) (congrArg (World.drewN _) (Nat.add_assoc _ _ _))⟩); have p317 : 0 ≤ ((ji8) : Int) := odt; have q317 : (ji8) < (l0_1.length : Int) := odt; obtain ⟨ad317, e317, hx317_0, hx317_1⟩ := at_T77 HR0_1.out (ji8) p317 q317; obtain rfl : ad315 = ad317 := (by injection e317); replace hx317_0 := (cb HB.out hx317_0).trans hx317_0; replace hx317_1 := (cb HB.out hx317_1).trans hx317_1; replace p317 := eq_true p317; replace q317 := eq_true q317; have p318 : 0 ≤ (x3_1 : Int) := odt; have q318 : x3_1 < (l0_1.length : Int) := odt; obtain ⟨ad318, e318, hx318_0, hx318_1⟩ := at_T77 HR0_1.out x3_1 p318 q318; obtain rfl : ad315 = ad318 := (by injection e318); replace hx318_0 := (cb HB.out hx318_0).trans hx318_0; replace hx318_1 := (cb HB.out hx318_1).trans hx318_1; replace p318 := eq_true p318; replace q318 := eq_true q318)))
           go_roundg k1
           case measure => have := HK1.out; omega
           case rel => exact ⟨(wrap64 (x3_1 + 1)), (by first | rfl | (simp; done) | (simp [*]; done)), H', ⟨by have := HK1.out; omega⟩, ⟨by (with_reducible repeat (first | refine blk_drewN ?_ _ | refine blk_drew ?_ | refine blk_alloc ?_ _)); exact BK314.out⟩, ⟨by repeat (first | (with_reducible first | exact HB.out | apply below_alloc | apply pw_below_drewN | apply below_drew1 | refine below_set ?_ GE314.out) | exact HB.out)⟩⟩
         ·rw [if_neg c11] at H
          have c11b0 : (Op.bytesLess (((rd_T77 l0_1 (ji8)).f0).toList) (((rd_T77 l0_1 x3_1).f0).toList)) = false := by simpa using c11
          have c11b7 := bl_le c11b0
          clear c11
          as_aux_lemma =>
           obtain rfl := Option.some.inj H
           have hcz13_0 := bc BK314.out 0 (.slice A0_0 l0_0.length c0_0) rfl
           have hcz13_1 := bc BK314.out 1 (.slice A0_1 l0_1.length c0_1) rfl
           have hcz13_2 := bc BK314.out 2 (.slice A0_2 l0_2.length c0_2) rfl
           have hfz13_0 := blk_frozen BK314.out 0
           have hfz13_1 := blk_frozen BK314.out 1
           have hfz13_2 := blk_frozen BK314.out 2
           have p315 : 0 ≤ (x3_1 : Int) := odt
           have q315 : x3_1 < (l0_1.length : Int) := odt
           obtain ⟨ad315, e315, hx315_0, hx315_1⟩ := at_T77 HR0_1.out x3_1 p315 q315
           cases e315
           replace hx315_0 := (cb HB.out hx315_0).trans hx315_0
           replace hx315_1 := (cb HB.out hx315_1).trans hx315_1
           replace p315 := eq_true p315
           replace q315 := eq_true q315
           go_wp2_with (first | (go_at_call 47; (with_reducible refine (newsreelref10_Name.calls k1 ((rd_T77 l0_1 x3_1).f0) true _ A5.out).mono ?_); rintro e w' ⟨rfl, ⟨nd, rfl⟩⟩; (try first | exact ⟨rfl, _, World.drewN_drewN _ _ _⟩ | exact ⟨rfl, _, Eq.trans (World.drewN_drewN _ _ _) (congrArg (World.drewN _) (Nat.add_assoc _ _ _))⟩); have p317 : 0 ≤ ((ji8) : Int) := odt; have q317 : (ji8) < (l0_1.length : Int) := odt; obtain ⟨ad317, e317, hx317_0, hx317_1⟩ := at_T77 HR0_1.out (ji8) p317 q317; obtain rfl : ad315 = ad317 := (by injection e317); replace hx317_0 := (cb HB.out hx317_0).trans hx317_0; replace hx317_1 := (cb HB.out hx317_1).trans hx317_1; replace p317 := eq_true p317; replace q317 := eq_true q317; have p318 : 0 ≤ (x3_1 : Int) := odt; have q318 : x3_1 < (l0_1.length : Int) := odt; obtain ⟨ad318, e318, hx318_0, hx318_1⟩ := at_T77 HR0_1.out x3_1 p318 q318; obtain rfl : ad315 = ad318 := (by injection e318); replace hx318_0 := (cb HB.out hx318_0).trans hx318_0; replace hx318_1 := (cb HB.out hx318_1).trans hx318_1; replace p318 := eq_true p318; replace q318 := eq_true q318))
           repeat (go_quiet (first | (go_at_call 47; (with_reducible refine (newsreelref10_Name.calls k1 ((rd_T77 l0_1 x3_1).f0) true _ A5.out).mono ?_); rintro e w' ⟨rfl, ⟨nd, rfl⟩⟩; (try first | exact ⟨rfl, _, World.drewN_drewN _ _ _⟩ | exact ⟨rfl, _, Eq.trans (World.drewN_drewN _ _ _) (congrArg (World.drewN _) (Nat.add_assoc _ _ _))⟩); have p317 : 0 ≤ ((ji8) : Int) := odt; have q317 : (ji8) < (l0_1.length : Int) := odt; obtain ⟨ad317, e317, hx317_0, hx317_1⟩ := at_T77 HR0_1.out (ji8) p317 q317; obtain rfl : ad315 = ad317 := (by injection e317); replace hx317_0 := (cb HB.out hx317_0).trans hx317_0; replace hx317_1 := (cb HB.out hx317_1).trans hx317_1; replace p317 := eq_true p317; replace q317 := eq_true q317; have p318 : 0 ≤ (x3_1 : Int) := odt; have q318 : x3_1 < (l0_1.length : Int) := odt; obtain ⟨ad318, e318, hx318_0, hx318_1⟩ := at_T77 HR0_1.out x3_1 p318 q318; obtain rfl : ad315 = ad318 := (by injection e318); replace hx318_0 := (cb HB.out hx318_0).trans hx318_0; replace hx318_1 := (cb HB.out hx318_1).trans hx318_1; replace p318 := eq_true p318; replace q318 := eq_true q318)); try go_wp2_with (first | (go_at_call 47; (with_reducible refine (newsreelref10_Name.calls k1 ((rd_T77 l0_1 x3_1).f0) true _ A5.out).mono ?_); rintro e w' ⟨rfl, ⟨nd, rfl⟩⟩; (try first | exact ⟨rfl, _, World.drewN_drewN _ _ _⟩ | exact ⟨rfl, _, Eq.trans (World.drewN_drewN _ _ _) (congrArg (World.drewN _) (Nat.add_assoc _ _ _))⟩); have p317 : 0 ≤ ((ji8) : Int) := odt; have q317 : (ji8) < (l0_1.length : Int) := odt; obtain ⟨ad317, e317, hx317_0, hx317_1⟩ := at_T77 HR0_1.out (ji8) p317 q317; obtain rfl : ad315 = ad317 := (by injection e317); replace hx317_0 := (cb HB.out hx317_0).trans hx317_0; replace hx317_1 := (cb HB.out hx317_1).trans hx317_1; replace p317 := eq_true p317; replace q317 := eq_true q317; have p318 : 0 ≤ (x3_1 : Int) := odt; have q318 : x3_1 < (l0_1.length : Int) := odt; obtain ⟨ad318, e318, hx318_0, hx318_1⟩ := at_T77 HR0_1.out x3_1 p318 q318; obtain rfl : ad315 = ad318 := (by injection e318); replace hx318_0 := (cb HB.out hx318_0).trans hx318_0; replace hx318_1 := (cb HB.out hx318_1).trans hx318_1; replace p318 := eq_true p318; replace q318 := eq_true q318)))
           go_ret
           exact ⟨by first | rfl | (simp [errW_none, errW_some] <;> rfl) | (simp only [← hji8]; first | rfl | (simp [errW_none, errW_some] <;> rfl)) | (simp [*, errW_none, errW_some] <;> rfl), by repeat (first | (with_reducible first | exact HB.out | apply below_alloc | apply pw_below_drewN | apply below_drew1 | refine below_set ?_ GE314.out) | exact HB.out)⟩
        ·rw [if_neg c10] at H
         exact absurd H (by simp)
       ·rw [if_neg c9] at H
        exact absurd H (by simp)
      ·rw [if_neg c7] at H
       have c7b0 : decide (0 < x3_1) = false := decide_eq_false c7
       clear c7
       as_aux_lemma =>
        have H' := mkA H
        clear H
        have hcz14_0 := bc BK314.out 0 (.slice A0_0 l0_0.length c0_0) rfl
        have hcz14_1 := bc BK314.out 1 (.slice A0_1 l0_1.length c0_1) rfl
        have hcz14_2 := bc BK314.out 2 (.slice A0_2 l0_2.length c0_2) rfl
        have hfz14_0 := blk_frozen BK314.out 0
        have hfz14_1 := blk_frozen BK314.out 1
        have hfz14_2 := blk_frozen BK314.out 2
        have p315 : 0 ≤ (x3_1 : Int) := odt
        have q315 : x3_1 < (l0_1.length : Int) := odt
        obtain ⟨ad315, e315, hx315_0, hx315_1⟩ := at_T77 HR0_1.out x3_1 p315 q315
        cases e315
        replace hx315_0 := (cb HB.out hx315_0).trans hx315_0
        replace hx315_1 := (cb HB.out hx315_1).trans hx315_1
        replace p315 := eq_true p315
        replace q315 := eq_true q315
        go_wp2_with (first | (go_at_call 47; (with_reducible refine (newsreelref10_Name.calls k1 ((rd_T77 l0_1 x3_1).f0) true _ A5.out).mono ?_); rintro e w' ⟨rfl, ⟨nd, rfl⟩⟩; (try first | exact ⟨rfl, _, World.drewN_drewN _ _ _⟩ | exact ⟨rfl, _, Eq.trans (World.drewN_drewN _ _ _) (congrArg (World.drewN _) (Nat.add_assoc _ _ _))⟩)))
        repeat (go_quiet (first | (go_at_call 47; (with_reducible refine (newsreelref10_Name.calls k1 ((rd_T77 l0_1 x3_1).f0) true _ A5.out).mono ?_); rintro e w' ⟨rfl, ⟨nd, rfl⟩⟩; (try first | exact ⟨rfl, _, World.drewN_drewN _ _ _⟩ | exact ⟨rfl, _, Eq.trans (World.drewN_drewN _ _ _) (congrArg (World.drewN _) (Nat.add_assoc _ _ _))⟩))); try go_wp2_with (first | (go_at_call 47; (with_reducible refine (newsreelref10_Name.calls k1 ((rd_T77 l0_1 x3_1).f0) true _ A5.out).mono ?_); rintro e w' ⟨rfl, ⟨nd, rfl⟩⟩; (try first | exact ⟨rfl, _, World.drewN_drewN _ _ _⟩ | exact ⟨rfl, _, Eq.trans (World.drewN_drewN _ _ _) (congrArg (World.drewN _) (Nat.add_assoc _ _ _))⟩))))
        go_roundg k1
        case measure => have := HK1.out; omega
        case rel => exact ⟨(wrap64 (x3_1 + 1)), (by first | rfl | (simp; done) | (simp [*]; done)), H', ⟨by have := HK1.out; omega⟩, ⟨by (with_reducible repeat (first | refine blk_drewN ?_ _ | refine blk_drew ?_ | refine blk_alloc ?_ _)); exact BK314.out⟩, ⟨by repeat (first | (with_reducible first | exact HB.out | apply below_alloc | apply pw_below_drewN | apply below_drew1 | refine below_set ?_ GE314.out) | exact HB.out)⟩⟩
     ·replace c6 := Bool.eq_false_iff.mpr c6
      subst c6
      have H1 : (some false) = some r := by rw [if_neg (show ¬ (false = true) by decide)] at H; exact H
      clear H
      have H := H1
      clear H1
      as_aux_lemma =>
       obtain rfl := Option.some.inj H
       have hcz15_0 := bc BK314.out 0 (.slice A0_0 l0_0.length c0_0) rfl
       have hcz15_1 := bc BK314.out 1 (.slice A0_1 l0_1.length c0_1) rfl
       have hcz15_2 := bc BK314.out 2 (.slice A0_2 l0_2.length c0_2) rfl
       have hfz15_0 := blk_frozen BK314.out 0
       have hfz15_1 := blk_frozen BK314.out 1
       have hfz15_2 := blk_frozen BK314.out 2
       have p315 : 0 ≤ (x3_1 : Int) := odt
       have q315 : x3_1 < (l0_1.length : Int) := odt
       obtain ⟨ad315, e315, hx315_0, hx315_1⟩ := at_T77 HR0_1.out x3_1 p315 q315
       cases e315
       replace hx315_0 := (cb HB.out hx315_0).trans hx315_0
       replace hx315_1 := (cb HB.out hx315_1).trans hx315_1
       replace p315 := eq_true p315
       replace q315 := eq_true q315
       go_wp2_with (first | (go_at_call 47; (with_reducible refine (newsreelref10_Name.calls k1 ((rd_T77 l0_1 x3_1).f0) false _ A5.out).mono ?_); rintro e w' ⟨rfl, ⟨nd, rfl⟩⟩; (try first | exact ⟨rfl, _, World.drewN_drewN _ _ _⟩ | exact ⟨rfl, _, Eq.trans (World.drewN_drewN _ _ _) (congrArg (World.drewN _) (Nat.add_assoc _ _ _))⟩)))
       repeat (go_quiet (first | (go_at_call 47; (with_reducible refine (newsreelref10_Name.calls k1 ((rd_T77 l0_1 x3_1).f0) false _ A5.out).mono ?_); rintro e w' ⟨rfl, ⟨nd, rfl⟩⟩; (try first | exact ⟨rfl, _, World.drewN_drewN _ _ _⟩ | exact ⟨rfl, _, Eq.trans (World.drewN_drewN _ _ _) (congrArg (World.drewN _) (Nat.add_assoc _ _ _))⟩))); try go_wp2_with (first | (go_at_call 47; (with_reducible refine (newsreelref10_Name.calls k1 ((rd_T77 l0_1 x3_1).f0) false _ A5.out).mono ?_); rintro e w' ⟨rfl, ⟨nd, rfl⟩⟩; (try first | exact ⟨rfl, _, World.drewN_drewN _ _ _⟩ | exact ⟨rfl, _, Eq.trans (World.drewN_drewN _ _ _) (congrArg (World.drewN _) (Nat.add_assoc _ _ _))⟩))))
       go_ret
       exact ⟨by first | rfl | (simp [errW_none, errW_some] <;> rfl) | (simp [*, errW_none, errW_some] <;> rfl), by repeat (first | (with_reducible first | exact HB.out | apply below_alloc | apply pw_below_drewN | apply below_drew1 | refine below_set ?_ GE314.out) | exact HB.out)⟩
    ·rw [if_neg c4] at H
     exact absurd H (by simp)
   ·rw [if_neg c3] at H
    have c3b0 : decide (x3_1 < (l0_1.length : Int)) = false := decide_eq_false c3
    clear c3
    by_cases c16 : (l0_1.length : Int) > 100
    ·rw [if_pos c16] at H
     have c16b0 : decide (100 < (l0_1.length : Int)) = true := decide_eq_true c16
     have c16b1 : decide (100 < l0_1.length) = true := decide_eq_true (by omega)
     clear c16
     as_aux_lemma =>
      obtain rfl := Option.some.inj H
      have hcz17_0 := bc BK314.out 0 (.slice A0_0 l0_0.length c0_0) rfl
      have hcz17_1 := bc BK314.out 1 (.slice A0_1 l0_1.length c0_1) rfl
      have hcz17_2 := bc BK314.out 2 (.slice A0_2 l0_2.length c0_2) rfl
      have hfz17_0 := blk_frozen BK314.out 0
      have hfz17_1 := blk_frozen BK314.out 1
      have hfz17_2 := blk_frozen BK314.out 2
      go_wp2
      repeat (go_quiet (fail); try go_wp2)
      go_ret
      exact ⟨by first | rfl | (simp [errW_none, errW_some] <;> rfl) | (simp [*, errW_none, errW_some] <;> rfl), by repeat (first | (with_reducible first | exact HB.out | apply below_alloc | apply pw_below_drewN | apply below_drew1 | refine below_set ?_ GE314.out) | exact HB.out)⟩
    ·rw [if_neg c16] at H
     have c16b0 : decide (100 < (l0_1.length : Int)) = false := decide_eq_false c16
     have c16b1 : decide (100 < l0_1.length) = false := decide_eq_false (by omega)
     clear c16
     replace H := Option.bind_eq_some_iff.mp H
     obtain ⟨⟨t319, t322⟩, A180, H⟩ := H
     replace H : (if t322 = true then ((newsreelref10_Entries.f k1 t319 l0_0).bind fun t323 => (some t323)) else (some false)) = some r := H
     have A18 := mkA A180
     clear A180
     by_cases c19 : t322 = true
     ·subst c19
      have H1 : ((newsreelref10_Entries.f k1 t319 l0_0).bind fun t323 => (some t323)) = some r := by rw [if_pos rfl] at H; exact H
      clear H
      have H := H1
      clear H1
      replace H := Option.bind_eq_some_iff.mp H
      obtain ⟨t323, A200, H⟩ := H
      replace H : (some t323) = some r := H
      have A20 := mkA A200
      clear A200
      as_aux_lemma =>
       obtain rfl := Option.some.inj H
       have hcz21_0 := bc BK314.out 0 (.slice A0_0 l0_0.length c0_0) rfl
       have hcz21_1 := bc BK314.out 1 (.slice A0_1 l0_1.length c0_1) rfl
       have hcz21_2 := bc BK314.out 2 (.slice A0_2 l0_2.length c0_2) rfl
       have hfz21_0 := blk_frozen BK314.out 0
       have hfz21_1 := blk_frozen BK314.out 1
       have hfz21_2 := blk_frozen BK314.out 2
       go_wp2_with (first | (go_at_call 99; (with_reducible refine (newsreelref10_All.calls k1 (fun k_ => k_ < w.heap.size) _ _ l0_1 _ _ l0_2 t319 true _ ?side1 ?side2 ?side3 A18.out).mono ?_); (case side1 => exact Kd.V_mk HC0_1.out (Kd.F_below (Kd.C_F k77_heap HR0_1.out) (below_y HB.out))); (case side2 => exact cz HR0_2.out HB.out); (case side3 => exact HC0_2.out); rintro e w22 ⟨v320, rfl, ho0, hb⟩; have n0_ := mkA (Kd.V_lower (Kd.V_mono (ok' := fun k_ => k_ ≠ gb314) ho0 (fun k_ hk_ => Or.elim hk_ (fun hs_ => fun e_ => Nat.not_le.2 hs_ (by rw [e_]; exact GW314.out)) (fun hn_ => (Kd.freshB (blk_y BK314.out) k_ hn_)))) (below_size (below_y HB.out))); have n1_ := mkA (blk_below (blk_y BK314.out) hb); have n2_ := mkA (below_step (below_y HB.out) hb); clear BK314; clear HB; have HO321 := n0_; have BK314 := n1_; have HB := n2_; clear n0_ n1_ n2_; (try clear hb); (try clear hb2); (try clear hk); (try clear hi); (try clear ho0); have hcz23_0 := bc BK314.out 0 (.slice A0_0 l0_0.length c0_0) rfl; have hcz23_1 := bc BK314.out 1 (.slice A0_1 l0_1.length c0_1) rfl; have hcz23_2 := bc BK314.out 2 (.slice A0_2 l0_2.length c0_2) rfl; have hfz23_0 := blk_frozen BK314.out 0; have hfz23_1 := blk_frozen BK314.out 1; have hfz23_2 := blk_frozen BK314.out 2; obtain ⟨Ao24, co24, eo24⟩ := Kd.V_slice HO321.out; subst eo24) | (go_at_call 56; (with_reducible refine (newsreelref10_Entries.calls k1 _ _ t319 _ _ l0_0 t323 _ ?side1 ?side2 ?side3 ?side4 A20.out).mono ?_); (case side1 => exact Kd.C_y (Kd.V_reads' HO321.out).2.2); (case side2 => exact (Kd.V_reads' HO321.out).2.1); (case side3 => exact cz HR0_0.out HB.out); (case side4 => exact HC0_0.out); rintro e w' ⟨rfl, ⟨nd, rfl⟩⟩; (try first | exact ⟨rfl, _, World.drewN_drewN _ _ _⟩ | exact ⟨rfl, _, Eq.trans (World.drewN_drewN _ _ _) (congrArg (World.drewN _) (Nat.add_assoc _ _ _))⟩)))
       repeat (go_quiet (first | (go_at_call 99; (with_reducible refine (newsreelref10_All.calls k1 (fun k_ => k_ < w.heap.size) _ _ l0_1 _ _ l0_2 t319 true _ ?side1 ?side2 ?side3 A18.out).mono ?_); (case side1 => exact Kd.V_mk HC0_1.out (Kd.F_below (Kd.C_F k77_heap HR0_1.out) (below_y HB.out))); (case side2 => exact cz HR0_2.out HB.out); (case side3 => exact HC0_2.out); rintro e w22 ⟨v320, rfl, ho0, hb⟩; have n0_ := mkA (Kd.V_lower (Kd.V_mono (ok' := fun k_ => k_ ≠ gb314) ho0 (fun k_ hk_ => Or.elim hk_ (fun hs_ => fun e_ => Nat.not_le.2 hs_ (by rw [e_]; exact GW314.out)) (fun hn_ => (Kd.freshB (blk_y BK314.out) k_ hn_)))) (below_size (below_y HB.out))); have n1_ := mkA (blk_below (blk_y BK314.out) hb); have n2_ := mkA (below_step (below_y HB.out) hb); clear BK314; clear HB; have HO321 := n0_; have BK314 := n1_; have HB := n2_; clear n0_ n1_ n2_; (try clear hb); (try clear hb2); (try clear hk); (try clear hi); (try clear ho0); have hcz23_0 := bc BK314.out 0 (.slice A0_0 l0_0.length c0_0) rfl; have hcz23_1 := bc BK314.out 1 (.slice A0_1 l0_1.length c0_1) rfl; have hcz23_2 := bc BK314.out 2 (.slice A0_2 l0_2.length c0_2) rfl; have hfz23_0 := blk_frozen BK314.out 0; have hfz23_1 := blk_frozen BK314.out 1; have hfz23_2 := blk_frozen BK314.out 2; obtain ⟨Ao24, co24, eo24⟩ := Kd.V_slice HO321.out; subst eo24) | (go_at_call 56; (with_reducible refine (newsreelref10_Entries.calls k1 _ _ t319 _ _ l0_0 t323 _ ?side1 ?side2 ?side3 ?side4 A20.out).mono ?_); (case side1 => exact Kd.C_y (Kd.V_reads' HO321.out).2.2); (case side2 => exact (Kd.V_reads' HO321.out).2.1); (case side3 => exact cz HR0_0.out HB.out); (case side4 => exact HC0_0.out); rintro e w' ⟨rfl, ⟨nd, rfl⟩⟩; (try first | exact ⟨rfl, _, World.drewN_drewN _ _ _⟩ | exact ⟨rfl, _, Eq.trans (World.drewN_drewN _ _ _) (congrArg (World.drewN _) (Nat.add_assoc _ _ _))⟩))); try go_wp2_with (first | (go_at_call 99; (with_reducible refine (newsreelref10_All.calls k1 (fun k_ => k_ < w.heap.size) _ _ l0_1 _ _ l0_2 t319 true _ ?side1 ?side2 ?side3 A18.out).mono ?_); (case side1 => exact Kd.V_mk HC0_1.out (Kd.F_below (Kd.C_F k77_heap HR0_1.out) (below_y HB.out))); (case side2 => exact cz HR0_2.out HB.out); (case side3 => exact HC0_2.out); rintro e w22 ⟨v320, rfl, ho0, hb⟩; have n0_ := mkA (Kd.V_lower (Kd.V_mono (ok' := fun k_ => k_ ≠ gb314) ho0 (fun k_ hk_ => Or.elim hk_ (fun hs_ => fun e_ => Nat.not_le.2 hs_ (by rw [e_]; exact GW314.out)) (fun hn_ => (Kd.freshB (blk_y BK314.out) k_ hn_)))) (below_size (below_y HB.out))); have n1_ := mkA (blk_below (blk_y BK314.out) hb); have n2_ := mkA (below_step (below_y HB.out) hb); clear BK314; clear HB; have HO321 := n0_; have BK314 := n1_; have HB := n2_; clear n0_ n1_ n2_; (try clear hb); (try clear hb2); (try clear hk); (try clear hi); (try clear ho0); have hcz23_0 := bc BK314.out 0 (.slice A0_0 l0_0.length c0_0) rfl; have hcz23_1 := bc BK314.out 1 (.slice A0_1 l0_1.length c0_1) rfl; have hcz23_2 := bc BK314.out 2 (.slice A0_2 l0_2.length c0_2) rfl; have hfz23_0 := blk_frozen BK314.out 0; have hfz23_1 := blk_frozen BK314.out 1; have hfz23_2 := blk_frozen BK314.out 2; obtain ⟨Ao24, co24, eo24⟩ := Kd.V_slice HO321.out; subst eo24) | (go_at_call 56; (with_reducible refine (newsreelref10_Entries.calls k1 _ _ t319 _ _ l0_0 t323 _ ?side1 ?side2 ?side3 ?side4 A20.out).mono ?_); (case side1 => exact Kd.C_y (Kd.V_reads' HO321.out).2.2); (case side2 => exact (Kd.V_reads' HO321.out).2.1); (case side3 => exact cz HR0_0.out HB.out); (case side4 => exact HC0_0.out); rintro e w' ⟨rfl, ⟨nd, rfl⟩⟩; (try first | exact ⟨rfl, _, World.drewN_drewN _ _ _⟩ | exact ⟨rfl, _, Eq.trans (World.drewN_drewN _ _ _) (congrArg (World.drewN _) (Nat.add_assoc _ _ _))⟩))))
       go_ret
       exact ⟨by first | rfl | (simp [errW_none, errW_some] <;> rfl) | (simp [*, errW_none, errW_some] <;> rfl), by repeat (first | (with_reducible first | exact HB.out | apply below_alloc | apply pw_below_drewN | apply below_drew1 | refine below_set ?_ GE314.out) | exact HB.out)⟩
     ·replace c19 := Bool.eq_false_iff.mpr c19
      subst c19
      have H1 : (some false) = some r := by rw [if_neg (show ¬ (false = true) by decide)] at H; exact H
      clear H
      have H := H1
      clear H1
      as_aux_lemma =>
       obtain rfl := Option.some.inj H
       have hcz25_0 := bc BK314.out 0 (.slice A0_0 l0_0.length c0_0) rfl
       have hcz25_1 := bc BK314.out 1 (.slice A0_1 l0_1.length c0_1) rfl
       have hcz25_2 := bc BK314.out 2 (.slice A0_2 l0_2.length c0_2) rfl
       have hfz25_0 := blk_frozen BK314.out 0
       have hfz25_1 := blk_frozen BK314.out 1
       have hfz25_2 := blk_frozen BK314.out 2
       go_wp2_with (first | (go_at_call 99; (with_reducible refine (newsreelref10_All.calls k1 (fun k_ => k_ < w.heap.size) _ _ l0_1 _ _ l0_2 t319 false _ ?side1 ?side2 ?side3 A18.out).mono ?_); (case side1 => exact Kd.V_mk HC0_1.out (Kd.F_below (Kd.C_F k77_heap HR0_1.out) (below_y HB.out))); (case side2 => exact cz HR0_2.out HB.out); (case side3 => exact HC0_2.out); rintro e w26 ⟨v320, rfl, ho0, hb⟩; have n0_ := mkA (Kd.V_lower (Kd.V_mono (ok' := fun k_ => k_ ≠ gb314) ho0 (fun k_ hk_ => Or.elim hk_ (fun hs_ => fun e_ => Nat.not_le.2 hs_ (by rw [e_]; exact GW314.out)) (fun hn_ => (Kd.freshB (blk_y BK314.out) k_ hn_)))) (below_size (below_y HB.out))); have n1_ := mkA (blk_below (blk_y BK314.out) hb); have n2_ := mkA (below_step (below_y HB.out) hb); clear BK314; clear HB; have HO321 := n0_; have BK314 := n1_; have HB := n2_; clear n0_ n1_ n2_; (try clear hb); (try clear hb2); (try clear hk); (try clear hi); (try clear ho0)))
       repeat (go_quiet (first | (go_at_call 99; (with_reducible refine (newsreelref10_All.calls k1 (fun k_ => k_ < w.heap.size) _ _ l0_1 _ _ l0_2 t319 false _ ?side1 ?side2 ?side3 A18.out).mono ?_); (case side1 => exact Kd.V_mk HC0_1.out (Kd.F_below (Kd.C_F k77_heap HR0_1.out) (below_y HB.out))); (case side2 => exact cz HR0_2.out HB.out); (case side3 => exact HC0_2.out); rintro e w26 ⟨v320, rfl, ho0, hb⟩; have n0_ := mkA (Kd.V_lower (Kd.V_mono (ok' := fun k_ => k_ ≠ gb314) ho0 (fun k_ hk_ => Or.elim hk_ (fun hs_ => fun e_ => Nat.not_le.2 hs_ (by rw [e_]; exact GW314.out)) (fun hn_ => (Kd.freshB (blk_y BK314.out) k_ hn_)))) (below_size (below_y HB.out))); have n1_ := mkA (blk_below (blk_y BK314.out) hb); have n2_ := mkA (below_step (below_y HB.out) hb); clear BK314; clear HB; have HO321 := n0_; have BK314 := n1_; have HB := n2_; clear n0_ n1_ n2_; (try clear hb); (try clear hb2); (try clear hk); (try clear hi); (try clear ho0))); try go_wp2_with (first | (go_at_call 99; (with_reducible refine (newsreelref10_All.calls k1 (fun k_ => k_ < w.heap.size) _ _ l0_1 _ _ l0_2 t319 false _ ?side1 ?side2 ?side3 A18.out).mono ?_); (case side1 => exact Kd.V_mk HC0_1.out (Kd.F_below (Kd.C_F k77_heap HR0_1.out) (below_y HB.out))); (case side2 => exact cz HR0_2.out HB.out); (case side3 => exact HC0_2.out); rintro e w26 ⟨v320, rfl, ho0, hb⟩; have n0_ := mkA (Kd.V_lower (Kd.V_mono (ok' := fun k_ => k_ ≠ gb314) ho0 (fun k_ hk_ => Or.elim hk_ (fun hs_ => fun e_ => Nat.not_le.2 hs_ (by rw [e_]; exact GW314.out)) (fun hn_ => (Kd.freshB (blk_y BK314.out) k_ hn_)))) (below_size (below_y HB.out))); have n1_ := mkA (blk_below (blk_y BK314.out) hb); have n2_ := mkA (below_step (below_y HB.out) hb); clear BK314; clear HB; have HO321 := n0_; have BK314 := n1_; have HB := n2_; clear n0_ n1_ n2_; (try clear hb); (try clear hb2); (try clear hk); (try clear hi); (try clear ho0))))
       go_ret
       exact ⟨by first | rfl | (simp [errW_none, errW_some] <;> rfl) | (simp [*, errW_none, errW_some] <;> rfl), by repeat (first | (with_reducible first | exact HB.out | apply below_alloc | apply pw_below_drewN | apply below_drew1 | refine below_set ?_ GE314.out) | exact HB.out)⟩

end Go.Proofs.Ytkkikdjfigffhab.XDir
